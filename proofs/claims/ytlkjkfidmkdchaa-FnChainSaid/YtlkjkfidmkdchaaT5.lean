import Derived.Test.YtlkjkfidmkdchaaT4
import Derived.LoopN
import Derived.ChangeArms
import Derived.ChangeSlices
import Derived.WideShapes
import Derived.SizedLaws
import Derived.RowKit
import Derived.ChangeOld
import Derived.Test.YtlkjkfidmkdchaaT1
import Derived.IntWalk
import Derived.Carry
import Derived.OpenShut
set_option linter.all false
namespace Go.T
variable {F : Nat → Prop} {A : Arg} {w0 w w' : World} {φ φ' φ1 : Fp} {st st' sta cG lR : TS} {tm AK : Array Value} {C : jC}
variable {R : Type} {cf : Cf} {lp : Lp} {Q : R → Prop}
variable {fx : List Nat} {g : Nat → Value} {n : Nat}
def pT (o:Oper):Bool:=match o.op with| .load _ _=>true|_=>false
def B8 (o:Oper):Bool:=match o.op with| .select _ _=>true|_=>false
def rK (C:jC) (o:Oper):Bool:=match yI C o with|true=>true|false=>pT o
def mV (o:Oper):List Nat:=(o.after.toList.filter (Region.binds .any)).map (·.on)
def Oy:List Nat→List Nat→Bool
 |[],_=>true
 |a::r,l=>match jc a l with|true=>Oy r l|false=>false
def vp (ops:Array Oper):Nat→Nat→List Nat→List Nat
 |0,_,W=>W
 |k+1,j,W=>match ops[j]? with
  |some o=>match qy (mV o) W with|true=>vp ops k (j+1) (j::W)|false=>vp ops k (j+1) W
  |none=>W
def SK (ops:Array Oper) (W:List Nat) (i:Nat) (oi:Oper) (j:Nat) (oj:Oper):Bool:=
 ((match oj.dst with|some d=> !jc d (oi.looksAt ops)|none=>true)||(!pT oi&&jc j W))&&
 (jc j W||((match oj.dst with|some d=>(match oi.dst with|some e=> !Nat.beq d e|none=>true)|none=>true)&&
 (jc i (mV oj)||(match oi.dst with|some d=> !jc d (oj.looksAt ops)|none=>true))))
def G3 (ops:Array Oper) (oi:Oper):Bool:=match oi.dst with|some d=> !jc d (oi.looksAt ops)|none=>true
def G4 (f:Nat→Bool):Nat→Bool
 |0=>true
 |k+1=>match f k with|true=>G4 f k|false=>false
theorem vq {f:Nat→Bool}: ∀{k:Nat},G4 f k=true→ ∀j,j<k→f j=true
 |0,_,j,h=>absurd h ax
 |k+1,h,j,hj=>by
  simp only[G4] at h
  split at h
  ·by_cases e:j=k
   ·subst e;assumption
   ·exact vq h j ax
  ·cases h
def zy.tw:zy→List Nat
 | .nil=>[]
 | .op i _ _=>[i]
 | .alt a b=>a.tw++b.tw
def zy.len:zy→Nat
 | .nil=>0
 | .op _ _ r=>r.len+1
 | .alt a _=>a.len
def opB (C:jC) (ops:Array Oper) (hs:Option (List Nat)) (S:List Nat) (i:Nat) (fl:List Nat) (o:Oper):Bool:=
 !jc i S&&Oy (mV o) S&& !B8 o&&(match rK C o with
   |true=>hs.isNone&&G3 ops o&&fL fN (vp ops ops.size 0 [i]) fun W=>G4 (fun j=>jc j S||Nat.beq j i||(match ops[j]? with|some oj=>SK ops W i o j oj|none=>true)) ops.size
   |false=>G4 (fun j=>jc j S||Nat.beq j i||jc j (hs.getD [])||(match ops[j]? with|some oj=> !Oy (mV oj) S|none=>true)) ops.size&&
     G4 (fun l=> !jc l S||jc l fl||(match ops[l]? with|some ol=> !pT ol|none=>true)||jc i (vp ops ops.size 0 [l])) ops.size)
def eA (C:jC) (ops:Array Oper):Option (List Nat)→List Nat→zy→Bool
 |none,S,.nil=>G4 (fun j=>jc j S) ops.size
 |some _,_,.nil=>false
 |hs,S,.op i fl r=>match ops[i]? with
  |none=>false
  |some o=>opB C ops hs S i fl o&&eA C ops none (i::S) r
 |hs,S,.alt a b=>eA C ops (some (hs.getD (a.tw++b.tw))) S a&&eA C ops (some (hs.getD (a.tw++b.tw))) S b&&Nat.beq a.len b.len
theorem UO {a l:List Nat} (h:Oy a l=true): ∀x∈a,x∈l:=by
 induction a with
 |nil=>intro x hx;cases hx
 |cons y r ih=>
  simp only[Oy] at h
  split at h
  ·intro x hx
   rcases cw.1 hx with rfl|hx
   ·exact iz.1 ZP
   ·exact ih h x hx
  ·cases h
theorem UP {a l:List Nat} (h: ∀x∈a,x∈l):Oy a l=true:=by
 induction a with
 |nil=>rfl
 |cons y r ih=>
  simp only[Oy,iz.2 (h y (.head _))];exact ih fun x hx=>h x (.tail _ hx)
def YN (P:Program) (ops:Array Oper) (o:Oper) (v:Value) (a:Act) (w:World):Prop:=
 (Region.wanted o (yielded ops a.tmps)=true∧(execOp a.eval o).run P w= .ok (.value v) w)∨(Region.wanted o (yielded ops a.tmps)=false∧v=undef)
def Kp (C:jC) (ops:Array Oper) (o:Oper) (v:Value) (a:Act) (w:World):Prop:=
 (Region.wanted o (yielded ops a.tmps)=false∧v=undef)∨(Region.wanted o (yielded ops a.tmps)=true∧
   ((∀w,(execOp a.eval o).run C.P w= .ok (.value v) w)∨ ∃t x ad vs,o.op= .load t x∧a.eval x= .pointer (some ad)∧known (C.tt t)=true∧vs.length=(C.tt t).size∧(∀(j:Nat) (u:Value),vs[j]?=some u→w.cell? (ad.add j)=some u)∧v=valOf (C.tt t) vs))
theorem Kp.yn (hT:ef C) {ops:Array Oper} {o:Oper} {v:Value} {a:Act} (h:Kp C ops o v a w):YN C.P ops o v a w:=by
 rcases h with⟨h1,h2⟩|⟨h1,h2|⟨t,x,ad,vs,ho,hx,hk,hl,hc,rfl⟩⟩
 ·exact .inr ⟨h1,h2⟩
 ·exact .inl ⟨h1,h2 w⟩
 ·refine .inl ⟨h1,?_⟩
  have:=wg (hT t hk) w ad vs hl hc;unfold execOp;rw[ho];simp only[hx,Instr.loadAt,Instr.sureAddr,Sem.run_bind,Sem.run_pure,Result.andThen];rw[this]
  rfl
theorem Kp.same {ops:Array Oper} {o:Oper} {v:Value} {a a':Act} (h:Kp C ops o v a w) (he:execOp a'.eval o=execOp a.eval o) (hx: ∀t x,o.op= .load t x→a'.eval x=a.eval x) (hw:Region.wanted o (yielded ops a'.tmps)=Region.wanted o (yielded ops a.tmps)):Kp C ops o v a' w:=by
 unfold Kp at*;rw[hw,he];rcases h with h|⟨h1,h2|⟨t,x,ad,vs,ho,hx',hr⟩⟩
 ·exact .inl h
 ·exact .inr ⟨h1,.inl h2⟩
 ·exact .inr ⟨h1,.inr ⟨t,x,ad,vs,ho,(hx t x ho).trans hx',hr⟩⟩
theorem Kp.world (hT:ef C) {ops:Array Oper} {o:Oper} {v:Value} {a:Act} (h:Kp C ops o v a w) (hw: ∀t x ad,o.op= .load t x→a.eval x= .pointer (some ad)→Region.wanted o (yielded ops a.tmps)=true→ad.block<w.heap.size→w'.heap[ad.block]?=w.heap[ad.block]?):Kp C ops o v a w':=by
 rcases h with h|⟨h1,h2|⟨t,x,ad,vs,ho,hx,hk,hl,hc,hv⟩⟩
 ·exact .inl h
 ·exact .inr ⟨h1,.inl h2⟩
 ·refine .inr ⟨h1,.inr ⟨t,x,ad,vs,ho,hx,hk,hl,fun j u hj=> ?_,hv⟩⟩
  have hcj:=hc j u hj;have hlt:=World.block_lt_of_cell? w _ hcj;rw[bH] at hlt;rw[dS (w:=w) (by rw[bH];exact hw t x ad ho hx h1 hlt)];exact hcj
theorem Oz (hT:ef C) {a:Act} (h:aH F A w0 φ st a.tmps w) {t:TypeId} {x:Operand} {K:TE→Ev R} (hk:(Ap C st t (oy C st 0 x) K).holds cf lp Q):
 ∃(ad:Addr) (vs:List Value),a.eval x= .pointer (some ad)∧known (C.tt t)=true∧vs.length=(C.tt t).size∧ ∀(j:Nat) (u:Value),vs[j]?=some u→w.cell? (ad.add j)=some u:=by
 have ht:=de hT h 0 x
 have fin: ∀(ad:Addr) (xs:List CE) (K:TE→Ev R),a.eval x= .pointer (some ad)→(∀(j:Nat) (e:CE),xs[j]?=some e→ ∃u,w.cell? (ad.add j)=some u)→(Ao C t xs K).holds cf lp Q→
  ∃(ad:Addr) (vs:List Value),a.eval x= .pointer (some ad)∧known (C.tt t)=true∧vs.length=(C.tt t).size∧ ∀(j:Nat) (u:Value),vs[j]?=some u→w.cell? (ad.add j)=some u:=by
  intro ad xs K hv hx hk;unfold Ao at hk
  split at hk
  ·rename_i hkn hl
   obtain⟨vs,h1,h2⟩:=BV (Pr:=fun j (e:CE) u=>w.cell? (ad.add j)=some u) xs 0 (fun j e he=>by rw[ic];exact hx j e he);refine⟨ad,vs,hv,hkn,by rw[h1];exact fk hl,fun j u hj=> ?_⟩
   have hlt:j<xs.length:=by rw[←h1];exact(List.getElem?_eq_some_iff.1 hj).1
   obtain⟨u',g1,g2⟩:=h2 j xs[j] (aZ hlt);rw[hj] at g1;cases g1;rw[ic] at g2;exact g2
  ·exact hk.elim
 cases he:oy C st 0 x with
 |bp b off=>
  rw[he] at ht hk;simp only[Ap] at hk
  split at hk
  ·rename_i cs hb
   refine fin _ _ _ ht (fun j e he=> ?_) hk;have he:=dU he;rw[lY] at he;obtain⟨u,g1,g2⟩:=h.box b cs hb _ e he;exact⟨u,by rw[Addr.add_add];exact g1⟩
  ·exact hk.elim
 |ep ds cells=>
  rw[he] at ht hk;simp only[Ap] at hk;obtain⟨hd,ad,hv,hr,hc⟩:=ht;refine fin ad _ _ hv (fun j e he=> ?_) hk;obtain⟨tc,g1,rfl⟩:=p5 _ _ _ _ _ _ he;obtain⟨u,g2,g3⟩:=hc j tc (dU g1);exact⟨u,g2⟩
 |er o path i f=>
  rw[he] at ht hk;simp only[Ap] at hk;obtain⟨ad,cells,hv,hr,hc,hk,hl⟩:=GH h.obj ht hk;refine fin ad _ _ hv (fun j e he=> ?_) hk;obtain⟨tc,g1,rfl⟩:=p5 _ _ _ _ _ _ he;obtain⟨u,g2,g3⟩:=hc j tc (dU g1);exact⟨u,g2⟩
 |_=>rw[he] at hk;exact hk.elim
theorem Dr (hT:ef C) {a:Act} (h:aH F A w0 φ st a.tmps w) {ops:Array Oper} {o:Oper}: ∀{fl:List Nat},yA C ops st o fl=true→ ∀l∈fl,∀ol,ops[l]?=some ol→ ∀t x ad,ol.op= .load t x→a.eval x= .pointer (some ad)→Region.wanted ol (yielded ops a.tmps)=true→
 ¬Wr st φ (writes C st o) ad.block
 |[],_,l,hl,_,_,_,_,_,_,_,_=>by cases hl
 |l0::r,hf,l,hl,ol,hol,t,x,ad,ho,hx,hw=>by
  simp only[yA] at hf
  split at hf
  ·rename_i ol0 VM
   split at hf
   ·rename_i zw
    rcases cw.1 hl with rfl|hl
    ·exfalso
     rw[hol] at VM;cases VM;unfold VU at zw
     split at zw
     ·cases zw
     ·rename_i j want hg
      split at zw
      ·rename_i oj hj
       split at zw
       ·rename_i tt ht
        split at zw
        ·rename_i b hb
         have hv:=h.tmp tt;rw[hb] at hv;have hy:=AZ hj ht hv;unfold Region.wanted at hw;rw[hg] at hw;simp only[hy] at hw
         split at zw
         ·cases hw
         ·cases hw
         ·cases zw
        ·rename_i hb
         have hv:=h.tmp tt;rw[hb] at hv;have hy:=G2 hj ht (PV hv);unfold Region.wanted at hw;rw[hg] at hw;simp only[hy] at hw
         cases hw
        ·cases zw
       ·cases zw
      ·cases zw
    ·exact Dr hT h hf l hl ol hol t x ad ho hx hw
   ·split at hf
    ·rename_i rdl hrd
     split at hf
     ·cases hf
     ·rename_i Qo
      rcases cw.1 hl with rfl|hl
      ·rw[hol] at VM;cases VM
       have Qo:=fun {y} (hy:y∈rdl)=>oc Qo hy;have ht:=de hT h 0 x
       have obj: ∀{oo k},2*oo∈rdl→aA st.ob oo→φ.S oo k→ ¬Wr st φ (writes C st o) k:=fun {oo k} hm hd hS VL=>by
        rcases VL with⟨b,cs,b1,b2,b3,b4⟩|⟨o2,o1,o3,o4⟩
        ·exact h.kZ hd hS b2 b4.symm
        ·have:=h.sep.apart oo o2 k hd o3 hS o4
         subst this;exact Qo hm o1
       have roI: ∀{k},φ.I k→ ¬Wr st φ (writes C st o) k:=fun {k} hI VL=>by
        rcases VL with⟨b,cs,b1,b2,b3,b4⟩|⟨o2,o1,o3,o4⟩
        ·subst b4;exact(h.sep.box b cs b2 b3).1 hI
        ·exact h.sep.read o2 k o3 o4 hI
       have arg: ∀{k},φ.S 0 k→ ¬Wr st φ (writes C st o) k:=fun {k} hS VL=>by
        rw[h.sep.arg] at hS;have hc:=h.sep.kk k hS;rcases VL with⟨b,cs,b1,b2,b3,b4⟩|⟨o2,o1,o3,o4⟩
        ·subst b4
         rcases (h.sep.box b cs b2 b3).2.2.1 with h3|h3
         ·omega
         ·exact hc.2 h3
        ·rcases (h.sep.fresh o2 k o3 o4).2 with h3|h3
         ·omega
         ·exact hc.2 h3
       unfold RS at hrd;rw[ho] at hrd;simp only at hrd
       split at hrd
       ·rename_i b off he
        rw[he] at ht
        split at hrd
        ·rename_i cs hb
         cases hrd
         have ht:a.eval x= .pointer (some ((φ.β b).add off)):=ht;rw[hx] at ht
         cases ht
         rw[bH];intro VL;rcases VL with⟨b',cs',b1,b2,b3,b4⟩|⟨o2,o1,o3,o4⟩
         ·by_cases Ix:b=b'
          ·subst Ix;exact Qo (.head _) b1
          ·exact(h.sep.box b' cs' b2 b3).2.2.2 b cs hb Ix b4
         ·exact h.kZ o3 o4 hb rfl
        ·cases hrd
       ·rename_i ds c0 cells he
        rw[he] at ht
        cases hrd
        obtain⟨hd,ad',hv,hr,_⟩:=ht;rw[hx] at hv
        cases hv
        rcases hr eO with hI|⟨d,hm,hS⟩
        ·exact roI hI
        ·rcases hd d hm with rfl|Qi
         ·exact arg hS
         ·exact obj (List.mem_map.2 ⟨d,hm,rfl⟩) Qi hS
       ·rename_i oo i f he
        rw[he] at ht
        cases hrd
        obtain⟨b,hb,_,ad0,n0,c0,hV,hp⟩:=ht;have hp:a.eval x= .pointer (some (ad0.add (i.toNat*b.z+f))):=hp;rw[hx] at hp
        cases hp
        rw[bH];have hO:=h.obj oo b hb;unfold kz at hO;rw[hV] at hO;refine obj (.head _) ⟨b,hb⟩ ?_
        cases hO with
        |sub _ _ _ _ _ _ u T k hn=>exact(k.own (by unfold OB.m;split<;>simp)).2 ad0 rfl|>.1
       ·rename_i oo q i f he
        rw[he] at ht
        split at hrd
        ·rename_i z rows hb
         cases hrd
         obtain⟨b,hb',_,ad0,n0,c0,hV,hp⟩:=ht;rw[hb] at hb';cases hb';obtain⟨i0,f0⟩:=q;obtain⟨_,z1,nE,Qj,ad1,n1,c1,hcell,hp⟩:=hp;rw[hx] at hp
         cases hp
         rw[bH];have hO:=h.obj oo _ hb;unfold kz at hO;rw[hV] at hO;refine obj (.head _) ⟨_,hb⟩ ?_
         cases hO with
         |sub _ _ _ _ _ _ u T k hn=>
          have hin:=hn _ _ _ Qj;have hu:=k.cell ad0 rfl _ _ _ Qj;rw[hcell] at hu;simp only[aU] at hu;rw[←hu] at hin
          have:T i0.toNat f0 ad1.block:=by
           cases hin with
           |sub _ _ _ _ _ _ u' T' k' hn'=>exact(k'.own (by simp[OB.m,Mode.nx])).2 ad1 rfl|>.1
          exact(k.lW rfl _ _ _ this).1
        ·cases hrd
       ·cases hrd
      ·exact Dr hT h hf l hl ol hol t x ad ho hx hw
    ·cases hf
  ·cases hf
theorem OA (hC:COk C) {fl:List Nat} {ops:Array Oper} {a:Act} (hi:Inv F A w0 fx g n st a w) {o:Oper} (LR:GZ n o=true) (hq:rK C o=true) {K:TS→Ev R} (hk:(guarded C fx fl ops st o K).holds cf lp Q):
 ∃v st',Kp C ops o v a w∧Inv F A w0 fx g n st' (a.put o.dst v) w∧(K st').holds cf lp Q:=by
 obtain⟨⟨φ,h⟩,T3,T4,hsz⟩:=hi;obtain⟨hok,hc⟩:=uM h hk;have mk: ∀{st' v},Rel F A w0 st' (a.put o.dst v).tmps w→Inv F A w0 fx g n st' (a.put o.dst v) w:=fun hr=>⟨hr,KZ hok T3 _,by rw[put_defers];exact T4,by rw[B7];exact hsz⟩;rcases hc with⟨hw,cG,φ1,h1,_,By⟩|⟨hw,cG,h1,By⟩
 ·have hpure:(Ju C cG o K).holds cf lp Q:=by
   unfold rK yI pT at hq;unfold mm at By
   split at By
   ·rename_i e;rw[e] at hq;cases hq
   ·rename_i e;rw[e] at hq;cases hq
   ·rename_i e;rw[e] at hq;cases hq
   ·rename_i e;rw[e] at hq;cases hq
   ·rename_i e;rw[e] at hq;cases hq
   ·rename_i src dst x e
    rw[e] at hq;simp only at hq
    split at By
    ·rename_i et h1 h2
     rw[h1,h2] at hq
     cases hq
    ·exact By
   ·rename_i e;rw[e] at hq;cases hq
   ·rename_i e;rw[e] at hq;cases hq
   ·rename_i e;rw[e] at hq;cases hq
   ·rename_i e;rw[e] at hq;cases hq
   ·exact By
  unfold Ju at hpure
  split at hpure
  ·rename_i d hd
   obtain⟨v,e,g1,g2,g3,g4⟩:=Mx hC.ty h1 hpure;refine⟨v,_,.inr ⟨hw,?_⟩,mk ⟨φ1,?_⟩,g3⟩
   ·cases hb:yI C o with
    |true=>exact .inl (g4 hb)
    |false=>
     right;unfold rK at hq;rw[hb] at hq;unfold pT at hq;simp only at hq
     split at hq
     ·rename_i t x ho
      unfold fm at hpure;rw[ho] at hpure;obtain⟨ad,vs,l1,l2,l3,l4⟩:=Oz hC.ty h1 hpure;refine⟨t,x,ad,vs,ho,l1,l2,l3,l4,?_⟩;have hr:=wg (hC.ty t l2) w ad vs l3 l4
      have:(execOp a.eval o).run C.P w= .ok (.value (valOf (C.tt t) vs)) w:=by
       unfold execOp;rw[ho];simp only[l1,Instr.loadAt,Instr.sureAddr,Sem.run_bind,Sem.run_pure,Result.andThen];rw[hr]
       rfl
      rw[g1] at this
      cases this
      rfl
     ·cases hq
   ·rw[hd]
    refine h1.IB ?_ g2;unfold GZ at LR;rw[hd] at LR;have LR:Nat.ble (d+1) n=true:=LR;exact gu (show d<n from ou LR) hsz
  ·exact hpure.elim
 ·exact⟨undef,cG,.inl ⟨hw,rfl⟩,mk ⟨φ,h1⟩,By⟩
theorem MM (hC:COk C) (Ak:G0 C cf) {fl:List Nat} {ops:Array Oper} {a:Act} (hi:Inv F A w0 fx g n st a w) {o:Oper} (LR:GZ n o=true) {K:TS→Ev R} (hk:(guarded C fx fl ops st o K).holds cf lp Q) {Kc:Act→World→Prop} {Qc:Exit→Act→World→Prop}
 (hK: ∀st' v w',Inv F A w0 fx g n st' (a.put o.dst v) w'→(K st').holds cf lp Q→(∀l∈fl,∀ol,ops[l]?=some ol→ ∀t x ad,ol.op= .load t x→a.eval x= .pointer (some ad)→Region.wanted ol (yielded ops a.tmps)=true→ad.block<w.heap.size→w'.heap[ad.block]?=w.heap[ad.block]?)→Kc (a.put o.dst v) w'):
 if Region.wanted o (yielded ops a.tmps) then o.wp C.P a w Kc Qc else Kc (a.put o.dst undef) w:=by
 obtain⟨⟨φ,h⟩,T3,T4,hsz⟩:=hi;obtain⟨hok,hc⟩:=uM h hk;have mk: ∀{st' v w'},Rel F A w0 st' (a.put o.dst v).tmps w'→Inv F A w0 fx g n st' (a.put o.dst v) w':=fun hr=>⟨hr,KZ hok T3 _,by rw[put_defers];exact T4,by rw[B7];exact hsz⟩;rcases hc with⟨hw,cG,φ1,h1,hfl,By⟩|⟨hw,cG,h1,By⟩
 ·rw[aP hw]
  exact ML hC Ak h1 (fun d hd=>by
   unfold GZ at LR;rw[hd] at LR;have LR:Nat.ble (d+1) n=true:=LR
   exact gu (show d<n from ou LR) hsz) By fun st' v w' hr hk' _ hfr=>hK st' v w' (mk hr) hk' fun l hl ol hol t x ad ho hx hwo hlt=>hfr _ hlt (Dr hC.ty h1 hfl l hl ol hol t x ad ho hx hwo)
 ·rw[aF (by rw[hw];exact Bool.false_ne_true)]
  exact hK cG undef w (mk ⟨φ,h1⟩) By fun _ _ _ _ _ _ _ _ _ _ _=>rfl
end Go.T
namespace Go.T
variable {F : Nat → Prop} {A : Arg} {w0 w w' : World} {φ φ' φ1 : Fp} {st st' sta cG lR : TS} {tm AK : Array Value} {C : jC}
variable {R : Type} {cf : Cf} {lp : Lp} {Q : R → Prop}
variable {fx : List Nat} {g : Nat → Value} {n : Nat} {ops : Array Oper}
structure Pe where
 i:Nat
 o:Oper
 v:Value
def pH:List Pe→Act→Act
 |[],a=>a
 |p::r,a=>pH r (a.put p.o.dst p.v)
def wY (C:jC) (ops:Array Oper):List Pe→Act→World→Prop
 |[],_,_=>True
 |p::r,a,w=>Kp C ops p.o p.v a w∧wY C ops r (a.put p.o.dst p.v) w
inductive tC (ops:Array Oper) (i:Nat):Nat→Prop
 |base {j:Nat} {o:Oper} (h:ops[j]?=some o) (hd:i∈mV o):tC ops i j
 |step {j d:Nat} {o:Oper} (h:ops[j]?=some o) (hd:d∈mV o) (hw:tC ops i d):tC ops i j
theorem tD {i:Nat}: ∀(k j:Nat) (W:List Nat),(∀x∈W,x=i∨tC ops i x)→ ∀x∈vp ops k j W,x=i∨tC ops i x
 |0,_,W,h=>h
 |k+1,j,W,h=>by
  simp only[vp]
  split
  ·rename_i o ho
   split
   ·rename_i hm
    refine tD k (j+1) _ fun x hx=> ?_;rcases cw.1 hx with rfl|hx
    ·obtain⟨d,h1,h2⟩:=AU hm
     rcases h d h2 with rfl|hw
     ·exact .inr (.base ho h1)
     ·exact .inr (.step ho h1 hw)
    ·exact h x hx
   ·exact tD k (j+1) W h
  ·exact h
theorem tC.listed {listed:Array Bool} (hcl: ∀(j:Nat) (oj:Oper),listed.getD j false=true→ops[j]?=some oj→ ∀d∈mV oj,listed.getD d false=true) {i j:Nat} (h:tC ops i j):(∀o,ops[j]?=some o→ ∀d∈mV o,listed.getD d false=true)→listed.getD i false=true:=by
 induction h with
 |base h hd=>exact fun hh=>hh _ h _ hd
 |step h hd hw ih=>exact fun hh=>ih fun o ho d Qi=>hcl _ o (hh _ h _ hd) ho d Qi
def PW (ops:Array Oper) (oi oj:Oper):Prop:=(∀d,oj.dst=some d→d∉oi.looksAt ops)∧(∀d,oi.dst=some d→oj.dst≠some d)∧ ∀d,oi.dst=some d→d∉oj.looksAt ops
def G5 (ops:Array Oper) (i:Nat) (oi:Oper) (j:Nat) (oj:Oper):Prop:=((∀d,oj.dst=some d→d∉oi.looksAt ops)∨(pT oi=false∧tC ops i j))∧
 (tC ops i j∨((∀d,oi.dst=some d→oj.dst≠some d)∧(i∈mV oj∨ ∀d,oi.dst=some d→d∉oj.looksAt ops)))
theorem G5.now {i j:Nat} {oi oj:Oper} (h:G5 ops i oi j oj) (hj:ops[j]?=some oj) (hn: ¬tC ops i j):PW ops oi oj:=by
 obtain⟨h1,h2⟩:=h;obtain⟨h3,h4⟩:=h2.resolve_left hn;exact⟨h1.resolve_right fun h=>hn h.2,h3,h4.resolve_left fun h=>hn (.base hj h)⟩
theorem SL {i j:Nat} {oi oj:Oper} {W:List Nat} (hne:j≠i) (hW: ∀x∈W,x=i∨tC ops i x) (h:SK ops W i oi j oj=true):G5 ops i oi j oj:=by
 unfold SK at h;simp only[c8,Bool.or_eq_true] at h;obtain⟨h1,h2⟩:=h;have hw:jc j W=true→tC ops i j:=fun h=>(hW j (iz.1 h)).resolve_left hne;refine⟨h1.imp (fun h1 d hd=> ?_) (fun h=>⟨by simpa using h.1,hw h.2⟩),h2.imp hw fun⟨h2,h3⟩=>⟨fun d hd hd'=> ?_,h3.imp iz.1 fun h3 d hd=> ?_⟩⟩
 ·rw[hd] at h1
  simp only[u5] at h1;exact cV.1 h1
 ·rw[hd',hd] at h2
  simp only[u5] at h2;exact absurd rfl (ov h2)
 ·rw[hd] at h3
  simp only[u5] at h3;exact cV.1 h3
theorem SM {o:Oper} (h:G3 ops o=true): ∀d,o.dst=some d→d∉o.looksAt ops:=fun d hd=>by
 unfold G3 at h;rw[hd] at h;simp only[u5] at h;exact cV.1 h
theorem PX {o:Oper} (h:B8 o=false): ∀cs b,o.op≠ .select cs b:=fun cs b e=>by
 unfold B8 at h;rw[e] at h
 cases h
theorem Ds {o:Oper} {t:TypeId} {x:Operand} (ho:o.op= .load t x) {a:Act} {dst:Option Tmp} {v:Value} (h: ∀d,dst=some d→d∉o.looksAt ops):(a.put dst v).eval x=a.eval x:=
 Act.eval_put fun d hd hx=>h d hd (by
  subst hx;refine gr _ (List.mem_filterMap.2 ⟨.tmp d,?_,rfl⟩);rw[ho]
  simp[Op.operands])
theorem Kp.put {o:Oper} {v u:Value} {a:Act} {dst:Option Tmp} (hs:B8 o=false) (hl: ∀d,dst=some d→d∉o.looksAt ops):Kp C ops o v (a.put dst u) w↔Kp C ops o v a w:=by
 have e1:=execOp_put (ops:=ops) o (PX hs) a dst u hl;have e2:=wanted_put (ops:=ops) o a dst u hl;exact⟨fun h=>h.same e1.symm (fun t x ho=>(Ds ho hl).symm) e2.symm,fun h=>h.same e1 (fun t x ho=>Ds ho hl) e2⟩
theorem G6 {dst:Option Tmp} {u:Value}: ∀(L:List Pe) (a:Act),(∀p∈L,B8 p.o=false∧(∀d,dst=some d→d∉p.o.looksAt ops)∧ ∀d,p.o.dst=some d→dst≠some d)→(wY C ops L a w→wY C ops L (a.put dst u) w)∧pH L (a.put dst u)=(pH L a).put dst u
 |[],a,_=>⟨id,rfl⟩
 |p::r,a,h=>by
  obtain⟨h1,h2,h3⟩:=h p (.head _);have hc:(a.put dst u).put p.o.dst p.v=(a.put p.o.dst p.v).put dst u:=(Act.put_comm a p.v u h3).symm;obtain⟨i1,i2⟩:=G6 r (a.put p.o.dst p.v) fun q hq=>h q (.tail _ hq);refine⟨fun⟨k1,k2⟩=>⟨(Kp.put h1 h2).2 k1,?_⟩,?_⟩
  ·rw[hc];exact i1 k2
  ·show pH r ((a.put dst u).put p.o.dst p.v)=_
   rw[hc];exact i2
theorem MN {p:Pe} {L2:List Pe} (hsp:B8 p.o=false): ∀(L1:List Pe) (a:Act),(∀q∈L1,B8 q.o=false∧PW ops q.o p.o)→wY C ops (L1++p::L2) a w→Kp C ops p.o p.v a w∧wY C ops (L1++L2) (a.put p.o.dst p.v) w∧pH (L1++L2) (a.put p.o.dst p.v)=pH (L1++p::L2) a
 |[],a,_,⟨h1,h2⟩=>⟨h1,h2,rfl⟩
 |q::L1,a,h,⟨h1,h2⟩=>by
  obtain⟨hs,p1,p2,p3⟩:=h q (.head _);obtain⟨i1,i2,i3⟩:=MN hsp L1 (a.put q.o.dst q.v) (fun q' hq=>h q' (.tail _ hq)) h2;have hc:(a.put p.o.dst p.v).put q.o.dst q.v=(a.put q.o.dst q.v).put p.o.dst p.v:=(Act.put_comm a q.v p.v p2).symm;refine⟨(Kp.put hsp p3).1 i1,⟨(Kp.put hs p1).2 h1,?_⟩,?_⟩
  ·rw[hc];exact i2
  ·show pH (L1++L2) ((a.put p.o.dst p.v).put q.o.dst q.v)=_
   rw[hc];exact i3
theorem Dt {o:Oper} (hs:B8 o=false): ∀(L:List Pe) (a:Act),(∀q∈L,∀d,q.o.dst=some d→d∉o.looksAt ops)→execOp (pH L a).eval o=execOp a.eval o∧Region.wanted o (yielded ops (pH L a).tmps)=Region.wanted o (yielded ops a.tmps)∧ ∀t x,o.op= .load t x→(pH L a).eval x=a.eval x
 |[],a,_=>⟨rfl,rfl,fun _ _ _=>rfl⟩
 |q::r,a,h=>by
  obtain⟨i1,i2,i3⟩:=Dt hs r (a.put q.o.dst q.v) fun q' hq=>h q' (.tail _ hq);have hq:=h q (.head _);exact⟨i1.trans (execOp_put (ops:=ops) o (PX hs) a _ _ hq),i2.trans (wanted_put (ops:=ops) o a _ _ hq),fun t x ho=>(i3 t x ho).trans (Ds ho hq)⟩
theorem G7 (hT:ef C): ∀(L:List Pe) (a:Act),(L.Pairwise fun p q=>G5 ops p.i p.o q.i q.o∧p.i≠q.i)→(∀p∈L,G3 ops p.o=true∧B8 p.o=false)→
 (∀p∈L,∀t x ad,p.o.op= .load t x→(pH L a).eval x= .pointer (some ad)→Region.wanted p.o (yielded ops (pH L a).tmps)=true→ad.block<w.heap.size→w'.heap[ad.block]?=w.heap[ad.block]?)→wY C ops L a w→wY C ops L a w'
 |[],a,_,_,_,_=>trivial
 |p::r,a,hp,hs,hf,⟨h1,h2⟩=>by
  have Zv:=List.pairwise_cons.1 hp;obtain⟨s1,s2⟩:=hs p (.head _);refine⟨h1.world hT fun t x ad ho hx hw hlt=> ?_,?_⟩
  ·have h3:=Dt (ops:=ops) s2 (p::r) a fun q hq d hd=>by
    rcases cw.1 hq with rfl|hq
    ·exact SM s1 d hd
    ·exact(Zv.1 q hq).1.1.resolve_right (fun h=>by have:=h.1;unfold pT at this;rw[ho] at this;cases this) d hd
   exact hf p (.head _) t x ad ho (by rw[h3.2.2 t x ho];exact hx) (by rw[h3.2.1];exact hw) hlt
  exact G7 hT r _ Zv.2 (fun q hq=>hs q (.tail _ hq)) (fun q hq=>hf q (.tail _ hq)) h2
variable {l : List Nat} {K : TS → Ev R}
structure MO (C:jC) (F:Nat→Prop) (A:Arg) (w0:World) (fx:List Nat) (g:Nat→Value) (n:Nat) (l:List Nat) (K:TS→Ev R) (cf:Cf) (lp:Lp) (Q:R→Prop) (ops:Array Oper) (listed:Array Bool) (aM:Act) (w:World) (L:List Pe) (rest:zy) (S:List Nat):Prop where
 sz:listed.size=ops.size
 mem: ∀j,j∈S↔(listed.getD j false=true∨ ∃p∈L,p.i=j)
 Gj:eA C ops none S rest=true
 pend:wY C ops L aM w
 pw:L.Pairwise fun p q=>G5 ops p.i p.o q.i q.o∧p.i≠q.i
 pe: ∀p∈L,ops[p.i]?=some p.o∧rK C p.o=true∧G3 ops p.o=true∧B8 p.o=false∧listed.getD p.i false=false
 later: ∀p∈L,∀(j:Nat) (oj:Oper),j∉S→ops[j]?=some oj→G5 ops p.i p.o j oj
 closed: ∀(j:Nat) (oj:Oper),listed.getD j false=true→ops[j]?=some oj→ ∀d∈mV oj,listed.getD d false=true
 pd: ∀L1 p L2,L=L1++p::L2→ ∀d∈mV p.o,listed.getD d false=true∨ ∃q∈L1,q.i=d
 go: ∃st,Inv F A w0 fx g n st (pH L aM) w∧(oB C fx l ops rest st K).holds cf lp Q
theorem MP {o:Oper} {listed:Array Bool}:(∀e∈o.after,Region.binds .any e=true→listed.getD e.on false=true)↔ ∀d∈mV o,listed.getD d false=true:=by
 unfold mV
 constructor
 ·intro h d hd
  obtain⟨e,he,rfl⟩:=List.mem_map.1 hd;obtain⟨h1,h2⟩:=List.mem_filter.1 he;exact h e (by simpa using h1) h2
 ·intro h e he hb
  exact h _ (List.mem_map.2 ⟨e,List.mem_filter.2 ⟨by simpa using he,hb⟩,rfl⟩)
theorem PY {listed:Array Bool} {j:Nat} (h:j<listed.size) (a b:Bool):listed.getD j a=listed.getD j b:=by
 simp[qv,qw h]
theorem mw {hs:Option (List Nat)} {S:List Nat} {i:Nat} {fl:List Nat} {r:zy} (h:eA C ops hs S (.op i fl r)=true): ∃o,ops[i]?=some o∧i∉S∧(∀d∈mV o,d∈S)∧B8 o=false∧eA C ops none (i::S) r=true∧
 ((rK C o=true∧hs=none∧G3 ops o=true∧ ∀(j:Nat) (oj:Oper),j∉S→j≠i→ops[j]?=some oj→G5 ops i o j oj)∨
  (rK C o=false∧(∀(j:Nat) (oj:Oper),j∉S→j≠i→j∉hs.getD []→ops[j]?=some oj→ ∃d∈mV oj,d∉S)∧ ∀(k:Nat) (ok:Oper),k∈S→ops[k]?=some ok→pT ok=true→k∈fl∨tC ops k i)):=by
 simp only[eA] at h
 split at h
 ·cases h
 ·rename_i o ho
  unfold opB at h;simp only[c8,u5] at h;obtain⟨⟨⟨⟨h1,h2⟩,h3⟩,h4⟩,h5⟩:=h;refine⟨o,ho,cV.1 h1,UO h2,h3,h5,?_⟩
  cases hq:rK C o with
  |true=>
   rw[hq] at h4;simp only[c8] at h4;refine .inl ⟨rfl,by simpa using h4.1.1,h4.1.2,fun j oj hj hne uZ=> ?_⟩;have h42:=h4.2;rw[rB RX] at h42;have:=vq h42 j (Array.getElem?_eq_some_iff.1 uZ).1;rw[uZ,cV.2 hj,beq_false hne] at this;exact SL hne (tD ops.size 0 [i] fun x hx=> .inl (by simpa using hx)) (by simpa using this)
  |false=>
   rw[hq] at h4;simp only[c8] at h4;refine .inr ⟨rfl,fun j oj hj hne hh uZ=> ?_,fun k ok hk hok XP=> ?_⟩
   ·have:=vq h4.1 j (Array.getElem?_eq_some_iff.1 uZ).1
    rw[uZ,cV.2 hj,beq_false hne,cV.2 hh] at this;simp only[Gm,u5] at this
    apply Classical.byContradiction
    intro hno;have:=UP (a:=mV oj) (l:=S) fun d hd=>Classical.byContradiction fun hn=>hno ⟨d,hd,hn⟩;simp_all
   ·have:=vq h4.2 k (Array.getElem?_eq_some_iff.1 hok).1
    rw[hok,iz.2 hk] at this;simp only[XP] at this;simp only[Gn,Gm,Bool.or_false,Bool.or_eq_true] at this;exact this.imp iz.1 fun h=>(tD ops.size 0 [k] (fun x hx=> .inl (by simpa using hx)) i (iz.1 h)).resolve_left fun e=>cV.1 h1 (e▸hk)
def XW (lp:Lp):Prop:= ∀f i c st (Q Q':TX→TS→Prop),(∀x s,Q x s→Q' x s)→lp f i c st Q→lp f i c st Q'
theorem Du (C0:XW lp) {j:Nat}: ∀{T:zy} {hs:Option (List Nat)} {S:List Nat},eA C ops hs S T=true→j∈T.tw→(oB C fx l ops T st K).holds cf lp Q→
 ∃fl r hs',eA C ops hs' S (.op j fl r)=true∧r.len+1=T.len∧(oB C fx l ops (.op j fl r) st K).holds cf lp Q
 | .nil,_,_,_,hj,_=>by cases hj
 | .op i fl r,hs,S,h,hj,hk=>by
   simp only[zy.tw,jz] at hj;subst hj;exact⟨fl,r,hs,h,rfl,hk⟩
 | .alt a b,hs,S,h,hj,hk=>by
   simp only[eA,c8] at h;obtain⟨⟨h1,h2⟩,h3⟩:=h;have h3:=fk h3;simp only[oB] at hk;obtain⟨r,k1,k2,k3⟩:=hk;rcases List.mem_append.1 hj with hj|hj
   ·obtain⟨fl,r',hs',g1,g2,g3⟩:=Du C0 h1 hj (dR (fun _ _ _ _ h=>h) C0 (fun r' e=>by subst e;exact k3) _ k1)
    exact⟨fl,r',hs',g1,g2,g3⟩
   ·obtain⟨fl,r',hs',g1,g2,g3⟩:=Du C0 h2 hj (dR (fun _ _ _ _ h=>h) C0 (fun r' e=>by subst e;exact k3) _ k2)
    exact⟨fl,r',hs',g1,by rw[g2];exact h3.symm,g3⟩
theorem G8: ∀{T:zy} {H:List Nat} {S:List Nat},eA C ops (some H) S T=true→ ∀(j:Nat) (oj:Oper),j∉S→j∉H→j∉T.tw→ops[j]?=some oj→ ∃d∈mV oj,d∉S
 | .nil,_,_,h,_,_,_,_,_,_=>by simp[eA] at h
 | .op i fl r,H,S,h,j,oj,hj,hH,hh,uZ=>by
   obtain⟨o,_,_,_,_,_,hc⟩:=mw h;rcases hc with⟨_,e,_⟩|⟨_,h1,_⟩
   ·cases e
   ·exact h1 j oj hj (fun e=>hh (by rw[e];exact .head _)) hH uZ
 | .alt a b,H,S,h,j,oj,hj,hH,hh,uZ=>by
   simp only[eA,c8] at h;exact G8 h.1.1 j oj hj hH (fun e=>hh (gr _ e)) uZ
theorem zN: ∀{T:zy} {H:List Nat} {S:List Nat},eA C ops (some H) S T=true→ ∀{j oj},j∈T.tw→ops[j]?=some oj→rK C oj=true→False
 | .nil,_,_,h,_,_,_,_,_=>by simp[eA] at h
 | .op i fl r,H,S,h,j,oj,hj,uZ,hq=>by
   simp only[zy.tw,jz] at hj;subst hj;obtain⟨o,ho,_,_,_,_,hc⟩:=mw h;rw[uZ] at ho;cases ho;rcases hc with⟨_,e,_⟩|⟨Io,_⟩
   ·cases e
   ·rw[hq] at Io;cases Io
 | .alt a b,H,S,h,j,oj,hj,uZ,hq=>by
   simp only[eA,c8] at h;rcases List.mem_append.1 hj with hj|hj
   ·exact zN h.1.1 hj uZ hq
   ·exact zN h.1.2 hj uZ hq
theorem K0 {a b:zy} {S:List Nat} (h:eA C ops none S (.alt a b)=true) {j:Nat} {oj:Oper} (hj:j∈(zy.alt a b).tw) (uZ:ops[j]?=some oj) (hq:rK C oj=true):False:=by
 simp only[eA,c8] at h;rcases List.mem_append.1 hj with hj|hj
 ·exact zN h.1.1 hj uZ hq
 ·exact zN h.1.2 hj uZ hq
theorem EB: ∀{T:zy} {H:List Nat} {S:List Nat},eA C ops (some H) S T=true→ ∃j∈T.tw,∃oj,ops[j]?=some oj∧j∉S∧ ∀d∈mV oj,d∈S
 | .nil,_,_,h=>by simp[eA] at h
 | .op i fl r,H,S,h=>by
   obtain⟨o,h1,h2,h3,_⟩:=mw h;exact⟨i,.head _,o,h1,h2,h3⟩
 | .alt a b,H,S,h=>by
   simp only[eA,c8] at h;obtain⟨j,h1,h2⟩:=EB h.1.1;exact⟨j,gr _ h1,h2⟩
theorem MO.advance (hC:COk C) (hb:EU n ops.toList=true) {listed:Array Bool} {aM:Act} {L:List Pe} {i:Nat} {fl:List Nat} {r:zy} {S:List Nat} (s:MO C F A w0 fx g n l K cf lp Q ops listed aM w L (.op i fl r) S) {o:Oper} (ho:ops[i]?=some o) (hq:rK C o=true):
 ∃v,MO C F A w0 fx g n l K cf lp Q ops listed aM w (L++[⟨i,o,v⟩]) r (i::S):=by
 obtain⟨o',ho',VN,ES,hsel,Po,uC⟩:=mw s.Gj;rw[ho] at ho';cases ho';rcases uC with⟨_,_,Ws,Wt⟩|⟨Io,_⟩
 ·obtain⟨st,hinv,hk⟩:=s.go
  simp only[oB,ho] at hk
  have LR:GZ n o=true:=by
   have: ∀(os:List Oper),EU n os=true→ ∀x∈os,GZ n x=true:=by
    intro os
    induction os with
    |nil=>intro _ x hx;cases hx
    |cons y q ih=>
     intro h x hx;simp only[EU] at h
     split at h
     ·rcases cw.1 hx with rfl|hx
      ·assumption
      ·exact ih h x hx
     ·cases h
   exact this _ hb o (fC (by rw[Gl];exact ho))
  obtain⟨v,st',k1,k2,k3⟩:=OA hC hinv LR hq hk;rw[oC] at k3
  have Zx: ∀(L:List Pe) (a:Act),wY C ops L a w→Kp C ops o v (pH L a) w→wY C ops (L++[⟨i,o,v⟩]) a w:=by
   intro L
   induction L with
   |nil=>intro a _ h;exact⟨h,trivial⟩
   |cons p q ih=>intro a h h2;exact⟨h.1,ih _ h.2 h2⟩
  have Zy: ∀(L:List Pe) (a:Act),pH (L++[⟨i,o,v⟩]) a=(pH L a).put o.dst v:=by
   intro L
   induction L with
   |nil=>intro a;rfl
   |cons p q ih=>intro a;exact ih _
  have hiL:listed.getD i false=false:=by
   cases h:listed.getD i false with
   |false=>rfl
   |true=>exact absurd ((s.mem i).2 (.inl h)) VN
  refine⟨v,s.sz,fun j=> ?_,Po,Zx L aM s.pend k1,?_,fun p hp=> ?_,fun p hp j oj hj uZ=> ?_,s.closed,fun L1 p L2 he d hd=> ?_,st',by rw[Zy];exact k2,k3⟩
  ·rw[cw,s.mem]
   constructor
   ·rintro(rfl|h|⟨p,hp,e⟩)
    ·exact .inr ⟨_,lG _ (.head _),rfl⟩
    ·exact .inl h
    ·exact .inr ⟨p,gr _ hp,e⟩
   ·rintro(h|⟨p,hp,e⟩)
    ·exact .inr (.inl h)
    ·rcases List.mem_append.1 hp with hp|hp
     ·exact .inr (.inr ⟨p,hp,e⟩)
     ·simp only[jz] at hp
      subst hp;exact .inl e.symm
  ·refine List.pairwise_append.2 ⟨s.pw,List.pairwise_singleton _ _,fun p hp q hq=> ?_⟩
   simp only[jz] at hq;subst hq;exact⟨s.later p hp i o VN ho,fun e=>VN ((s.mem i).2 (.inr ⟨p,hp,e⟩))⟩
  ·rcases List.mem_append.1 hp with hp|hp
   ·exact s.pe p hp
   ·simp only[jz] at hp
    subst hp;exact⟨ho,hq,Ws,hsel,hiL⟩
  ·have hj:j≠i∧j∉S:=by simpa using hj
   rcases List.mem_append.1 hp with hp|hp
   ·exact s.later p hp j oj hj.2 uZ
   ·simp only[jz] at hp
    subst hp;exact Wt j oj hj.2 hj.1 uZ
  ·rcases List.append_eq_append_iff.1 he with⟨a',e1,e2⟩|⟨c',e1,e2⟩
   ·
    cases a' with
    |nil=>
     simp only[lX,oW] at e1 e2
     cases e2
     subst e1;rcases (s.mem d).1 (ES d hd) with h|h
     ·exact .inl h
     ·exact .inr h
    |cons x xs=>simp at e2
   ·cases c' with
    |nil=>
     simp only[lX,oW] at e1 e2
     cases e2
     subst e1;rcases (s.mem d).1 (ES d hd) with h|h
     ·exact .inl h
     ·exact .inr h
    |cons x xs=>
     simp only[wV,List.cons.injEq] at e2;obtain⟨rfl,_⟩:=e2;exact s.pd L1 p xs e1 d hd
 ·rw[hq] at Io;cases Io
theorem W0 (hb:EU n ops.toList=true) {i:Nat} {o:Oper} (ho:ops[i]?=some o):GZ n o=true:=by
 have: ∀(os:List Oper),EU n os=true→ ∀x∈os,GZ n x=true:=by
  intro os
  induction os with
  |nil=>intro _ x hx;cases hx
  |cons y q ih=>
   intro h x hx;simp only[EU] at h
   split at h
   ·rcases cw.1 hx with rfl|hx
    ·assumption
    ·exact ih h x hx
   ·cases h
 exact this _ hb o (fC (by rw[Gl];exact ho))
theorem MQ {P:Program} {o:Oper} {aS aM:Act} {w:World} {Kc Kc':Act→World→Prop} {Qc:Exit→Act→World→Prop} (he:execOp aM.eval o=execOp aS.eval o) (hk: ∀a' w',Kc a' w'→ ∃v,a'=aS.put o.dst v∧Kc' (aM.put o.dst v) w') (hd: ∀v v',aS.put o.dst v=aS.put o.dst v'→ ∀w',Kc' (aM.put o.dst v) w'→Kc' (aM.put o.dst v') w')
 (h:o.wp P aS w Kc fun _ _ _=>False):o.wp P aM w Kc' Qc:=by
 unfold Oper.wp at*;rw[he];generalize (execOp aS.eval o).run P w=r at*
 have use: ∀v w',Kc (aS.put o.dst v) w'→Kc' (aM.put o.dst v) w':=fun v w' h=>by
  obtain⟨v',e,hk'⟩:=hk _ _ h;exact hd v' v e.symm w' hk'
 cases r with
 |ok nx w'=>
  cases nx<;>simp only[Oper.upon] at h ⊢
  case value u=>exact use u w' h
  case skip=>exact use undef w' h
  case defer d=>
   exfalso
   obtain⟨v,e,_⟩:=hk _ _ h;have:=congrArg Act.defers e;rw[put_defers,put_defers] at this;have h2:=congrArg List.length this;simp at h2
  case enter f args=>
   refine Calls.mono h fun e w'' he=> ?_
   cases e with
   |returned u=>exact use u w'' he
   |panicked c=>exact he.elim
   |outgrown=>exact(LetsOut_false he).elim
  case row row args=>exact Rows.mono h fun u w'' he=>use u w'' he
 |halt x w'=>
  cases x<;>simp only[Oper.upon] at h
where
 LetsOut_false:LetsOut (fun(_:Exit) (_:Act) (_:World)=>False)→False:=fun⟨_,_,h⟩=>h
theorem JS: ∀(L:List Pe) (a:Act),(pH L a).tmps.size=a.tmps.size
 |[],_=>rfl
 |p::r,a=>by show(pH r _).tmps.size=_;rw[JS r,B7]
theorem QU {a a':Act} {d:Option Tmp} {v v':Value} (hs:a'.tmps.size=a.tmps.size) (h:a.put d v=a.put d v'):a'.put d v=a'.put d v':=by
 cases d with
 |none=>rfl
 |some d=>
  have h1:a.tmps.setIfInBounds d v=a.tmps.setIfInBounds d v':=congrArg Act.tmps h;show({a' with tmps:=a'.tmps.setIfInBounds d v}:Act)={a' with tmps:=a'.tmps.setIfInBounds d v'}
  by_cases hd:d<a.tmps.size
  ·have:v=v':=by
    have h2:=congrArg (fun x:Array Value=>x[d]?) h1;simpa [Jp,hd] using h2
   rw[this]
  ·have hle:a'.tmps.size≤d:=by rw[hs];exact Nat.le_of_not_lt hd
   rw[Array.setIfInBounds_eq_of_size_le hle,Array.setIfInBounds_eq_of_size_le hle]
theorem W2 (hC:COk C) (Ak:G0 C cf) (C0:XW lp) (hb:EU n ops.toList=true) {Qc:Exit→Act→World→Prop} (hQ: ∀st a w,Inv F A w0 fx g n st a w→(K st).holds cf lp Q→Qc .normal a w):
 ∀(fuel:Nat) (listed:Array Bool) (aM:Act) (w:World) (L:List Pe) (rest:zy) (S:List Nat),MO C F A w0 fx g n l K cf lp Q ops listed aM w L rest S→fuel=rest.len+L.length→wpAny C.P .any ops Qc fuel listed aM w:=by
 have ready0: ∀{listed:Array Bool} {j:Nat},listed.size=ops.size→j∈Region.ready .any ops listed→listed.getD j false=false∧ ∃oj,ops[j]?=some oj∧ ∀d∈mV oj,listed.getD d false=true:=fun {listed j} hsz hj=>by
  obtain⟨h1,oj,h2,h3⟩:=mem_ready.1 hj
  have hlt:j<listed.size:=by rw[hsz];exact(Array.getElem?_eq_some_iff.1 h2).1
  exact⟨by rw[PY hlt false true];exact h1,oj,h2,MP.1 h3⟩
 have ready1: ∀{listed:Array Bool} {j:Nat} {oj:Oper},listed.size=ops.size→listed.getD j false=false→ops[j]?=some oj→(∀d∈mV oj,listed.getD d false=true)→j∈Region.ready .any ops listed:=fun {listed j oj} hsz h1 h2 h3=>by
  have hlt:j<listed.size:=by rw[hsz];exact(Array.getElem?_eq_some_iff.1 h2).1
  exact mem_ready.2 ⟨by rw[PY hlt true false];exact h1,oj,h2,MP.2 h3⟩
 intro fuel
 induction fuel with
 |zero=>
  intro listed aM w L rest S s hf;have hL:L=[]:=yq ax
  have hr:rest= .nil:=by
   have h0:rest.len=0:=by omega
   have hsc:=s.Gj;clear s hf
   cases rest with
   |nil=>rfl
   |op i fl r=>simp[zy.len] at h0
   |alt a b=>
    exfalso
    simp only[eA,c8] at hsc
    have: ∀{T:zy} {H:List Nat} {S:List Nat},eA C ops (some H) S T=true→T.len≠0:=by
     intro T
     induction T with
     |nil=>intro _ _ h;simp[eA] at h
     |op i fl r _=>intro _ _ _;simp[zy.len]
     |alt a b iha _=>intro _ _ h;simp only[eA,c8] at h;exact iha h.1.1
    exact this hsc.1.1 h0
  subst hL hr
  constructor
  ·cases hrd:Region.ready .any ops listed with
   |nil=>rfl
   |cons j js=>
    exfalso
    obtain⟨h1,oj,h2,_⟩:=ready0 s.sz (j:=j) (by rw[hrd];exact .head _);have hs:=s.Gj;simp only[eA] at hs;have:=iz.1 (vq hs j (Array.getElem?_eq_some_iff.1 h2).1);rcases (s.mem j).1 this with h|⟨p,hp,_⟩
    ·rw[h1] at h;cases h
    ·cases hp
  ·obtain⟨st,hinv,hk⟩:=s.go
   simp only[oB] at hk;rw[oC] at hk;obtain⟨⟨φ,h⟩,h2,h3,h4⟩:=hinv;exact hQ _ aM w ⟨⟨φ,h.keep l⟩,h2,h3,h4⟩ hk
 |succ fuel ih=>
  intro listed aM w L rest S s hf
  have up: ∀{L:List Pe} {rest:zy} {S:List Nat},MO C F A w0 fx g n l K cf lp Q ops listed aM w L rest S→fuel+1=rest.len+L.length→ ∀p∈L,(∀d∈mV p.o,listed.getD d false=true)→wpOp C.P ops Qc p.i (wpAny C.P .any ops Qc fuel (listed.setIfInBounds p.i true)) aM w:=fun {L rest S} s hf p hp hdp=>by
   obtain⟨L1,L2,rfl⟩:=List.append_of_mem hp;obtain⟨e1,e2,e3,e4,e5⟩:=s.pe p hp;have Wu:=List.pairwise_append.1 s.pw
   have hq1: ∀q∈L1,B8 q.o=false∧PW ops q.o p.o:=fun q hq=>by
    have:=s.pe q (gr _ hq);refine⟨this.2.2.2.1,(Wu.2.2 q hq p (.head _)).1.now e1 fun hd=> ?_⟩
    have h1:=hd.listed s.closed fun o ho=>by rw[e1] at ho;cases ho;exact hdp
    rw[this.2.2.2.2] at h1
    cases h1
   obtain⟨k1,k2,k3⟩:=MN e4 L1 aM hq1 s.pend
   have hlt:p.i<listed.size:=by rw[s.sz];exact(Array.getElem?_eq_some_iff.1 e1).1
   have hne: ∀q,q∈L1∨q∈L2→q.i≠p.i:=fun q hq=>by
    rcases hq with hq|hq
    ·exact(Wu.2.2 q hq p (.head _)).2
    ·exact fun e=>((List.pairwise_cons.1 Wu.2.1).1 q hq).2 e.symm
   have Bx: ∀j,(listed.setIfInBounds p.i true).getD j false=true↔j=p.i∨listed.getD j false=true:=fun j=>by
    by_cases hj:j=p.i
    ·subst hj;simp[qv,Jp,hlt]
    ·rw[Go.getD_set_ne false (Ne.symm hj)];simp[hj]
   have hs':MO C F A w0 fx g n l K cf lp Q ops (listed.setIfInBounds p.i true) (aM.put p.o.dst p.v) w (L1++L2) rest S:=by
    refine⟨by simp[s.sz],fun j=> ?_,s.Gj,k2,?_,fun q hq=> ?_,fun q hq=> ?_,fun j oj hj uZ d hd=> ?_,fun M1 q M2 he d hd=> ?_,?_⟩
    ·rw[s.mem,Bx]
     constructor
     ·rintro(h|⟨q,hq,e⟩)
      ·exact .inl (.inr h)
      ·rcases List.mem_append.1 hq with hq|hq
       ·exact .inr ⟨q,gr _ hq,e⟩
       ·rcases cw.1 hq with rfl|hq
        ·exact .inl (.inl e.symm)
        ·exact .inr ⟨q,lG _ hq,e⟩
     ·rintro((rfl|h)|⟨q,hq,e⟩)
      ·exact .inr ⟨p,hp,rfl⟩
      ·exact .inl h
      ·rcases List.mem_append.1 hq with hq|hq
       ·exact .inr ⟨q,gr _ hq,e⟩
       ·exact .inr ⟨q,lG _ (.tail _ hq),e⟩
    ·exact List.pairwise_append.2 ⟨Wu.1,(List.pairwise_cons.1 Wu.2.1).2,fun a ha b hb=>Wu.2.2 a ha b (.tail _ hb)⟩
    ·have Io:q∈L1++p::L2:=by
      rcases List.mem_append.1 hq with hq|hq
      ·exact gr _ hq
      ·exact lG _ (.tail _ hq)
     obtain⟨f1,f2,f3,f4,f5⟩:=s.pe q Io;refine⟨f1,f2,f3,f4,?_⟩;rw[Go.getD_set_ne false (Ne.symm (hne q (List.mem_append.1 hq)))];exact f5
    ·have Io:q∈L1++p::L2:=by
      rcases List.mem_append.1 hq with hq|hq
      ·exact gr _ hq
      ·exact lG _ (.tail _ hq)
     exact s.later q Io
    ·rcases (Bx j).1 hj with rfl|hj
     ·rw[e1] at uZ;cases uZ
      exact(Bx d).2 (.inr (hdp d hd))
     ·exact(Bx d).2 (.inr (s.closed j oj hj uZ d hd))
    ·have old:listed.getD d false=true∨ ∃q'∈L1++p::L2,q'.i=d∧(q'=p∨q'∈M1):=by
      rcases List.append_eq_append_iff.1 he with⟨a',x1,x2⟩|⟨c',x1,x2⟩
      ·
       have:=s.pd (L1++p::a') q M2 (by rw[x2];simp) d hd;rcases this with h|⟨q',Io,e⟩
       ·exact .inl h
       ·refine .inr ⟨q',?_,e,?_⟩
        ·rcases List.mem_append.1 Io with h|h
         ·exact gr _ h
         ·rcases cw.1 h with rfl|h
          ·exact lG _ (.head _)
          ·exact lG _ (.tail _ (by rw[x2];exact gr _ h))
        ·rcases List.mem_append.1 Io with h|h
         ·exact .inr (by rw[x1];exact gr _ h)
         ·rcases cw.1 h with rfl|h
          ·exact .inl rfl
          ·exact .inr (by rw[x1];exact lG _ h)
      ·cases c' with
       |nil=>
        simp only[lX,oW] at x1 x2;subst x1;have:=s.pd (L1++[p]) q M2 (by rw[←x2];simp) d hd;rcases this with h|⟨q',Io,e⟩
        ·exact .inl h
        ·rcases List.mem_append.1 Io with h|h
         ·exact .inr ⟨q',gr _ h,e,.inr h⟩
         ·simp only[jz] at h
          exact .inr ⟨q',by rw[h];exact hp,e,.inl h⟩
       |cons y ys=>
        simp only[wV,List.cons.injEq] at x2;obtain⟨rfl,_⟩:=x2;have:=s.pd M1 q (ys++p::L2) (by rw[x1];simp) d hd;rcases this with h|⟨q',Io,e⟩
        ·exact .inl h
        ·exact .inr ⟨q',by rw[x1];exact gr _ (gr _ Io),e,.inr Io⟩
     rcases old with h|⟨q',_,e,rfl|h⟩
     ·exact .inl ((Bx d).2 (.inr h))
     ·exact .inl ((Bx d).2 (.inl e.symm))
     ·exact .inr ⟨q',h,e⟩
    ·obtain⟨st,g1,g2⟩:=s.go
     exact⟨st,by rw[k3];exact g1,g2⟩
   have hnext:=ih _ _ w (L1++L2) rest S hs' (by simp only[bX,ez] at hf ⊢;omega);have hyn:=k1.yn hC.ty;unfold Go.wpOp;simp only[e1];rcases hyn with⟨hw,hv⟩|⟨hw,hv⟩
   ·rw[aP hw]
    refine .inl ?_;unfold Oper.wp;rw[hv];exact hnext
   ·rw[aF (by rw[hw];exact Bool.false_ne_true)]
    rw[hv] at hnext;exact hnext
  constructor
  ·intro hnil
   exfalso
   cases L with
   |nil=>
    have first: ∃(i:Nat) (o:Oper),ops[i]?=some o∧i∉S∧ ∀d∈mV o,d∈S:=by
     cases rest with
     |nil=>simp[zy.len] at hf
     |op i fl r=>
      obtain⟨o,ho,VN,ES,_⟩:=mw s.Gj;exact⟨i,o,ho,VN,ES⟩
     |alt a b=>
      have hs:=s.Gj;simp only[eA,c8] at hs;obtain⟨j,_,oj,h1,h2,h3⟩:=EB hs.1.1;exact⟨j,oj,h1,h2,h3⟩
    ·obtain⟨i,o,ho,VN,ES⟩:=first
     have hi:listed.getD i false=false:=by
      cases h:listed.getD i false with
      |false=>rfl
      |true=>exact absurd ((s.mem i).2 (.inl h)) VN
     have:=ready1 s.sz hi ho fun d hd=>by
      rcases (s.mem d).1 (ES d hd) with h|⟨p,hp,_⟩
      ·exact h
      ·cases hp
     rw[hnil] at this
     cases this
   |cons p L2=>
    obtain⟨e1,e2,e3,e4,e5⟩:=s.pe p (.head _)
    have:=ready1 s.sz e5 e1 fun d hd=>by
     rcases s.pd [] p L2 rfl d hd with h|⟨q,hq,_⟩
     ·exact h
     ·cases hq
    rw[hnil] at this
    cases this
  ·intro j hj
   obtain⟨hjl,oj,uZ,Qp⟩:=ready0 s.sz hj
   have doEff: ∀{rest:zy} {L:List Pe} {S:List Nat} {fl:List Nat} {r:zy},MO C F A w0 fx g n l K cf lp Q ops listed aM w L rest S→fuel+1=rest.len+L.length→r.len+1=rest.len→j∉S→B8 oj=false→eA C ops none (j::S) r=true→
    (∀(k:Nat) (ok:Oper),k∈S→ops[k]?=some ok→pT ok=true→k∈fl∨tC ops k j)→(∃st,Inv F A w0 fx g n st (pH L aM) w∧(oB C fx l ops (.op j fl r) st K).holds cf lp Q)→wpOp C.P ops Qc j (wpAny C.P .any ops Qc fuel (listed.setIfInBounds j true)) aM w:=fun {rest L S fl r} s hf hrl RE hsel Po Is Kn=>by
    have VO: ∀p∈L,B8 p.o=false∧G3 ops p.o=true∧PW ops p.o oj:=fun p hp=>by
     obtain⟨f1,f2,f3,f4,f5⟩:=s.pe p hp;refine⟨f4,f3,(s.later p hp j oj RE uZ).now uZ fun hd=> ?_⟩
     have:=hd.listed s.closed fun o' ho'=>by rw[uZ] at ho';cases ho';exact Qp
     rw[f5] at this;cases this
    have sv: ∀q∈L,∀d,q.o.dst=some d→d∉oj.looksAt ops:=fun q hq=>(VO q hq).2.2.2.2;obtain⟨x1,x2,_⟩:=Dt (ops:=ops) hsel L aM sv;obtain⟨st,hinv,hk⟩:=Kn;simp only[oB,uZ] at hk
    have hlt:j<listed.size:=by rw[s.sz];exact(Array.getElem?_eq_some_iff.1 uZ).1
    have Bx: ∀d,(listed.setIfInBounds j true).getD d false=true↔d=j∨listed.getD d false=true:=fun d=>by
     by_cases hd:d=j
     ·subst hd;simp[qv,Jp,hlt]
     ·rw[Go.getD_set_ne false (Ne.symm hd)];simp[hd]
    have hpp: ∀(v:Value),(wY C ops L aM w→wY C ops L (aM.put oj.dst v) w)∧pH L (aM.put oj.dst v)=(pH L aM).put oj.dst v:=fun v=>
     G6 L aM fun p hp=>⟨(VO p hp).1,(VO p hp).2.2.1,(VO p hp).2.2.2.1⟩
    have next: ∀(v:Value) (w':World) (st':TS),Inv F A w0 fx g n st' ((pH L aM).put oj.dst v) w'→(oB C fx l ops r st' K).holds cf lp Q→(∀x∈fl,∀ox,ops[x]?=some ox→ ∀t y ad,ox.op= .load t y→(pH L aM).eval y= .pointer (some ad)→Region.wanted ox (yielded ops (pH L aM).tmps)=true→ad.block<w.heap.size→w'.heap[ad.block]?=w.heap[ad.block]?)→
     wpAny C.P .any ops Qc fuel (listed.setIfInBounds j true) (aM.put oj.dst v) w':=fun v w' st' hinv' hk' hfr=>by
     have Wu:=G7 (w':=w') hC.ty L aM s.pw (fun p hp=>⟨(VO p hp).2.1,(VO p hp).1⟩) (fun p hp t y ad hop hy hwp hlt'=>by
      obtain⟨f1,f2,f3,f4,f5⟩:=s.pe p hp;have hpS:p.i∈S:=(s.mem _).2 (.inr ⟨p,hp,rfl⟩);rcases Is p.i p.o hpS f1 (by unfold pT;rw[hop]) with hfl|Uj
      ·exact hfr p.i hfl p.o f1 t y ad hop hy hwp hlt'
      ·exfalso
       have:=Uj.listed s.closed fun o' ho'=>by rw[uZ] at ho';cases ho';exact Qp
       rw[f5] at this;cases this) s.pend
     have Zz:=(G6 (C:=C) (ops:=ops) (w:=w') (dst:=oj.dst) (u:=v) L aM fun p hp=>⟨(VO p hp).1,(VO p hp).2.2.1,(VO p hp).2.2.2.1⟩);refine ih _ _ w' L r (j::S) ⟨by simp[s.sz],fun d=> ?_,Po,Zz.1 Wu,s.pw,fun p hp=> ?_,fun p hp d od hd ZA=>s.later p hp d od (fun hs=>hd (.tail _ hs)) ZA,fun d od hd ZA e he=> ?_,fun L1 p L2 he d hd=> ?_,st',by rw[Zz.2];exact hinv',hk'⟩ ax
     ·rw[cw,s.mem,Bx]
      constructor
      ·rintro(h|h|h)
       ·exact .inl (.inl h)
       ·exact .inl (.inr h)
       ·exact .inr h
      ·rintro((h|h)|h)
       ·exact .inl h
       ·exact .inr (.inl h)
       ·exact .inr (.inr h)
     ·obtain⟨f1,f2,f3,f4,f5⟩:=s.pe p hp
      refine⟨f1,f2,f3,f4,?_⟩;rw[Go.getD_set_ne false (fun e=>RE ((s.mem j).2 (.inr ⟨p,hp,e.symm⟩)))];exact f5
     ·rcases (Bx d).1 hd with rfl|hd
      ·rw[uZ] at ZA;cases ZA
       exact(Bx e).2 (.inr (Qp e he))
      ·exact(Bx e).2 (.inr (s.closed d od hd ZA e he))
     ·exact(s.pd L1 p L2 he d hd).imp (fun h=>(Bx d).2 (.inr h)) id
    have T6:=MM hC Ak hinv (W0 hb uZ) hk (Qc:=fun _ _ _=>False) (Kc:=fun a' w'=> ∃v,a'=(pH L aM).put oj.dst v∧wpAny C.P .any ops Qc fuel (listed.setIfInBounds j true) (aM.put oj.dst v) w') fun st' v w' hi' hk' hfr=>by
     rw[oC] at hk';exact⟨v,rfl,next v w' st' hi' hk' hfr⟩
    have hdv: ∀v v',(pH L aM).put oj.dst v=(pH L aM).put oj.dst v'→aM.put oj.dst v=aM.put oj.dst v':=fun v v' h=>QU (JS L aM).symm h;unfold Go.wpOp;simp only[uZ];rw[x2] at T6
    by_cases hw:Region.wanted oj (yielded ops aM.tmps)=true
    ·rw[aP hw] at T6 ⊢
     exact .inl (MQ (Kc':=wpAny C.P .any ops Qc fuel (listed.setIfInBounds j true)) x1.symm (fun a' w' h=>h) (fun v v' h w' hw'=>by rw[←hdv v v' h];exact hw') T6)
    ·rw[aF hw] at T6 ⊢
     obtain⟨v,e,hn⟩:=T6;rw[hdv undef v e];exact hn
   have go: ∀(rest:zy) (L:List Pe) (S:List Nat),MO C F A w0 fx g n l K cf lp Q ops listed aM w L rest S→fuel+1=rest.len+L.length→wpOp C.P ops Qc j (wpAny C.P .any ops Qc fuel (listed.setIfInBounds j true)) aM w:=by
    intro rest
    induction rest with
    |nil=>
     intro L S s hf;have hs:=s.Gj;simp only[eA] at hs;have RE:=iz.1 (vq hs j (Array.getElem?_eq_some_iff.1 uZ).1);rcases (s.mem j).1 RE with h|⟨p,hp,rfl⟩
     ·rw[hjl] at h;cases h
     ·have e1:=(s.pe p hp).1
      rw[uZ] at e1;cases e1;exact up s hf p hp Qp
    |op i fl r ihr=>
     intro L S s hf
     by_cases RE:j∈S
     ·rcases (s.mem j).1 RE with h|⟨p,hp,rfl⟩
      ·rw[hjl] at h;cases h
      ·have e1:=(s.pe p hp).1
       rw[uZ] at e1;cases e1;exact up s hf p hp Qp
     ·obtain⟨o,ho,VN,ES,hsel,Po,uC⟩:=mw s.Gj
      rcases uC with⟨hq,_,_,_⟩|⟨hq,Wv,Is⟩
      ·obtain⟨v,s'⟩:=s.advance hC hb ho hq
       exact ihr _ _ s' (by simp only[bX,ez,List.length_nil,zy.len] at hf ⊢;omega)
      ·have hij:j=i:=by
        apply Classical.byContradiction
        intro hne;obtain⟨d,hd,hdS⟩:=Wv j oj RE hne eO uZ;exact hdS ((s.mem d).2 (.inl (Qp d hd)))
       subst hij;rw[uZ] at ho;cases ho;exact doEff s hf rfl RE hsel Po Is s.go
    |alt a b _ _=>
     intro L S s hf
     by_cases RE:j∈S
     ·rcases (s.mem j).1 RE with h|⟨p,hp,rfl⟩
      ·rw[hjl] at h;cases h
      ·have e1:=(s.pe p hp).1
       rw[uZ] at e1;cases e1;exact up s hf p hp Qp
     ·have hjH:j∈(zy.alt a b).tw:=by
       apply Classical.byContradiction
       intro hne;have hs:=s.Gj;simp only[eA,c8] at hs;obtain⟨d,hd,hdS⟩:=G8 hs.1.1 j oj RE hne (fun e=>hne (gr _ e)) uZ;exact hdS ((s.mem d).2 (.inl (Qp d hd)))
      obtain⟨st,hinv,hk⟩:=s.go;obtain⟨fl,r,hs',g1,g2,g3⟩:=Du C0 s.Gj hjH hk;obtain⟨o,ho,VN,ES,hsel,Po,uC⟩:=mw g1;rw[uZ] at ho;cases ho;rcases uC with⟨hq,_,Ws,Wt⟩|⟨hq,Wv,Is⟩
      ·exfalso
       have hs:=s.Gj;exact K0 hs hjH uZ hq
      ·exact doEff s hf g2 RE hsel Po Is ⟨st,hinv,g3⟩
   exact go rest L S s hf
theorem QW (hC:COk C) (Ak:G0 C cf) (C0:XW lp) (hm:C.P.follows .mixedOrders=true) (hb:EU n ops.toList=true) {Qc:Exit→Act→World→Prop} (hQ: ∀st a w,Inv F A w0 fx g n st a w→(K st).holds cf lp Q→Qc .normal a w) {Gj:zy} (hs:eA C ops none [] Gj=true) (hl:Gj.len=ops.size)
 {a:Act} (hi:Inv F A w0 fx g n st a w) (hk:(oB C fx l ops Gj st K).holds cf lp Q) {id:Nat}:(Code.region id ops true).wp C.P Qc a w:=by
 refine wp_region_any hm ?_;obtain⟨⟨φ,h⟩,h2,h3,h4⟩:=hi;have hi':Inv F A w0 fx g n st a {w with drawn:=w.drawn+1}:=⟨⟨φ,h.BP (jE.drew w)⟩,h2,h3,h4⟩
 have uX: ∀j,(Array.replicate ops.size false).getD j false=false:=fun j=>by
  rw[qv,Array.getElem?_replicate]
  split<;>rfl
 refine W2 (l:=l) hC Ak C0 hb hQ ops.size _ a _ [] Gj [] ⟨by simp,fun j=> ?_,hs,trivial,.nil,fun p hp=>(by cases hp),fun p hp=>(by cases hp),fun j oj hj=> ?_,fun L1 p L2 he=> ?_,st,hi',hk⟩ (by simp[hl])
 ·rw[uX];simp
 ·rw[uX] at hj;cases hj
 ·cases L1<;>cases he
end Go.T
namespace Go.T
variable {F : Nat → Prop} {A : Arg} {w0 w w' : World} {φ φ' φ1 : Fp} {st st' sta cG lR : TS} {tm AK : Array Value} {C : jC}
variable {R : Type} {cf : Cf} {lp : Lp} {Q : R → Prop}
variable {fx : List Nat} {g : Nat → Value} {n : Nat} {f : FuncId}
def yd (C:jC) (f:FuncId):Code→Bool
 | .region id ops draw=>match draw with
   |false=>true
   |true=>match C.Gj f id with
    |some l=>match Nat.beq l.len ops.size with
     |true=>eA C ops none [] l
     |false=>false
    |none=>true
 | .seq a b=>match yd C f a with|true=>yd C f b|false=>false
 | .cond _ a b=>match yd C f a with|true=>yd C f b|false=>false
 | .block _ b=>yd C f b
 | .loop b=>yd C f b
 |_=>true
structure MR (C:jC):Prop extends COk C where
 Gj: ∀(f:Nat) (fn:Func) (c:Code),C.P.funcs[f]?=some fn→fn.body=some c→yd C f c=true
 mix:C.P.follows .mixedOrders=true
 ext: ∀(f:FuncId) (p:List TV→Option (TV×List TV)) (vs:List TV) (r:TV) (fs:List TV),C.ext f=some p→p vs=some (r,fs)→Dq C f vs r fs
def QK (F:Nat→Prop) (A:Arg) (w0:World) (fx:List Nat) (g:Nat→Value) (n:Nat) (Qt:TX→TS→Prop):Exit→Act→World→Prop
 | .normal,a,w=> ∃st,Inv F A w0 fx g n st a w∧Qt .norm st
 | .exit id,a,w=> ∃st,Inv F A w0 fx g n st a w∧Qt (.ex id) st
 | .ret,a,w=> ∃st,Inv F A w0 fx g n st a w∧Qt .ret st
 |_,_,_=>False
def W3 (C:jC) (F:Nat→Prop) (A:Arg) (w0:World) (fx:List Nat) (g:Nat→Value) (n:Nat) (f:FuncId) (lp:Lp):Prop:=
 ∀(i:Nat) (c:Code) (st:TS) (Qt:TX→TS→Prop) (a:Act) (w:World),p8 n c=true→yd C f c=true→lp f i c st Qt→Inv F A w0 fx g n st a w→(Code.loop c).wp C.P (QK F A w0 fx g n Qt) a w
theorem SN (hC:MR C) (Ak:G0 C cf) (hlm:XW lp) (C0:W3 C F A w0 fx g n f lp): ∀(c:Code) (i:Nat) (st:TS) (K:TX→TS→Ev R) (a:Act) (w:World),p8 n c=true→yd C f c=true→Inv F A w0 fx g n st a w→(run C fx f i c st K).holds cf lp Q→
 c.wp C.P (QK F A w0 fx g n fun x st=>(K x st).holds cf lp Q) a w:=by
 intro c
 induction c with
 |skip=>intro i st K a w _ _ hi hk;exact wp_skip ⟨st,hi,hk⟩
 |region id ops draw=>
  intro i st K a w hb hs hi hk
  cases draw with
  |false=>
   simp only[run] at hk;exact wp_region_list (JR hC.toCOk Ak (K:=K .norm) (fun st a w hi hk=>⟨st,hi,hk⟩) ops.toList st a w hb hi hk)
  |true=>
   simp only[run] at hk;simp only[yd] at hs
   split at hk
   ·rename_i l hl
    rw[hl] at hs;simp only at hs
    split at hs
    ·rename_i hlen
     exact QW hC.toCOk Ak hlm hC.mix hb (K:=K .norm) (fun st a w hi hk=>⟨st,hi,hk⟩) hs (fk hlen) hi hk
    ·cases hs
   ·exact hk.elim
 |seq x y ihx ihy=>
  intro i st K a w hb hs hi hk;simp only[run] at hk
  have hb':p8 n x=true∧p8 n y=true:=by
   simp only[p8] at hb
   split at hb
   ·exact⟨by assumption,hb⟩
   ·cases hb
  have hs':yd C f x=true∧yd C f y=true:=by
   simp only[yd] at hs
   split at hs
   ·exact⟨by assumption,hs⟩
   ·cases hs
  refine wp_seq (Code.wp_mono (fun e a w q=> ?_) (ihx i st _ a w hb'.1 hs'.1 hi hk))
  cases e with
  |normal=>obtain⟨st',hi',hk'⟩:=q;exact ihy i st' K a w hb'.2 hs'.2 hi' hk'
  |exit id=>exact q
  |ret=>exact q
  |_=>exact q.elim
 |cond c x y ihx ihy=>
  intro i st K a w hb hs hi hk;simp only[run] at hk
  have hb':p8 n x=true∧p8 n y=true:=by
   simp only[p8] at hb
   split at hb
   ·exact⟨by assumption,hb⟩
   ·cases hb
  have hs':yd C f x=true∧yd C f y=true:=by
   simp only[yd] at hs
   split at hs
   ·exact⟨by assumption,hs⟩
   ·cases hs
  obtain⟨φ,h⟩:=hi.rel;have hc:=de hC.ty h 0 c
  split at hk
  ·rename_i p hp
   rw[hp] at hc;have hc:a.eval c= .bool p:=hc;refine wp_cond hc ?_
   cases p with
   |true=>exact ihx i st K a w hb'.1 hs'.1 hi hk
   |false=>exact ihy i st K a w hb'.2 hs'.2 hi hk
  ·rename_i p hp
   rw[hp] at hc;have hc:=mq hc;refine wp_cond hc ?_
   cases p with
   |true=>exact ihx i st K a w hb'.1 hs'.1 hi hk
   |false=>exact ihy i st K a w hb'.2 hs'.2 hi hk
  ·exact hk.elim
 |block id x ih=>
  intro i st K a w hb hs hi hk;simp only[run] at hk;refine wp_block (Code.wp_mono (fun e a w q=> ?_) (ih id st _ a w hb hs hi hk))
  cases e with
  |normal=>exact q
  |exit id'=>
   obtain⟨st',hi',hk'⟩:=q;simp only at hk';simp only[Exit.inBlock]
   cases hbq:Nat.beq id' id with
   |true=>
    have:=fk hbq;rw[hbq] at hk';rw[aP this];exact⟨st',hi',hk'⟩
   |false=>
    rw[hbq] at hk';rw[aF (ov hbq)];exact⟨st',hi',hk'⟩
  |ret=>exact q
  |_=>exact q.elim
 |loop x ih=>
  intro i st K a w hb hs hi hk;simp only[run] at hk;rw[oC] at hk;obtain⟨⟨φ,h⟩,h2,h3,h4⟩:=hi;exact C0 i x _ _ a w hb hs hk ⟨h.head _,h2,h3,h4⟩
 |exit id=>intro i st K a w _ _ hi hk;exact wp_exit ⟨st,hi,hk⟩
 |ret=>intro i st K a w _ _ hi hk;exact wp_ret ⟨st,hi,hk⟩
 |_=>intro i st K a w _ _ hi hk;exact hk.elim
theorem PZ (hC:MR C) (Ak:G0 C cf) (hlm:XW lp) (C0:W3 C F A w0 fx g n f lp) {i:Nat} {c:Code} {Qt:TX→TS→Prop} (hb:p8 n c=true) (hs:yd C f c=true): ∀(k:Nat) (st:TS) (a:Act) (w:World),iter C cf lp fx f i c Qt k st→Inv F A w0 fx g n st a w→Code.rounds C.P c (QK F A w0 fx g n Qt) k a w
 |0,_,_,_,h,_=>h.elim
 |k+1,st,a,w,h,hi=>by
  refine Code.wp_mono (fun e a w q=> ?_) (SN hC Ak hlm C0 c i st Gz a w hb hs hi h)
  cases e with
  |normal=>
   obtain⟨st',hi',hk'⟩:=q;simp only[Gz,Ev.holds] at hk';rw[oC] at hk';obtain⟨⟨φ,h⟩,h2,h3,h4⟩:=hi';exact PZ hC Ak hlm C0 hb hs k _ a w hk' ⟨h.head _,h2,h3,h4⟩
  |exit id=>exact q
  |ret=>exact q
  |_=>exact q.elim
theorem P0 {k:Nat} {fx:List Nat} (d:Nat):XW (N4 C cf k fx d):=fun f i c st Q Q' hQ h=>nr (fun _ _ _ _ h=>h) (bI _) d f i c st Q Q' hQ h
theorem SO (hC:MR C) (Ak:G0 C cf) {k:Nat}: ∀(d:Nat),W3 C F A w0 fx g n f (N4 C cf k fx d)
 |0=>fun i c st Qt a w _ _ h _=>h.elim
 |d+1=>fun i c st Qt a w hb hs h hi=>wp_loop_rounds k (PZ hC Ak (P0 d) (SO hC Ak d) hb hs k st a w h hi)
theorem JT: ∀{ps:List bu} {i j:Nat} {ms:List Mode},ps[j]?=some (.inout ms)→i+j∈Dd ps i
 |[],_,_,_,h=>by simp at h
 |p::r,i,0,ms,h=>by
  simp only[cZ,aU] at h;subst h;exact .head _
 |p::r,i,j+1,ms,h=>by
  have:=JT (ps:=r) (i:=i+1) (j:=j) (by simpa using h);rw[show i+(j+1)=i+1+j by omega]
  cases p with
  |inout _=>exact .tail _ this
  |borrow=>exact this
  |consume _=>exact this
theorem SP {g:Qu} {i:Nat} (h:i∈Dd g.ps 0):i∈Gy g:=by
 unfold Gy
 split
 ·exact .tail _ h
 ·exact h
theorem MS (hC:MR C): ∀(k:Nat),G0 C (gh C k)
 |0=>fun f vs r fs h=>h.elim
 |k+1=>fun f vs r fs h=>by
  have Ak:=MS hC k;unfold gh at h
  cases hx:C.ext f with
  |some p=>rw[hx] at h;exact hC.ext f p vs r fs hx h
  |none=>
  rw[hx] at h;have h:(body C f vs).holds (gh C k) (N4 C (gh C k) k (Gy (C.sig f)) 4) fun p=>p=(r,fs):=h;unfold body at h
  split at h
  ·exact h.elim
  ·rename_i fn hfn
   split at h
   ·exact h.elim
   ·rename_i c hc
    refine⟨⟨fn,c,hfn,hc⟩,fun w xs Rg BB X Y hin hlen=> ?_⟩;rw[oC] at h
    have wR: ∀(i:Nat) (x:Value),xs[i]?=some x→(xs.toArray++Array.replicate (fn.ntmps-xs.toArray.size) undef).getD i undef=x:=fun i x hx=>by
     have hlt:i<xs.length:=(List.getElem?_eq_some_iff.1 hx).1;rw[qv,Array.getElem?_append_left (by simpa using hlt)];simp[hx]
    have hstart:=Sn (C.sig f) hin wR
    have hinv:Inv (p7 X Y) (Ar true Rg BB) w (Gy (C.sig f)) (fun i=>xs.getD i undef) fn.ntmps (yC (C.sig f) vs) {tmps:=xs.toArray++Array.replicate (fn.ntmps-xs.toArray.size) undef,defers:=[]} w:=by
     refine⟨⟨_,hstart⟩,fun i _=> ?_,rfl,?_⟩
     ·cases hx:xs[i]? with
      |some x=>rw[show xs.getD i undef=x by simp[List.getD,hx]];exact wR i x hx
      |none=>
       have hge:xs.length≤i:=by
        rcases Nat.lt_or_ge i xs.length with h'|h'
        ·rw[aZ h'] at hx;cases hx
        ·exact h'
       rw[show xs.getD i undef=undef by simp[List.getD,hx]];rw[qv,Array.getElem?_append_right (by simpa using hge),Array.getElem?_replicate]
       split<;>rfl
     ·simp;omega
    have hrun:=SN hC Ak (P0 _) (SO hC Ak 4) c 0 _ _ _ w (hC.dst f fn c hfn hc) (hC.Gj f fn c hfn hc) hinv h;refine calls_of_wp hfn hc (Code.wp_mono (fun e a w' q=> ?_) hrun)
    have fin: ∀x st,Inv (p7 X Y) (Ar true Rg BB) w (Gy (C.sig f)) (fun i=>xs.getD i undef) fn.ntmps st a w'→(RV C (C.sig f) fn.results.toList x st).holds (gh C k) (N4 C (gh C k) k (Gy (C.sig f)) 4) (fun p=>p=(r,fs))→
     a.defers=[]∧ ∃v,(results fn a.tmps).run C.P w'= .ok v w'∧ ∃v',Ending.returned v= .returned v'∧Ep (p7 X Y) (Ar true Rg BB) w w' (C.sig f) xs r fs v':=fun x st hi hk=>by
     obtain⟨⟨φ,h⟩,h2,h3,h4⟩:=hi;obtain⟨v,g1,g2⟩:=WU hC.ty (C.sig f) h hlen (fun j ms hj=>h2 j (SP (by have:=JT (i:=0) hj;rwa [ic] at this))) hk;exact⟨h3,v,g1,v,rfl,g2⟩
    cases e with
    |normal=>obtain⟨st,hi,hk⟩:=q;exact fin _ st hi hk
    |ret=>obtain⟨st,hi,hk⟩:=q;exact fin _ st hi hk
    |exit id=>obtain⟨st,hi,hk⟩:=q;exact hk.elim
    |_=>exact q.elim
end Go.T
namespace Go.T
variable {C : jC} {w w' : World}
inductive Dv (tt:TypeId→iT):TypeId→List TC→Prop
 |int {t:TypeId} {k:IntKind} {n:Int} (h:(tt t).ti= .int k) (hw:(Lit.int k n).wf=true):Dv tt t [.sc (.int k n)]
 |bool {t:TypeId} {b:Bool} (h:(tt t).ti= .bool):Dv tt t [.sc (.bool b)]
 |str {t:TypeId} {s:ByteArray} (h:(tt t).ti= .str) (hs:s.size≤reachBytes):Dv tt t [.sc (.string s)]
 |slice {t e:TypeId} (h:(tt t).ti= .slice e) (rows:List (List TC)) (hr: ∀r∈rows,Dv tt e r) (hl:rows.length*(tt e).bytes≤reachBytes):Dv tt t [.sub (tt e).size rows]
 |struct {t:TypeId} {fs:List (Nat×TypeId)} (h:(tt t).ti= .struct fs) (parts:List (List TC)) (hl:parts.length=fs.length) (hf: ∀(j:Nat) (p:Nat×TypeId) (q:List TC),fs[j]?=some p→parts[j]?=some q→Dv tt p.2 q):Dv tt t parts.flatten
def QY (tt:TypeId→iT):Nat→List (Nat×TypeId)→Nat→Bool
 |off,[],size=>Nat.beq off size
 |off,(o,t)::r,size=>match Nat.beq o off with|true=>QY tt (off+(tt t).size) r size|false=>false
def SQ (tt:TypeId→iT):Nat→TypeId→Bool
 |0,_=>false
 |n+1,t=>match(tt t).ti with
  | .int _=>true
  | .bool=>true
  | .str=>true
  | .slice e=>SQ tt n e
  | .struct fs=>QY tt 0 fs (tt t).size&&fs.all fun f=>SQ tt n f.2
  |_=>false
def Rp (ps:List MemPlace) (k:Nat):Prop:= ∃x∈ps,x.block=k
section
variable {H : Type} {enc : TypeId × Value → H}
theorem A4 (hT:ef C) {t:TypeId} (hk:known (C.tt t)=true):C.P.cellsOf t=(C.tt t).size∧C.P.bytesOf t=(C.tt t).bytes:=by
 obtain⟨i,z,h1,h2,h3,_⟩:=(hT t hk).info;unfold Program.cellsOf Program.bytesOf;rw[h1];exact⟨h2,h3⟩
theorem Dw {tt:TypeId→iT} {m:Nat} {t:TypeId} (h:SQ tt m t=true):known (tt t)=true:=by
 cases m with
 |zero=>cases h
 |succ m=>
  unfold SQ at h;unfold known
  split at h<;>first|(rename_i e;rw[e])|cases h
theorem Dv.len (hT:ef C): ∀(m:Nat) (t:TypeId) (cs:List TC),SQ C.tt m t=true→Dv C.tt t cs→cs.length=(C.tt t).size
 |0,_,_,h,_=>by cases h
 |m+1,t,cs,h,hw=>by
  have hk:=Dw h
  cases hw with
  |int h1 _=>exact((hT t hk).one fun fs e=>by rw[h1] at e;cases e).symm
  |bool h1=>exact((hT t hk).one fun fs e=>by rw[h1] at e;cases e).symm
  |str h1 _=>exact((hT t hk).one fun fs e=>by rw[h1] at e;cases e).symm
  |slice h1 _ _ _=>exact((hT t hk).one fun fs e=>by rw[h1] at e;cases e).symm
  | @struct _ fs h1 parts hl hf=>
    unfold SQ at h;rw[h1] at h;simp only[c8,List.all_eq_true] at h;obtain⟨hc,ho⟩:=h
    have key: ∀(fs:List (Nat×TypeId)) (parts:List (List TC)) (off:Nat),parts.length=fs.length→(∀(j:Nat) (p:Nat×TypeId) (q:List TC),fs[j]?=some p→parts[j]?=some q→q.length=(C.tt p.2).size)→QY C.tt off fs (C.tt t).size=true→off+parts.flatten.length=(C.tt t).size:=by
     intro fs
     induction fs with
     |nil=>
      intro parts off hl _ hc;have:parts=[]:=yq hl;subst this;exact fk hc
     |cons f r ih=>
      intro parts off hl hf hc
      cases parts with
      |nil=>cases hl
      |cons q qs=>
       obtain⟨o,ft⟩:=f;simp only[QY] at hc
       split at hc
       ·have h2:=ih qs _ (by simpa using hl) (fun j p q' h1 h2=>hf (j+1) p q' (by simpa using h1) (by simpa using h2)) hc
        have h3:=hf 0 _ q rfl rfl;simp only at h3;rw[rm,bX,h3];omega
       ·cases hc
    have:=key fs parts 0 hl (fun j p q NO h2=>Dv.len hT m p.2 q (ho p (fC NO)) (hf j p q NO h2)) hc;omega
theorem Dx (hT:ef C): ∀(m:Nat) (t:TypeId) (fuel:Nat) (cs:List Value) (x:DataW H×List MemPlace),SQ C.tt m t=true→DataW.trod enc C.P w 0 (fun _=>true) true fuel t cs=some x→(x.1.weights C.P t).all (· ≤reachBytes)=true→
 ∃tcs,Dv C.tt t tcs∧tcs.length=cs.length∧ ∀(j:Nat) (c:TC) (v:Value),tcs[j]?=some c→cs[j]?=some v→ai w (Rp x.2) .snap C2 c v
 |0,_,_,_,_,h,_,_=>by cases h
 |m+1,t,fuel,cs,x,h,hx,Uj=>by
  have hk:=Dw h;have hd:=(hT t hk).desc
  have one: ∀{c0:TC} {v0:Value} {ps:List MemPlace},ai w (Rp ps) .snap C2 c0 v0→ ∀(j:Nat) (c:TC) (v:Value),[c0][j]?=some c→[v0][j]?=some v→ai w (Rp ps) .snap C2 c v:=fun {c0 v0 ps} h j c v h1 h2=>by
   cases j with
   |zero=>simp only[cZ,aU] at h1 h2;subst h1 h2;exact h
   |succ j=>simp at h1
  unfold SQ at h
  cases ht:(C.tt t).ti with
  |int k=>
   rw[ht] at hd;obtain⟨n,rfl,rfl,hw⟩:=DataW.trod_int hd hx;exact⟨_,.int ht hw,rfl,one (.sc _ _ _ trivial)⟩
  |bool=>
   rw[ht] at hd;obtain⟨b,rfl,rfl⟩:=DataW.trod_bool hd hx;exact⟨_,.bool ht,rfl,one (.sc _ _ _ trivial)⟩
  |str=>
   rw[ht] at hd;obtain⟨s,rfl,rfl,_⟩:=DataW.trod_string hd hx;refine⟨_,.str ht ?_,rfl,one (.sc _ _ _ trivial)⟩;simp only[DataW.weights,pX,wU,oq,decide_eq_true_eq] at Uj;simpa using Uj
  |slice e=>
   rw[ht] at hd h;simp only at h hd;obtain⟨hu,X6⟩:=hd;obtain⟨hce,hbe⟩:=A4 hT X6;have hpos:=(hT e X6).pos;rcases DataW.trod_slice hu hx with⟨rfl,rfl⟩|⟨a,len,cap,elems,rest,n,rfl,rfl,rfl,hb,hl,hm,hlen,hel,hsp,_⟩
   ·exact⟨_,.slice ht [] (fun r hr=>(by cases hr)) eO,rfl,one (tf hpos)⟩
   ·obtain⟨hrl,_⟩:=hsp rfl
    simp only[DataW.weights,hu,pX,List.all_append,c8,decide_eq_true_eq,dB] at Uj;obtain⟨hw1,Jn,_⟩:=Uj
    have ZB: ∀(i:Nat) (d:DataW H),(elems.map (·.1))[i]?=some d→(d.weights C.P e).all (· ≤reachBytes)=true:=by
     intro i d hi
     have: ∀(l:List (DataW H)),(DataW.weightsAll C.P e l).all (· ≤reachBytes)=true→ ∀d∈l,(d.weights C.P e).all (· ≤reachBytes)=true:=by
      intro l
      induction l with
      |nil=>intro _ d hd;cases hd
      |cons y r ih=>
       intro h d hd;simp only[DataW.weightsAll,List.all_append,c8] at h;rcases cw.1 hd with rfl|hd
       ·exact h.1
       ·exact ih h.2 d hd
     exact this _ Jn d (fC hi)
    have each: ∀i,i<len→ ∃row:List TC,Dv C.tt e row∧row.length=(C.tt e).size∧ ∀(f:Nat) (c:TC),row[f]?=some c→ ∃u,w.cell? (a.add (i*(C.tt e).size+f))=some u∧ai w (Rp (elems.flatMap (·.2))) .snap C2 c u:=by
     intro i hi;have h1:=hel i hi
     have hie:i<elems.length:=by omega
     rw[aZ hie,hce,Option.bind_eq_some_iff] at h1;obtain⟨vs,hvs,htr⟩:=h1;obtain⟨row,r1,r2,r3⟩:=Dx hT m e n vs elems[i] h htr (ZB i _ (by rw[gY,aZ hie];rfl));unfold World.cells? at hvs;rw[aP (BF _)] at hvs
     have hvl:vs.length=(C.tt e).size:=by simpa using mapM_some_length hvs
     refine⟨row,r1,by rw[r2,hvl],fun f c hf=> ?_⟩
     have hfl:f<(C.tt e).size:=by rw[←hvl,←r2];exact(List.getElem?_eq_some_iff.1 hf).1
     have hg:=mapM_some_get hvs f f (by simp[hfl]);rw[Addr.add_add] at hg;have hv:vs[f]?=some vs[f]:=aZ (by rw[hvl];exact hfl);exact⟨vs[f],by rw[hg];exact hv,(r3 f c _ hf hv).mU fun k ⟨y,hy,hk⟩=>⟨y,List.mem_flatMap.2 ⟨_,u7 hie,hy⟩,hk⟩⟩
    obtain⟨rows,NM,hrow⟩: ∃rows:List (List TC),rows.length=len∧ ∀i row,rows[i]?=some row→Dv C.tt e row∧row.length=(C.tt e).size∧ ∀(f:Nat) (c:TC),row[f]?=some c→ ∃u,w.cell? (a.add (i*(C.tt e).size+f))=some u∧ai w (Rp (elems.flatMap (·.2))) .snap C2 c u:=by
     refine⟨(List.range len).map fun i=>if hi:i<len then Classical.choose (each i hi) else [],by simp,fun i row hi=> ?_⟩
     have RD:i<len:=by have:=(List.getElem?_eq_some_iff.1 hi).1;simpa using this
     simp[RD] at hi;subst hi;exact Classical.choose_spec (each i RD)
    refine⟨_,.slice ht rows (fun r hr=> ?_) ?_,rfl,one ?_⟩
    ·obtain⟨i,hi,rfl⟩:=List.mem_iff_getElem.1 hr
     exact(hrow i _ (aZ hi)).1
    ·rw[NM,←hbe,←hlen]
     exact pY (jZ _ (Nat.le_add_right _ _)) hw1
    ·have Wq:=ai.sub (w:=w) (R:=Rp (MemPlace.row a ((elems.length+rest.length)*C.P.cellsOf e)++(elems++rest).flatMap (·.2))) .snap C2 (C.tt e).size rows (some a) cap
      (fun i f=>(w.cell? (a.add (i*(C.tt e).size+f))).getD undef) (fun _ _ _=>False) ?_ ?_
     ·rw[NM] at Wq;exact Wq
     ·refine⟨by omega,hm,hpos,fun r hr=> ?_,fun _=>⟨a,rfl⟩,fun ad ha i f tc ht'=> ?_,fun _ ad ha hne=> ?_,fun hm=>absurd rfl hm,fun hm=>absurd rfl hm,fun hm=>(by cases hm)⟩
      ·obtain⟨i,hi,rfl⟩:=List.mem_iff_getElem.1 hr
       exact(hrow i _ (aZ hi)).2.1
      ·cases ha
       unfold sW at ht'
       cases hr:rows[i]? with
       |none=>rw[hr] at ht';cases ht'
       |some row=>
        rw[hr] at ht';obtain⟨u,u1,_⟩:=(hrow i row hr).2.2 f tc ht';rw[u1];rfl
      ·cases ha
       refine⟨.cell a.block (a.off+0),gr _ (List.mem_map.2 ⟨0,List.mem_range.2 ?_,rfl⟩),rfl⟩;rw[hce]
       have:0<rows.length:=by
        cases rows with
        |nil=>exact absurd rfl hne
        |cons _ _=>simp
       exact Nat.mul_pos ax hpos
     ·intro i f tc ht'
      unfold sW at ht'
      cases hr:rows[i]? with
      |none=>rw[hr] at ht';cases ht'
      |some row=>
       rw[hr] at ht';obtain⟨u,u1,u2⟩:=(hrow i row hr).2.2 f tc ht';rw[u1];refine u2.mU fun k ⟨y,hy,hk⟩=>⟨y,lG _ ?_,hk⟩;rw[List.flatMap_append];exact gr _ hy
  |struct fs=>
   rw[ht] at hd h;simp only[c8,List.all_eq_true] at h;obtain⟨hc,ho⟩:=h;obtain⟨fields,hu,hfl,hff⟩:=hd;obtain⟨xs,n,rfl,rfl,hcl,hxl,hxs⟩:=DataW.trod_struct hu hx;have hct:=(A4 hT hk).1;rw[hct] at hcl;simp only[DataW.weights,hu] at Uj
   have each: ∀(j:Nat) (p:Nat×TypeId),fs[j]?=some p→ ∃q:List TC,Dv C.tt p.2 q∧q.length=(C.tt p.2).size∧ ∀(i:Nat) (c:TC),q[i]?=some c→ ∃u,cs[p.1+i]?=some u∧ai w (Rp (xs.flatMap (·.2))) .snap C2 c u:=by
    intro j p hj;obtain⟨fd,f1,f2,f3,f4,f5⟩:=hff j p hj;have h1:=hxs j fd f1;rw[f2,f3,(A4 hT f4).1] at h1
    have hjx:j<xs.length:=by rw[hxl,hfl];exact(List.getElem?_eq_some_iff.1 hj).1
    rw[aZ hjx] at h1
    have hw:(xs[j].1.weights C.P p.2).all (· ≤reachBytes)=true:=by
     rw[←f3];have:=List.all_eq_true.1 Uj;refine List.all_eq_true.2 fun y hy=>this y (DataW.weights_mem_each (ts:=fields.toList.map (·.type)) (ds:=xs.map (·.1)) (j:=j) (by rw[gY];simp[f1]) (by rw[gY,aZ hjx];rfl) y hy)
    obtain⟨q,q1,q2,q3⟩:=Dx hT m p.2 n _ xs[j] (ho p (fC hj)) h1 hw
    have hql:q.length=(C.tt p.2).size:=by rw[q2,dj,gf,hcl];omega
    refine⟨q,q1,hql,fun i c hi=> ?_⟩
    have RD:i<(C.tt p.2).size:=by rw[←hql];exact(List.getElem?_eq_some_iff.1 hi).1
    have hlt:p.1+i<cs.length:=by rw[hcl];omega
    refine⟨cs[p.1+i],aZ hlt,(q3 i c _ hi ?_).mU fun k ⟨y,hy,hk⟩=>⟨y,List.mem_flatMap.2 ⟨_,u7 hjx,hy⟩,hk⟩⟩;rw[Bz,aP RD,lY];exact aZ hlt
   have parts: ∀(fs:List (Nat×TypeId)) (off:Nat),(∀(j:Nat) (p:Nat×TypeId),fs[j]?=some p→ ∃q:List TC,Dv C.tt p.2 q∧q.length=(C.tt p.2).size∧ ∀(i:Nat) (c:TC),q[i]?=some c→ ∃u,cs[p.1+i]?=some u∧ai w (Rp (xs.flatMap (·.2))) .snap C2 c u)→
    QY C.tt off fs (C.tt t).size=true→ ∃ps:List (List TC),ps.length=fs.length∧(∀(j:Nat) (p:Nat×TypeId) (q:List TC),fs[j]?=some p→ps[j]?=some q→Dv C.tt p.2 q)∧off+ps.flatten.length=(C.tt t).size∧
     ∀(i:Nat) (c:TC),ps.flatten[i]?=some c→ ∃u,cs[off+i]?=some u∧ai w (Rp (xs.flatMap (·.2))) .snap C2 c u:=by
    intro fs
    induction fs with
    |nil=>intro off _ hc;exact⟨[],rfl,fun j p q h=>by simp at h,fk hc,fun i c h=>by simp at h⟩
    |cons f r ih=>
     intro off he hc;obtain⟨o,ft⟩:=f;simp only[QY] at hc
     split at hc
     ·rename_i hoff
      have hoff:=fk hoff;subst hoff;obtain⟨q,q1,q2,q3⟩:=he 0 _ rfl;simp only at q1 q2 q3;obtain⟨ps,p1,p2,p3,p4⟩:=ih _ (fun j p hj=>he (j+1) p (by simpa using hj)) hc;refine⟨q::ps,by simp[p1],fun j p q' h1 h2=> ?_,by rw[rm,bX,q2];omega,fun i c hi=> ?_⟩
      ·cases j with
       |zero=>simp only[cZ,aU] at h1 h2;subst h1 h2;exact q1
       |succ j=>exact p2 j p q' (by simpa using h1) (by simpa using h2)
      ·rw[rm] at hi
       by_cases hlt:i<q.length
       ·rw[iR hlt] at hi;exact q3 i c hi
       ·rw[kr ax] at hi
        obtain⟨u,u1,u2⟩:=p4 _ c hi;exact⟨u,by rw[←u1];congr 1;omega,u2⟩
     ·cases hc
   obtain⟨ps,p1,p2,p3,p4⟩:=parts fs 0 each hc;refine⟨ps.flatten,.struct ht ps p1 p2,by omega,fun j c v h1 h2=> ?_⟩;obtain⟨u,u1,u2⟩:=p4 j c h1;rw[ic,h2] at u1
   cases u1
   exact u2
  |ptr e=>rw[ht] at h;cases h
  |other=>rw[ht] at h;cases h
end
end Go.T
namespace Go.T
open Go.RowKit
variable {C : jC} {w w' : World}
inductive V0 (tt:TypeId→iT) (t:TypeId):TV→Prop
 |c {c:TC} (h: ∀fs,(tt t).ti≠ .struct fs) (hw:Dv tt t [c]):V0 tt t (.c c)
 |ag {fs:List (Nat×TypeId)} {cs:List TC} (h:(tt t).ti= .struct fs) (hw:Dv tt t cs):V0 tt t (.ag cs)
inductive MT (tt:TypeId→iT):List TypeId→List TV→Prop
 |nil:MT tt [] []
 |cons {t:TypeId} {ts:List TypeId} {v:TV} {vs:List TV} (h:V0 tt t v) (hs:MT tt ts vs):MT tt (t::ts) (v::vs)
def Yw (tt:TypeId→iT) (m:Nat) (t:TypeId):Bool:=SQ tt m t&&Nat.ble (tt t).size 16
section
variable {H : Type} {enc : TypeId × Value → H}
theorem SR (hT:ef C) {m:Nat} {t:TypeId} {v:Value} {d:DataW H} {p:List MemPlace} {base:Nat} (ht:Yw C.tt m t=true) (hv:Value.okWide C.P w .any base t v)
 (hd:DataW.Trod enc C.P w 0 (fun _=>true) true t v d p) (Uj:(d.weights C.P t).all (· ≤reachBytes)=true):
 ∃tv,V0 C.tt t tv∧sU tv=true∧ ∀BB:Nat→Prop,vl w .borrow (Rp p) BB (fun _ _=>False) (fun _=>False) tv v:=by
 unfold Yw at ht;simp only[c8] at ht;obtain⟨hok,hsz⟩:=ht;obtain⟨fuel,hf⟩:=hd;obtain⟨tcs,h1,h2,h3⟩:=Dx hT m t fuel _ _ hok hf Uj;have hk:=Dw hok;have hlen:=Dv.len hT m t tcs hok h1;have Jo:=(hT t hk).desc
 have one:(∀fs,(C.tt t).ti≠ .struct fs)→v.cells= #[v]→ ∃tv,V0 C.tt t tv∧sU tv=true∧ ∀BB:Nat→Prop,vl w .borrow (Rp p) BB (fun _ _=>False) (fun _=>False) tv v:=by
  intro hn hc;rw[hc] at h2 h3
  match tcs,h1,h2,h3 with
  |[c],h1,h2,h3=>exact⟨.c c,.c hn h1,rfl,fun BB=>h3 0 c v rfl rfl⟩
 cases LP:(C.tt t).ti with
 |int k=>
  rw[LP] at Jo;obtain⟨n,rfl⟩:=WideShapes.okWide_int Jo hv;exact one (fun fs e=>by rw[LP] at e;cases e) rfl
 |bool=>
  rw[LP] at Jo;obtain⟨n,rfl⟩:=WideShapes.okWide_bool Jo hv;exact one (fun fs e=>by rw[LP] at e;cases e) rfl
 |str=>
  rw[LP] at Jo;obtain⟨n,rfl⟩:=WideShapes.okWide_string Jo hv;exact one (fun fs e=>by rw[LP] at e;cases e) rfl
 |slice e=>
  rw[LP] at Jo;obtain⟨a,l,c,rfl⟩:=WideShapes.okWide_slice Jo.1 hv;exact one (fun fs e=>by rw[LP] at e;cases e) rfl
 |struct fs=>
  rw[LP] at Jo;obtain⟨fields,hu,_⟩:=Jo;simp only[Value.okWide,hu] at hv;obtain⟨cs,rfl,hcs,_⟩:=hv;refine⟨.ag tcs,.ag LP h1,?_,fun BB=>⟨cs,rfl,?_,fun j c hj=> ?_⟩⟩
  ·simp only[sU,hlen];exact hsz
  ·rw[h2];simp[Value.cells]
  ·have hjl:j<cs.size:=by
    have:=(List.getElem?_eq_some_iff.1 hj).1;rw[h2] at this;simpa [Value.cells] using this
   exact⟨cs[j],qw hjl,h3 j c _ hj (by simp[Value.cells,hjl])⟩
 |ptr e=>
  cases m with
  |zero=>cases hok
  |succ m=>unfold SQ at hok;rw[LP] at hok;cases hok
 |other=>
  cases m with
  |zero=>cases hok
  |succ m=>unfold SQ at hok;rw[LP] at hok;cases hok
def Gf (v:TV):Prop:=match v with| .c _=>True| .ag _=>True|_=>False
theorem vl.mono {w:World} {R R' BB:Nat→Prop} {v:TV} {x:Value} (hR: ∀k,R k→R' k) (h:vl w .borrow R BB (fun _ _=>False) (fun _=>False) v x) (hn:Gf v):
 vl w .borrow R' BB (fun _ _=>False) (fun _=>False) v x:=by
 cases v with
 |c c=>exact ai.mU h hR
 |ag cs=>
  obtain⟨xs,h1,h2,h3⟩:=h;exact⟨xs,h1,h2,fun j c hj=>by obtain⟨u,u1,u2⟩:=h3 j c hj;exact⟨u,u1,u2.mU hR⟩⟩
 |_=>exact hn.elim
theorem V0.plain {tt:TypeId→iT} {t:TypeId} {v:TV} (h:V0 tt t v):Gf v:=by
 cases h<;>trivial
theorem JU (hT:ef C) {m base:Nat}: ∀(ts:List TypeId) (xs:List Value) (ds:List (DataW H)) (ps:List MemPlace),DataW.TrodAll enc C.P w 0 (fun _=>true) true ts xs ds ps→ts.all (Yw C.tt m)=true→
 (∀(j:Nat) (t:TypeId) (v:Value),ts[j]?=some t→xs[j]?=some v→Value.okWide C.P w .any base t v)→(DataW.weightsEach C.P ts ds).all (· ≤reachBytes)=true→
 ∃vs,MT C.tt ts vs∧vs.length=ts.length∧xs.length=ts.length∧nq vs=true∧ ∀(i:Nat) (v:TV),vs[i]?=some v→ ∃x,xs[i]?=some x∧ ∀BB:Nat→Prop,vl w .borrow (Rp ps) BB (fun _ _=>False) (fun _=>False) v x
 |[],xs,ds,ps,h,_,_,_=>by
  obtain⟨rfl,rfl,rfl⟩:=ChangeShapes.trodAll_nil h;exact⟨[],.nil,rfl,rfl,rfl,fun i v hi=>by simp at hi⟩
 |t::ts,xs,ds,ps,h,ho,hv,hw=>by
  obtain⟨x,xs',d,ds',p,q,rfl,rfl,rfl,h1,h2⟩:=ChangeShapes.trodAll_cons h;simp only[pX,c8] at ho;simp only[DataW.weightsEach,List.all_append,c8] at hw;obtain⟨tv,a1,a2,a3⟩:=SR hT ho.1 (hv 0 t x rfl rfl) h1 hw.1;obtain⟨vs,b1,b2,b3,b4,b5⟩:=JU hT ts xs' ds' q h2 ho.2 (fun j t v hj Pm=>hv (j+1) t v (by simpa using hj) (by simpa using Pm)) hw.2;refine⟨tv::vs,.cons a1 b1,by simp[b2],by simp[b3],by simp[nq,a2,b4],fun i v hi=> ?_⟩
  cases i with
  |zero=>
   simp only[cZ,aU] at hi;subst hi;exact⟨x,rfl,fun BB=>(a3 BB).mono (fun k ⟨y,hy,hk⟩=>⟨y,gr _ hy,hk⟩) a1.plain⟩
  |succ i=>
   simp only[oV] at hi;obtain⟨x',c1,c2⟩:=b5 i v hi
   have LX:Gf v:=by
    have: ∀(ts:List TypeId) (vs:List TV),MT C.tt ts vs→ ∀(i:Nat) (v:TV),vs[i]?=some v→Gf v:=by
     intro ts vs h
     induction h with
     |nil=>intro i v hi;simp at hi
     |cons h hs ih=>
      intro i v hi
      cases i with
      |zero=>simp only[cZ,aU] at hi;subst hi;exact h.plain
      |succ i=>exact ih i v (by simpa using hi)
    exact this _ _ b1 i v hi
   exact⟨x',by simpa using c1,fun BB=>(c2 BB).mono (fun k ⟨y,hy,hk⟩=>⟨y,lG _ hy,hk⟩) LX⟩
theorem QZ (hC:MR C) {f:FuncId} {ts:List TypeId} {m base:Nat} {W:World} {args:Array Value} {ds:List (DataW H)} {ps:List MemPlace}
 (hA:DataW.TrodAll enc C.P W 0 (fun _=>true) true ts args.toList ds ps) (ho:ts.all (Yw C.tt m)=true)
 (hv: ∀(j:Nat) (t:TypeId) (v:Value),ts[j]?=some t→args[j]?=some v→Value.okWide C.P W .any base t v) (hw:(DataW.weightsEach C.P ts ds).all (· ≤reachBytes)=true)
 (hps:(C.sig f).ps=ts.map fun _=> .borrow) (hn:ts.length≤50)
 (law: ∀vs,MT C.tt ts vs→ ∃k,gh C k f vs (.c (.sc (.bool true))) []):
 Calls C.P f args W fun e W'=>e= .returned (.bool true)∧Below W.heap.size W W':=by
 have hlt: ∀(ts:List TypeId) (xs:List Value) (ds:List (DataW H)) (ps:List MemPlace),DataW.TrodAll enc C.P W 0 (fun _=>true) true ts xs ds ps→ ∀x∈ps,x.block<W.heap.size:=by
  intro ts
  induction ts with
  |nil=>intro xs ds ps h x hx;obtain⟨_,_,rfl⟩:=ChangeShapes.trodAll_nil h;cases hx
  |cons t ts ih=>
   intro xs ds ps h x hx;obtain⟨_,_,_,_,p,q,_,_,rfl,⟨n,h1⟩,h2⟩:=ChangeShapes.trodAll_cons h;rcases List.mem_append.1 hx with hx|hx
   ·exact DataW.trod_lt n _ _ _ h1 x hx
   ·exact ih _ _ _ h2 x hx
 obtain⟨vs,v1,v2,v3,v4,v5⟩:=JU hC.ty ts args.toList ds ps hA ho (fun j t v h1 h2=>hv j t v h1 (by simpa using h2)) hw;obtain⟨k,hk⟩:=law vs v1
 have hargs:KO W (C.sig f).ps vs args.toList (Rp ps) (fun _=>False) (fun _ _ _=>False) (fun _ _=>False):=by
  refine⟨fun i v hi=> ?_,?_,fun i j k h=>h.elim,fun i k h=>h.elim,fun k ⟨x,hx,hk⟩=>hk▸hlt _ _ _ _ hA x hx,fun k h=>h.elim⟩
  ·obtain⟨x,x1,x2⟩:=v5 i v hi
   refine⟨x,x1,?_⟩
   have:(C.sig f).ps.getD i .borrow= .borrow:=by
    rw[hps,u6,gY]
    cases ts[i]?<;>rfl
   rw[this];exact x2 _
  ·unfold rA
   rw[show Nat.ble vs.length 50=true from Gq ax];exact v4
 have:=(MS hC k f vs _ _ hk).calls W args.toList _ _ _ _ hargs (by rw[hps];simp[v3]);refine Calls.mono this fun e W' ⟨v,he,hp⟩=> ?_;subst he;obtain⟨hf,I,X,ri,fi,hb,hr,_⟩:=hp;obtain⟨yo,F3⟩:=hr;refine⟨?_,hf.os,hf.tape,hf.output,hf.size,fun k hk=>hf.block k hk (by rintro(⟨_,_,h⟩|⟨_,h⟩)<;>exact h)⟩;have h1:=yo.2.2.2 (by decide);rw[h1] at F3;have h0:=hb.ok 0 _ (by rw[F3];rfl)
 cases h0
 rfl
end
end Go.T
namespace Go.T
def JV (C:jC) (f:Nat) (fn:Func):Bool:= !(fn.name== "runtime.NumGoroutine")&&match fn.body with
 |none=>true
 |some c=>p8 fn.ntmps c&&yd C f c
def MU (C:jC):Nat→List Func→Bool
 |_,[]=>true
 |f,fn::r=>JV C f fn&&MU C (f+1) r
theorem JW {C:jC}: ∀{f:Nat} {l:List Func},MU C f l=true→ ∀(i:Nat) (fn:Func),l[i]?=some fn→JV C (f+i) fn=true
 |f,[],_,i,fn,h=>by simp at h
 |f,fn'::r,h,i,fn,hi=>by
  simp only[MU,c8] at h
  cases i with
  |zero=>simp only[cZ,aU] at hi;subst hi;exact h.1
  |succ i=>have:=JW h.2 i fn (by simpa using hi);rw[show f+(i+1)=f+1+i by omega];exact this
theorem UQ {C:jC} (ty:ef C) (h:MU C 0 C.P.funcs.toList=true) (mix:C.P.follows .mixedOrders=true)
 (ext: ∀(f:FuncId) (p:List TV→Option (TV×List TV)) (vs:List TV) (r:TV) (fs:List TV),C.ext f=some p→p vs=some (r,fs)→Dq C f vs r fs):MR C:=by
 have key: ∀(f:Nat) (fn:Func),C.P.funcs[f]?=some fn→JV C f fn=true:=fun f fn hf=>by
  have:=JW h f fn (by simpa using hf)
  rwa [ic] at this
 refine {ty:=ty,name:=fun f fn hf=> ?_,dst:=fun f fn c hf hc=> ?_,Gj:=fun f fn c hf hc=> ?_,mix:=mix,ext:=ext}
 ·have:=key f fn hf
  unfold JV at this;simp only[c8,u5] at this;exact this.1
 ·have:=key f fn hf
  unfold JV at this;rw[hc] at this;simp only[c8] at this;exact this.2.1
 ·have:=key f fn hf
  unfold JV at this;rw[hc] at this;simp only[c8] at this;exact this.2.2
end Go.T
namespace Go.T
variable {C : jC}
def aB (C:jC) (f:FuncId) (vs:List TV) (r:TV) (fs:List TV):Prop:= ∃k,gh C k f vs r fs
def EV (C:jC) (fx:List Nat):Nat→Lp
 |0=>fun _ _ _ _ _=>False
 |n+1=>fun f i c st Q=> ∃k m x st',De C k fx n f i c m st x st'∧Q x st'
def cg (C:jC) (f:FuncId) (vs:List TV) (Q:TV→List TV→Prop):Prop:= ∃r fs,aB C f vs r fs∧Q r fs
theorem B9 {R:Type} {k k':Nat} (hk:k≤k') {fx:List Nat} {n:Nat} {Q:R→Prop} {e:Ev R} (h:e.holds (gh C k) (N4 C (gh C k) k fx n) Q):e.holds (gh C k') (N4 C (gh C k') k' fx n) Q:=
 dR (fun _ _ _ _ h=>j9 hk h) (nr (fun _ _ _ _ h=>j9 hk h) hk n) (fun _ h=>h) e h
theorem De.up {k k' m m':Nat} (hk:k≤k') (hm:m≤m') {fx:List Nat} {n f i:Nat} {c:Code} {st st':TS} {x:TX} (h:De C k fx n f i c m st x st'):De C k' fx n f i c m' st x st':=
 zE (fun _ _ _ _ h=>j9 hk h) (nr (fun _ _ _ _ h=>j9 hk h) hk n) (fun _ _ h=>h) m m' hm st h
theorem kP {R:Type} {fx:List Nat} {n:Nat} {Q:R→Prop}: ∀(e:Ev R),e.holds (aB C) (EV C fx n) Q→ ∃k r,e.holds (gh C k) (N4 C (gh C k) k fx n) (fun r'=>r'=r)∧Q r
 | .fail,h=>h.elim
 | .ret r,h=>⟨0,r,rfl,h⟩
 | .test b k,h=>kP (k b) h
 | .row rows i k,⟨c,h1,h2⟩=>by
   obtain⟨k',r,h3,h4⟩:=kP (k c) h2;exact⟨k',r,⟨c,h1,h3⟩,h4⟩
 | .byte rows i k,⟨c,h1,h2⟩=>by
   obtain⟨k',r,h3,h4⟩:=kP (k c) h2;exact⟨k',r,⟨c,h1,h3⟩,h4⟩
 | .bytes rows k,⟨c,h1,h2⟩=>by
   obtain⟨k',r,h3,h4⟩:=kP (k c) h2;exact⟨k',r,⟨c,h1,h3⟩,h4⟩
 | .call f vs k,⟨r0,fs,⟨k0,h1⟩,h2⟩=>by
   obtain⟨k',r,h3,h4⟩:=kP (k r0 fs) h2;exact⟨max k0 k',r,⟨r0,fs,j9 (BE _ _) h1,B9 (Nat.le_max_right _ _) h3⟩,h4⟩
 | .loop f i c st k,h=>by
   cases n with
   |zero=>exact h.elim
   |succ n=>
    obtain⟨k0,m,x,st',h1,h2⟩:=h;obtain⟨k',r,h3,h4⟩:=kP (k x st') h2;refine⟨max (max k0 m) k',r,?_,h4⟩;have h5:=(h1.up (k':=max (max k0 m) k') (m':=max (max k0 m) k') ax ax).ok (bI _);refine nr (fun _ _ _ _ h=>h) (bI _) (n+1) _ _ _ _ _ _ (fun x1 cG hh=> ?_) h5;obtain⟨rfl,rfl⟩:=hh;exact B9 (Nat.le_max_right _ _) h3
 | .both a b,⟨r,h1,h2,h3⟩=>by
   obtain⟨k1,r1,g1,e1⟩:=kP a h1;obtain⟨k2,r2,g2,e2⟩:=kP b h2;rw[e1] at g1;rw[e2] at g2;exact⟨max k1 k2,r,⟨r,B9 (BE _ _) g1,B9 (Nat.le_max_right _ _) g2,rfl⟩,h3⟩
theorem cg.SS {f:FuncId} {vs:List TV} {Q:TV→List TV→Prop} (h:(body C f vs).holds (aB C) (EV C (Gy (C.sig f)) 4) fun p=>Q p.1 p.2) (hx:C.ext f=none:=by rfl):cg C f vs Q:=by
 obtain⟨k,⟨r,fs⟩,h1,h2⟩:=kP _ h;exact⟨r,fs,⟨k+1,N5 hx h1⟩,h2⟩
theorem aB.ext {f:FuncId} {vs:List TV} {r:TV} {fs:List TV} {p:List TV→Option (TV×List TV)} (hx:C.ext f=some p) (h:p vs=some (r,fs)):aB C f vs r fs:=⟨1,Qw hx h⟩
theorem EV.round {fx:List Nat} {n f i:Nat} {c:Code} {st:TS} {Q:TX→TS→Prop} (h:(run C fx f i c st Gz).holds (aB C) (EV C fx n) fun p=>match p with
 |(.norm,st')=>Qv (Mg (C.lb f i) st') fun st'=>EV C fx (n+1) f i c st' Q
 |(x,st')=>Q x st'):EV C fx (n+1) f i c st Q:=by
 obtain⟨k,⟨x,cG⟩,h1,h2⟩:=kP _ h
 cases x with
 |norm=>
  simp only at h2;rw[oC] at h2;obtain⟨k0,m,x,st',h3,h4⟩:=h2;refine⟨max k k0,m+1,x,st',?_,h4⟩;have h5:=h3.up (k':=max k k0) (m':=m) (Nat.le_max_right _ _) (bI _);refine dR (fun _ _ _ _ h=>j9 (BE _ _) h) (nr (fun _ _ _ _ h=>j9 (BE _ _) h) (BE _ _) n) (fun r hr=> ?_) _ h1;subst hr;simp only;rw[oC];exact h5
 |ex id=>exact⟨k,1,.ex id,cG,dR (fun _ _ _ _ h=>h) (nr (fun _ _ _ _ h=>h) (bI _) n) (fun r hr=>by subst hr;exact⟨rfl,rfl⟩) _ h1,h2⟩
 |ret=>exact⟨k,1,.ret,cG,dR (fun _ _ _ _ h=>h) (nr (fun _ _ _ _ h=>h) (bI _) n) (fun r hr=>by subst hr;exact⟨rfl,rfl⟩) _ h1,h2⟩
theorem EV.mono {fx:List Nat} {n f i:Nat} {c:Code} {st:TS} {Q Q':TX→TS→Prop} (hQ: ∀x s,Q x s→Q' x s) (h:EV C fx n f i c st Q):EV C fx n f i c st Q':=by
 cases n with
 |zero=>exact h.elim
 |succ n=>obtain⟨k,m,x,st',h1,h2⟩:=h;exact⟨k,m,x,st',h1,hQ _ _ h2⟩
inductive Sh where
 |int (k:IntKind)|bool|str|sub (z:Nat)
inductive A5 where
 |c (s:Sh)|ag (l:List Sh)|tu (l:List (Nat×List Sh))|bx (l:List Sh)
inductive Hint where
 |z|br (a b:Hint)|both (a b:Hint)|nest (a b:Hint)|row (l:List Sh) (h:Hint)|call (r:A5) (fs:List A5) (h:Hint)|n (h:Hint)
def exC:Sh→(TC→Prop)→Prop
 | .int k,P=> ∃n:Int,P (.sc (.int k n))
 | .bool,P=> ∃b:Bool,P (.sc (.bool b))
 | .str,P=> ∃s:ByteArray,P (.sc (.string s))
 | .sub z,P=> ∃rows:List (List TC),P (.sub z rows)
def Q0:List Sh→(List TC→Prop)→Prop
 |[],P=>P []
 |s::r,P=>exC s fun c=>Q0 r fun cs=>P (c::cs)
def exT:List (Nat×List Sh)→(List (Nat×List TC)→Prop)→Prop
 |[],P=>P []
 |(a,s)::r,P=>Q0 s fun c=>exT r fun cs=>P ((a,c)::cs)
def exV:A5→(TV→Prop)→Prop
 | .c s,P=>exC s fun c=>P (.c c)
 | .ag l,P=>Q0 l fun c=>P (.ag c)
 | .tu l,P=>exT l fun c=>P (.tu c)
 | .bx l,P=>Q0 l fun c=>P (.bx c)
def W4:List A5→(List TV→Prop)→Prop
 |[],P=>P []
 |s::r,P=>exV s fun c=>W4 r fun cs=>P (c::cs)
theorem SU: ∀{s:Sh} {P:TC→Prop},exC s P→ ∃c,P c
 | .int _,_,⟨_,h⟩=>⟨_,h⟩
 | .bool,_,⟨_,h⟩=>⟨_,h⟩
 | .str,_,⟨_,h⟩=>⟨_,h⟩
 | .sub _,_,⟨_,h⟩=>⟨_,h⟩
theorem Ca: ∀{l:List Sh} {P:List TC→Prop},Q0 l P→ ∃c,P c
 |[],_,h=>⟨_,h⟩
 |_::_,_,h=>by obtain⟨c,h⟩:=SU h;obtain⟨cs,h⟩:=Ca h;exact⟨_,h⟩
theorem SV: ∀{l:List (Nat×List Sh)} {P:List (Nat×List TC)→Prop},exT l P→ ∃c,P c
 |[],_,h=>⟨_,h⟩
 |(_,_)::_,_,h=>by obtain⟨c,h⟩:=Ca h;obtain⟨cs,h⟩:=SV h;exact⟨_,h⟩
theorem SW: ∀{s:A5} {P:TV→Prop},exV s P→ ∃c,P c
 | .c _,_,h=>by obtain⟨c,h⟩:=SU h;exact⟨_,h⟩
 | .ag _,_,h=>by obtain⟨c,h⟩:=Ca h;exact⟨_,h⟩
 | .tu _,_,h=>by obtain⟨c,h⟩:=SV h;exact⟨_,h⟩
 | .bx _,_,h=>by obtain⟨c,h⟩:=Ca h;exact⟨_,h⟩
theorem P1: ∀{l:List A5} {P:List TV→Prop},W4 l P→ ∃c,P c
 |[],_,h=>⟨_,h⟩
 |_::_,_,h=>by obtain⟨c,h⟩:=SW h;obtain⟨cs,h⟩:=P1 h;exact⟨_,h⟩
def aG (b:Bool) (A B:Prop):Prop:=match b with|true=>A|false=>B
def Ev.pre {R:Type} (cf:Cf) (lp:Lp) (Q:R→Prop):Ev R→Hint→Prop
 | .fail,_=>False
 | .ret r,_=>Q r
 | .test b k,h=>match h with| .br h1 h2=>aG b ((k true).pre cf lp Q h1) ((k false).pre cf lp Q h2)|_=>False
 | .row rows i k,h=>match h with| .row l h=>Q0 l fun c=>rowAt rows i=some c∧(k c).pre cf lp Q h|_=>False
 | .byte s i k,h=>match h with| .n h=> ∃b,rz s i=some b∧(k b).pre cf lp Q h|_=>False
 | .bytes rows k,h=>match h with| .n h=> ∃ns,ve rows=some ns∧(k ns).pre cf lp Q h|_=>False
 | .call f vs k,h=>match h with| .call r fs h=>exV r fun r=>W4 fs fun fs=>cf f vs r fs∧(k r fs).pre cf lp Q h|_=>False
 | .loop f i c st k,_=>lp f i c st fun x st'=>(k x st').holds cf lp Q
 | .both a b,h=>match h with| .both h1 h2=> ∃r,a.pre cf lp (fun r'=>r'=r) h1∧b.pre cf lp (fun r'=>r'=r) h2∧Q r| .nest h1 h2=>a.pre cf lp (fun r=>b.pre cf lp (fun r'=>r'=r) h2∧Q r) h1|_=>False
theorem pI {R:Type} {fx:List Nat} {n:Nat} {Q:R→Prop}: ∀(e:Ev R),e.holds (aB C) (EV C fx n) Q→ ∃r,e.holds (aB C) (EV C fx n) (fun r'=>r'=r)∧Q r
 | .fail,h=>h.elim
 | .ret r,h=>⟨r,rfl,h⟩
 | .test b k,h=>pI (k b) h
 | .row rows i k,⟨c,h1,h2⟩=>by obtain⟨r,h3,h4⟩:=pI (k c) h2;exact⟨r,⟨c,h1,h3⟩,h4⟩
 | .byte rows i k,⟨c,h1,h2⟩=>by obtain⟨r,h3,h4⟩:=pI (k c) h2;exact⟨r,⟨c,h1,h3⟩,h4⟩
 | .bytes rows k,⟨c,h1,h2⟩=>by obtain⟨r,h3,h4⟩:=pI (k c) h2;exact⟨r,⟨c,h1,h3⟩,h4⟩
 | .call f vs k,⟨r0,fs,h1,h2⟩=>by obtain⟨r,h3,h4⟩:=pI (k r0 fs) h2;exact⟨r,⟨r0,fs,h1,h3⟩,h4⟩
 | .loop f i c st k,h=>by
   cases n with
   |zero=>exact h.elim
   |succ n=>
    obtain⟨k0,m,x,st',h1,h2⟩:=h;obtain⟨r,h3,h4⟩:=pI (k x st') h2;exact⟨r,⟨k0,m,x,st',h1,h3⟩,h4⟩
 | .both a b,⟨r,h1,h2,h3⟩=>⟨r,⟨r,h1,h2,rfl⟩,h3⟩
theorem oG {R:Type} {fx:List Nat} {n:Nat} {Q:R→Prop}: ∀(e:Ev R) (h:Hint),e.pre (aB C) (EV C fx n) Q h→e.holds (aB C) (EV C fx n) Q
 | .fail,_,h=>h
 | .ret r,_,h=>h
 | .test b k,.br h1 h2,h=>by
   cases b
   ·exact oG (k false) h2 h
   ·exact oG (k true) h1 h
 | .row rows i k,.row l hh,h=>by obtain⟨c,h1,h2⟩:=Ca h;exact⟨c,h1,oG _ _ h2⟩
 | .byte s i k,.n hh,⟨b,h1,h2⟩=>⟨b,h1,oG _ _ h2⟩
 | .bytes s k,.n hh,⟨b,h1,h2⟩=>⟨b,h1,oG _ _ h2⟩
 | .call f vs k,.call r fs hh,h=>by obtain⟨r,h⟩:=SW h;obtain⟨fs,h1,h2⟩:=P1 h;exact⟨r,fs,h1,oG _ _ h2⟩
 | .loop f i c st k,_,h=>h
 | .both a b,.both ha hb,⟨r,h1,h2,h3⟩=>⟨r,oG a ha h1,oG b hb h2,h3⟩
 | .both a b,.nest ha hb,h=>by
   obtain⟨r,h1,h2,h3⟩:=pI a (oG a ha h);exact⟨r,h1,oG b hb h2,h3⟩
inductive eF where
 |l|r|b
def OC:Code→List eF→Code
 |c,[]=>c
 | .seq a b,d::p=>match d with| .l=>OC a p|_=>OC b p
 | .cond _ a b,d::p=>match d with| .l=>OC a p|_=>OC b p
 | .block _ a,_::p=>OC a p
 | .loop a,_::p=>OC a p
 |c,_=>c
def V2 (C:jC) (f:FuncId):Code:=match C.P.funcs[f]? with
 |none=> .skip
 |some fn=>match fn.body with
  |none=> .skip
  |some c=>c
def aaw (C:jC) (f:FuncId):List ResultVar:=match C.P.funcs[f]? with
 |none=>[]
 |some fn=>fn.results.toList
def K1 (C:jC) (f:FuncId) (p:List eF):Code:=match OC (V2 C f) p with
 | .loop c=>c
 |c=>c
def after (C:jC) (fx:List Nat) (f:FuncId) {R:Type}:Nat→Code→List eF→(TX→TS→Ev R)→(TX→TS→Ev R)
 |i,.seq a b,d::p,K=>match d with
  | .l=>after C fx f i a p fun x st'=>match x with
    | .norm=>run C fx f i b st' K
    |x=>K x st'
  |_=>after C fx f i b p K
 |i,.cond _ a b,d::p,K=>match d with
  | .l=>after C fx f i a p K
  |_=>after C fx f i b p K
 |_,.block id a,_::p,K=>after C fx f id a p fun x st'=>match x with
  | .ex id'=>match Nat.beq id' id with|true=>K .norm st'|false=>K (.ex id') st'
  |x=>K x st'
 |_,_,_,K=>K
abbrev OD (C:jC) (f:FuncId):List Nat:=Gy (C.sig f)
def SX (C:jC) (f:FuncId) (p:List eF):TX→TS→Ev (TV×List TV):=after C (OD C f) f 0 (V2 C f) p (RV C (C.sig f) (aaw C f))
def SY (C:jC) (f:FuncId) (p:List eF) (i:Nat) (q:List eF):TX→TS→Ev (TX×TS):=after C (OD C f) f i (K1 C f p) q Gz
def aj (C:jC) (f:FuncId) (p:List eF) (n i:Nat) (st:TS) (Q:TX→TS→Prop):Prop:=EV C (OD C f) n f i (K1 C f p) st Q
def aD (C:jC) (f:FuncId) (p:List eF) (x:TX) (st:TS) (Q:TV→List TV→Prop):Prop:=(SX C f p x st).holds (aB C) (EV C (OD C f) 4) fun p=>Q p.1 p.2
def SZ (C:jC) (f:FuncId) (p:List eF) (n i:Nat) (Q:TX→TS→Prop):TX×TS→Prop
 |(.norm,st')=>Qv (Mg (C.lb f i) st') fun st'=>aj C f p n i st' Q
 |(x,st')=>Q x st'
def wD (C:jC) (f:FuncId) (p:List eF) (n i:Nat) (q:List eF) (x:TX) (st:TS) (Q:TX→TS→Prop):Prop:=(SY C f p i q x st).holds (aB C) (EV C (OD C f) (n-1)) (SZ C f p n i Q)
theorem Yx {f:FuncId} {vs:List TV} {Q:TV→List TV→Prop} {Φ:Prop} (h:Hint) (e:(body C f vs).pre (aB C) (EV C (OD C f) 4) (fun p=>Q p.1 p.2) h=Φ) (hΦ:Φ) (hx:C.ext f=none:=by rfl):cg C f vs Q:=
 cg.SS (oG _ h (e▸hΦ)) hx
theorem W5 {f:FuncId} {p:List eF} {x:TX} {st:TS} {Q:TV→List TV→Prop} {Φ:Prop} (h:Hint) (e:(SX C f p x st).pre (aB C) (EV C (OD C f) 4) (fun p=>Q p.1 p.2) h=Φ) (hΦ:Φ):aD C f p x st Q:=
 oG _ h (e▸hΦ)
theorem UR {f:FuncId} {p q:List eF} {n i:Nat} {x:TX} {st:TS} {Q:TX→TS→Prop} {Φ:Prop} (h:Hint) (e:(SY C f p i q x st).pre (aB C) (EV C (OD C f) (n-1)) (SZ C f p n i Q) h=Φ) (hΦ:Φ):wD C f p n i q x st Q:=
 oG _ h (e▸hΦ)
theorem W6 {f:FuncId} {p:List eF} {n i:Nat} {st:TS} {Q:TX→TS→Prop} {Φ:Prop} (h:Hint) (e:(run C (OD C f) f i (K1 C f p) st Gz).pre (aB C) (EV C (OD C f) n) (SZ C f p (n+1) i Q) h=Φ) (hΦ:Φ):aj C f p (n+1) i st Q:=by
 refine EV.round ?_;have:=oG _ h (e▸hΦ);exact dR (fun _ _ _ _ h=>h) (fun f i c st Q Q' hQ hh=>hh.mono hQ) (fun r hr=>by obtain⟨x,st'⟩:=r;cases x<;>exact hr) _ this
theorem cg.run {f:FuncId} {vs:List TV} {r:TV} {fs:List TV} (h:cg C f vs fun r' fs'=>r'=r∧fs'=fs):aB C f vs r fs:=by
 obtain⟨r',fs',h1,rfl,rfl⟩:=h;exact h1
end Go.T
namespace Go.T
@[simp] theorem rL {A B:Prop}:aG true A B=A:=rfl
@[simp] theorem Cb {A B:Prop}:aG false A B=B:=rfl
@[simp] theorem dP {b:Bool} {A B:Prop}:aG (!b) A B=aG b B A:=by cases b<;>rfl
@[simp] theorem iL {a b:Bool} {A B:Prop}:aG (a&&b) A B=aG a (aG b A B) B:=by cases a<;>rfl
@[simp] theorem lg {a b:Bool} {A B:Prop}:aG (a||b) A B=aG a A (aG b A B):=by cases a<;>rfl
@[simp] theorem dL {p:Prop} [Decidable p] {A B:Prop}:aG (decide p) A B=if p then A else B:=by
  by_cases h:p<;>simp[h]
theorem ah {b:Bool} {A B:Prop} (h:b=true) (hA:A):aG b A B:=by subst h;exact hA
theorem av {b:Bool} {A B:Prop} (h:b=false) (hB:B):aG b A B:=by subst h;exact hB
@[simp] theorem jM (a b:Int):cT a b=decide (a<b):=by unfold cT;rfl
@[simp] theorem lq (a b:Int):sN a b=decide (a≤b):=by unfold sN;rfl
@[simp] theorem dN (a b:Int):bR a b=decide (a=b):=by unfold bR;by_cases h:a=b<;>simp[h]
@[simp] theorem aax (a b:Bool):Wx a b=decide (a=b):=by unfold Wx;cases a<;>cases b<;>rfl
theorem Q1 {a b:ByteArray} (h:a.toList=b.toList):a=b:=by
 rw[ByteArray.toList_eq,ByteArray.toList_eq] at h;obtain⟨⟨x⟩⟩:=a;obtain⟨⟨y⟩⟩:=b;simp only at h;rw[h]
@[simp] theorem aay (a b:ByteArray):L6 a b=decide (a=b):=by
  unfold L6
  by_cases h:a=b
  ·subst h;simp
  ·have:a.toList≠b.toList:=fun e=>h (Q1 e)
   simp[h,this]
@[simp] theorem US (n b:Nat):fits n b=decide (n*b≤140737488355328∧n≤140737488355328):=by unfold fits;rfl
@[simp] theorem ZR (n:Int):uD n=n.toNat:=by unfold uD;rfl
@[simp] theorem Yy (a b:Int):BG a b=a+b:=by unfold BG;rfl
@[simp] theorem UT (a b:Int):NS a b=if b<a then b else a:=by unfold NS;rfl
theorem UU {a b:Int} (h: -9223372036854775808≤a+b∧a+b≤9223372036854775807):NT .i64 a b=a+b:=by unfold NT;exact IntWalk.i64_in _ h
theorem UW {a b:Int} (h: -9223372036854775808≤a-b∧a-b≤9223372036854775807):Gr .i64 a b=a-b:=by unfold Gr;exact IntWalk.i64_in _ h
theorem UX {a b:Int} (h: -9223372036854775808≤a*b∧a*b≤9223372036854775807):NU .i64 a b=a*b:=by unfold NU;exact IntWalk.i64_in _ h
@[simp] theorem K2 (a b:Int):lT a b=a.tmod b:=by unfold lT;rfl
theorem Q2 (l:List (List TC)) (i:Nat):rowAt l (i:Int)=l[i]?:=by
 unfold rowAt;rw[aP (Int.natCast_nonneg i),sJ]
theorem JX {α:Type} {e:α→List TC} {l:List α} {i:Nat} {a:α} (h:l[i]?=some a):rowAt (l.map e) (i:Int)=some (e a):=by
 rw[Q2,gY,h];rfl
theorem OE (l:List (List TC)) (i f:Nat) (cs:List TC) {r:List TC} (h:l[i]?=some r):setRow l (i:Int) f cs=l.set i (r.take f++cs++r.drop (f+cs.length)):=by
 unfold setRow;rw[sJ,h]
theorem OF {α:Type} {e:α→List TC} {l:List α} {i:Nat} {a a':α} {f:Nat} {cs:List TC} (h:l[i]?=some a) (he:(e a).take f++cs++(e a).drop (f+cs.length)=e a'):setRow (l.map e) (i:Int) f cs=(l.set i a').map e:=by
 rw[OE (r:=e a) _ _ _ _ (by rw[gY,h];rfl),he,List.map_set]
section
variable {C : jC}
end
section
variable {tt : TypeId → iT} {t : TypeId} {cs : List TC}
theorem Dv.UY {k:IntKind} (ht:(tt t).ti= .int k) (h:Dv tt t cs): ∃n,cs=[.sc (.int k n)]∧(Lit.int k n).wf=true:=by
 cases h with
 |int h1 h2=>rw[ht] at h1;cases h1;exact⟨_,rfl,h2⟩
 |bool h1=>rw[ht] at h1;cases h1
 |str h1 _=>rw[ht] at h1;cases h1
 |slice h1 _ _ _=>rw[ht] at h1;cases h1
 |struct h1 _ _ _=>rw[ht] at h1;cases h1
theorem Yz {n:Int} (h:(Lit.int .u8 n).wf=true):0≤n∧n≤255:=by
 simp only[Lit.wf,c8,decide_eq_true_eq] at h;have h1:IntKind.u8.min=0:=rfl;have h2:IntKind.u8.max=255:=rfl;omega
theorem Dv.Q3 {e:TypeId} (ht:(tt t).ti= .slice e) (h:Dv tt t cs): ∃rows,cs=[.sub (tt e).size rows]∧(∀r∈rows,Dv tt e r)∧rows.length*(tt e).bytes≤reachBytes:=by
 cases h with
 |int h1 h2=>rw[ht] at h1;cases h1
 |bool h1=>rw[ht] at h1;cases h1
 |str h1 h2=>rw[ht] at h1;cases h1
 |slice h1 rows h2 h3=>rw[ht] at h1;cases h1;exact⟨_,rfl,h2,h3⟩
 |struct h1 _ _ _=>rw[ht] at h1;cases h1
inductive K3 (tt:TypeId→iT):List (Nat×TypeId)→List TC→Prop
 |nil:K3 tt [] []
 |cons {p:Nat×TypeId} {fs:List (Nat×TypeId)} {q cs:List TC} (h:Dv tt p.2 q) (hs:K3 tt fs cs):K3 tt (p::fs) (q++cs)
theorem G9 {α:Type} {e:α→List TC} {W:α→Prop}: ∀{rows:List (List TC)},(∀r∈rows,∃a,r=e a∧W a)→ ∃l:List α,rows=l.map e∧ ∀a∈l,W a
 |[],_=>⟨[],rfl,fun a h=>by cases h⟩
 |r::rows,h=>by
  obtain⟨a,rfl,ha⟩:=h r (.head _);obtain⟨l,rfl,hl⟩:=G9 (rows:=rows) fun r hr=>h r (.tail _ hr);refine⟨a::l,rfl,fun b hb=> ?_⟩;rcases cw.1 hb with rfl|hb
  ·exact ha
  ·exact hl b hb
end
end Go.T
namespace Go.T
open Go.RowKit
variable {C : jC}
section
variable {H : Type} {enc : TypeId × Value → H}
theorem MV {P:Program} {W W':World} (hl:laidOutB P=true) (hb:Below W.heap.size W W'): ∀{ts:List TypeId} {vs:List Value} {ds:List (DataW H)} {ps:List MemPlace},ts.all (fun t=>P.readableRec t&&decide (t<P.types.size))=true→DataW.TrodAll enc P W 0 (fun _=>true) true ts vs ds ps→
 DataW.TrodAll enc P W' 0 (fun b=>decide (b<W.heap.size)) true ts vs ds ps
 |[],vs,ds,ps,_,h=>by
  obtain⟨rfl,rfl,rfl⟩:=ChangeShapes.trodAll_nil h;exact ChangeShapes.trodAll_mk0
 |t::ts,vs,ds,ps,hr,h=>by
  obtain⟨v,vs',d,ds',p,q,rfl,rfl,rfl,h1,h2⟩:=ChangeShapes.trodAll_cons h;simp only[pX,c8,decide_eq_true_eq] at hr
  have hlt: ∀x∈p,x.block<W.heap.size:=by obtain⟨n,hn⟩:=h1;exact DataW.trod_lt n _ _ _ hn
  exact trodAll_cons_mk (Below.trod hl hr.1.1 hr.1.2 h1 hb hlt) (MV hl hb hr.2 h2)
theorem EC {P:Program} {W:World}: ∀{ts:List TypeId} {vs:List Value} {ds:List (DataW H)} {ps:List MemPlace},DataW.TrodAll enc P W 0 (fun _=>true) true ts vs ds ps→ds.length=ts.length
 |[],vs,ds,ps,h=>by obtain⟨rfl,rfl,rfl⟩:=ChangeShapes.trodAll_nil h;rfl
 |t::ts,vs,ds,ps,h=>by
  obtain⟨v,vs',d,ds',p,q,rfl,rfl,rfl,h1,h2⟩:=ChangeShapes.trodAll_cons h;simp[EC h2]
theorem S0 (hC:MR C) {f:FuncId} {fn:Func} {s:ChangeSpec} {ts:List TypeId} {tb:TypeId} {m base:Nat} {W:World} {args:Array Value} {ds gs:List (DataW H)} {before:List MemPlace} (ZC:laidOutB C.P=true)
 (hfn:fn.params.toList=ts) (hres:fn.resultTypes= #[tb]) (htb:C.P.underlying tb=some .bool) (hvars:s.vars=[]) (ZD:ts.all (fun t=>C.P.readableRec t&&decide (t<C.P.types.size))=true) (ho:ts.all (Yw C.tt m)=true)
 (hps:(C.sig f).ps=ts.map fun _=> .borrow) (hn:ts.length≤50) (ZE: ∀ds:List (DataW H),ds.length=ts.length→(s.fn H ds).results=[.lit (.bool true)]∧(s.fn H ds).args=ds∧(s.fn H ds).vars=[])
 (law: ∀vs,MT C.tt ts vs→ ∃k,gh C k f vs (.c (.sc (.bool true))) [])
 (hval: ∀(j:Nat) t v,fn.params[j]?=some t→args[j]?=some v→Value.okWide C.P W .any base t v) (hW:DataW.Whole enc C.P fn.params.toList s.vars false W args.toList ds gs before)
 (hsz:(DataW.weightsEach C.P (fn.params.toList++s.plain.varTypes C.P) (ds++gs)).all (· ≤reachBytes)=true):
 Calls C.P f args W fun e W'=> ∃v,e= .returned v∧s.post enc C.P fn false true false false W args v W':=by
 have hW':=hW;obtain⟨p,q,hA,hV,rfl,hfz,L0⟩:=hW;rw[hvars] at hV;obtain⟨rfl,rfl⟩:=ChangeShapes.trodVars_none hV
 have hvt:s.plain.varTypes C.P=[]:=by
  unfold ChangeSpec.plain DataSpec.varTypes;rw[hvars];rfl
 rw[hvt,lX,lX,hfn] at hsz;rw[hfn] at hA;refine(QZ hC hA ho (fun j t v h1 h2=>hval j t v (by rw[←hfn] at h1;simpa using h1) h2) hsz hps hn law).mono fun e W' ⟨he,bel⟩=> ?_;subst he;obtain⟨s1,s2,s3⟩:=ZE ds (EC hA);refine⟨_,rfl,ds,[],_,[],p,[],hW',?_,?_,?_,bel.frame _,fun h=>by cases h⟩
 ·rw[lX,s1,hres]
  exact ChangeShapes.trodAll_mk1 (shut_bool htb _)
 ·rw[lX,s2,hfn]
  exact MV ZC bel ZD hA
 ·rw[lX,s3,hvars]
  rfl
end
end Go.T
