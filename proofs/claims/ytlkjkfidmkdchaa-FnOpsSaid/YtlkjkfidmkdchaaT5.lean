import Derived.Test.YtlkjkfidmkdchaaT4
import Derived.LoopN
import Derived.ChangeArms
import Derived.ChangeSlices
import Derived.WideShapes
import Derived.SizedLaws
import Derived.RowKit
import Derived.ChangeOld
import Derived.Test.YtlkjkfidmkdchaaT1
import Derived.IntWalk
import Derived.Carry
import Derived.OpenShut
set_option linter.all false
namespace Go.T
variable {F : Nat → Prop} {A : Arg} {w0 w w' : World} {φ φ' φ1 : Fp} {st st' sta bh eZ : TS} {tm qc : Array Value} {C : dW}
variable {R : Type} {cf : Cf} {lp : Lp} {Q : R → Prop}
variable {fx : List Nat} {g : Nat → Value} {n : Nat}
def iH (o:Oper):Bool:=match o.op with| .load _ _=>true|_=>false
def rB (o:Oper):Bool:=match o.op with| .select _ _=>true|_=>false
def j5 (C:dW) (o:Oper):Bool:=match oz C o with|true=>true|false=>iH o
def fM (o:Oper):List Nat:=(o.after.toList.filter (Region.binds .any)).map (·.on)
def Ci:List Nat→List Nat→Bool
 |[],_=>true
 |a::r,l=>match dx a l with|true=>Ci r l|false=>false
def mu (ops:Array Oper):Nat→Nat→List Nat→List Nat
 |0,_,W=>W
 |k+1,j,W=>match ops[j]? with
  |some o=>match je (fM o) W with|true=>mu ops k (j+1) (j::W)|false=>mu ops k (j+1) W
  |none=>W
def FY (ops:Array Oper) (W:List Nat) (i:Nat) (oi:Oper) (j:Nat) (oj:Oper):Bool:=
 ((match oj.dst with|some d=> !dx d (oi.looksAt ops)|none=>true)||(!iH oi&&dx j W))&&
 (dx j W||((match oj.dst with|some d=>(match oi.dst with|some e=> !Nat.beq d e|none=>true)|none=>true)&&
 (dx i (fM oj)||(match oi.dst with|some d=> !dx d (oj.looksAt ops)|none=>true))))
def vD (ops:Array Oper) (oi:Oper):Bool:=match oi.dst with|some d=> !dx d (oi.looksAt ops)|none=>true
def vE (f:Nat→Bool):Nat→Bool
 |0=>true
 |k+1=>match f k with|true=>vE f k|false=>false
theorem mw {f:Nat→Bool}: ∀{k:Nat},vE f k=true→ ∀j,j<k→f j=true
 |0,_,j,h=>absurd h aA
 |k+1,h,j,hj=>by
  simp only[vE] at h
  split at h
  ·by_cases e:j=k
   ·subst e;assumption
   ·exact mw h j aA
  ·cases h
def oX.kX:oX→List Nat
 | .nil=>[]
 | .op i _ _=>[i]
 | .alt a b=>a.kX++b.kX
def oX.len:oX→Nat
 | .nil=>0
 | .op _ _ r=>r.len+1
 | .alt a _=>a.len
def OK (C:dW) (ops:Array Oper) (hs:Option (List Nat)) (S:List Nat) (i:Nat) (fl:List Nat) (o:Oper):Bool:=
 !dx i S&&Ci (fM o) S&& !rB o&&(match j5 C o with
   |true=>hs.isNone&&vD ops o&&fL fN (mu ops ops.size 0 [i]) fun W=>vE (fun j=>dx j S||Nat.beq j i||(match ops[j]? with|some oj=>FY ops W i o j oj|none=>true)) ops.size
   |false=>vE (fun j=>dx j S||Nat.beq j i||dx j (hs.getD [])||(match ops[j]? with|some oj=> !Ci (fM oj) S|none=>true)) ops.size&&
     vE (fun l=> !dx l S||dx l fl||(match ops[l]? with|some ol=> !iH ol|none=>true)||dx i (mu ops ops.size 0 [l])) ops.size)
def ck (C:dW) (ops:Array Oper):Option (List Nat)→List Nat→oX→Bool
 |none,S,.nil=>vE (fun j=>dx j S) ops.size
 |some _,_,.nil=>false
 |hs,S,.op i fl r=>match ops[i]? with
  |none=>false
  |some o=>OK C ops hs S i fl o&&ck C ops none (i::S) r
 |hs,S,.alt a b=>ck C ops (some (hs.getD (a.kX++b.kX))) S a&&ck C ops (some (hs.getD (a.kX++b.kX))) S b&&Nat.beq a.len b.len
theorem HE {a l:List Nat} (h:Ci a l=true): ∀x∈a,x∈l:=by
 induction a with
 |nil=>intro x hx;cases hx
 |cons y r ih=>
  simp only[Ci] at h
  split at h
  ·intro x hx
   rcases bg.1 hx with rfl|hx
   ·exact c8.1 bO
   ·exact ih h x hx
  ·cases h
theorem HF {a l:List Nat} (h: ∀x∈a,x∈l):Ci a l=true:=by
 induction a with
 |nil=>rfl
 |cons y r ih=>
  simp only[Ci,c8.2 (h y (.head _))];exact ih fun x hx=>h x (.tail _ hx)
def YN (P:Program) (ops:Array Oper) (o:Oper) (v:Value) (a:Act) (w:World):Prop:=
 (Region.wanted o (yielded ops a.tmps)=true∧(execOp a.eval o).run P w= .ok (.value v) w)∨(Region.wanted o (yielded ops a.tmps)=false∧v=undef)
def Kp (C:dW) (ops:Array Oper) (o:Oper) (v:Value) (a:Act) (w:World):Prop:=
 (Region.wanted o (yielded ops a.tmps)=false∧v=undef)∨(Region.wanted o (yielded ops a.tmps)=true∧
   ((∀w,(execOp a.eval o).run C.P w= .ok (.value v) w)∨ ∃t x ad vs,o.op= .load t x∧a.eval x= .pointer (some ad)∧known (C.tt t)=true∧vs.length=(C.tt t).size∧(∀(j:Nat) (u:Value),vs[j]?=some u→w.cell? (ad.add j)=some u)∧v=valOf (C.tt t) vs))
theorem Kp.yn (hT:bZ C) {ops:Array Oper} {o:Oper} {v:Value} {a:Act} (h:Kp C ops o v a w):YN C.P ops o v a w:=by
 rcases h with⟨h1,h2⟩|⟨h1,h2|⟨t,x,ad,vs,ho,hx,hk,hl,hc,rfl⟩⟩
 ·exact .inr ⟨h1,h2⟩
 ·exact .inl ⟨h1,h2 w⟩
 ·refine .inl ⟨h1,?_⟩
  have:=mX (hT t hk) w ad vs hl hc;unfold execOp;rw[ho];simp only[hx,Instr.loadAt,Instr.sureAddr,Sem.run_bind,Sem.run_pure,Result.andThen];rw[this]
  rfl
theorem Kp.same {ops:Array Oper} {o:Oper} {v:Value} {a a':Act} (h:Kp C ops o v a w) (he:execOp a'.eval o=execOp a.eval o) (hx: ∀t x,o.op= .load t x→a'.eval x=a.eval x) (hw:Region.wanted o (yielded ops a'.tmps)=Region.wanted o (yielded ops a.tmps)):Kp C ops o v a' w:=by
 unfold Kp at*;rw[hw,he];rcases h with h|⟨h1,h2|⟨t,x,ad,vs,ho,hx',hr⟩⟩
 ·exact .inl h
 ·exact .inr ⟨h1,.inl h2⟩
 ·exact .inr ⟨h1,.inr ⟨t,x,ad,vs,ho,(hx t x ho).trans hx',hr⟩⟩
theorem Kp.world (hT:bZ C) {ops:Array Oper} {o:Oper} {v:Value} {a:Act} (h:Kp C ops o v a w) (hw: ∀t x ad,o.op= .load t x→a.eval x= .pointer (some ad)→Region.wanted o (yielded ops a.tmps)=true→ad.block<w.heap.size→w'.heap[ad.block]?=w.heap[ad.block]?):Kp C ops o v a w':=by
 rcases h with h|⟨h1,h2|⟨t,x,ad,vs,ho,hx,hk,hl,hc,hv⟩⟩
 ·exact .inl h
 ·exact .inr ⟨h1,.inl h2⟩
 ·refine .inr ⟨h1,.inr ⟨t,x,ad,vs,ho,hx,hk,hl,fun j u hj=> ?_,hv⟩⟩
  have O8:=hc j u hj;have hlt:=World.block_lt_of_cell? w _ O8;rw[aK] at hlt;rw[bT (w:=w) (by rw[aK];exact hw t x ad ho hx h1 hlt)];exact O8
theorem Cj (hT:bZ C) {a:Act} (h:ak F A w0 φ st a.tmps w) {t:TypeId} {x:Operand} {K:TE→Ev R} (hk:(pR C st t (gH C st 0 x) K).holds cf lp Q):
 ∃(ad:Addr) (vs:List Value),a.eval x= .pointer (some ad)∧known (C.tt t)=true∧vs.length=(C.tt t).size∧ ∀(j:Nat) (u:Value),vs[j]?=some u→w.cell? (ad.add j)=some u:=by
 have ht:=bH hT h 0 x
 have fin: ∀(ad:Addr) (xs:List CE) (K:TE→Ev R),a.eval x= .pointer (some ad)→(∀(j:Nat) (e:CE),xs[j]?=some e→ ∃u,w.cell? (ad.add j)=some u)→(pQ C t xs K).holds cf lp Q→
  ∃(ad:Addr) (vs:List Value),a.eval x= .pointer (some ad)∧known (C.tt t)=true∧vs.length=(C.tt t).size∧ ∀(j:Nat) (u:Value),vs[j]?=some u→w.cell? (ad.add j)=some u:=by
  intro ad xs K hv hx hk;unfold pQ at hk
  split at hk
  ·rename_i hkn hl
   obtain⟨vs,h1,h2⟩:=qW (Pr:=fun j (e:CE) u=>w.cell? (ad.add j)=some u) xs 0 (fun j e he=>by rw[dZ];exact hx j e he);refine⟨ad,vs,hv,hkn,by rw[h1];exact cw hl,fun j u hj=> ?_⟩
   have hlt:j<xs.length:=by rw[←h1];exact(List.getElem?_eq_some_iff.1 hj).1
   obtain⟨u',g1,g2⟩:=h2 j xs[j] (aO hlt);rw[hj] at g1;cases g1;rw[dZ] at g2;exact g2
  ·exact hk.elim
 cases he:gH C st 0 x with
 |bp b off=>
  rw[he] at ht hk;simp only[pR] at hk
  split at hk
  ·rename_i cs hb
   refine fin _ _ _ ht (fun j e he=> ?_) hk;have he:=bU he;rw[gn] at he;obtain⟨u,g1,g2⟩:=h.box b cs hb _ e he;exact⟨u,by rw[Addr.add_add];exact g1⟩
  ·exact hk.elim
 |ep ds cells=>
  rw[he] at ht hk;simp only[pR] at hk;obtain⟨hd,ad,hv,hr,hc⟩:=ht;refine fin ad _ _ hv (fun j e he=> ?_) hk;obtain⟨tc,g1,rfl⟩:=iP _ _ _ _ _ _ he;obtain⟨u,g2,g3⟩:=hc j tc (bU g1);exact⟨u,g2⟩
 |er o path i f=>
  rw[he] at ht hk;simp only[pR] at hk;obtain⟨ad,cells,hv,hr,hc,hk,hl⟩:=u9 h.obj ht hk;refine fin ad _ _ hv (fun j e he=> ?_) hk;obtain⟨tc,g1,rfl⟩:=iP _ _ _ _ _ _ he;obtain⟨u,g2,g3⟩:=hc j tc (bU g1);exact⟨u,g2⟩
 |_=>rw[he] at hk;exact hk.elim
theorem sG (hT:bZ C) {a:Act} (h:ak F A w0 φ st a.tmps w) {ops:Array Oper} {o:Oper}: ∀{fl:List Nat},og C ops st o fl=true→ ∀l∈fl,∀ol,ops[l]?=some ol→ ∀t x ad,ol.op= .load t x→a.eval x= .pointer (some ad)→Region.wanted ol (yielded ops a.tmps)=true→
 ¬Wr st φ (writes C st o) ad.block
 |[],_,l,hl,_,_,_,_,_,_,_,_=>by cases hl
 |l0::r,hf,l,hl,ol,hol,t,x,ad,ho,hx,hw=>by
  simp only[og] at hf
  split at hf
  ·rename_i ol0 Iq
   split at hf
   ·rename_i oW
    rcases bg.1 hl with rfl|hl
    ·exfalso
     rw[hol] at Iq;cases Iq;unfold IC at oW
     split at oW
     ·cases oW
     ·rename_i j want hg
      split at oW
      ·rename_i oj hj
       split at oW
       ·rename_i tt ht
        split at oW
        ·rename_i b hb
         have hv:=h.tmp tt;rw[hb] at hv;have hy:=qt hj ht hv;unfold Region.wanted at hw;rw[hg] at hw;simp only[hy] at hw
         split at oW
         ·cases hw
         ·cases hw
         ·cases oW
        ·rename_i hb
         have hv:=h.tmp tt;rw[hb] at hv;have hy:=vC hj ht (Di hv);unfold Region.wanted at hw;rw[hg] at hw;simp only[hy] at hw
         cases hw
        ·cases oW
       ·cases oW
      ·cases oW
    ·exact sG hT h hf l hl ol hol t x ad ho hx hw
   ·split at hf
    ·rename_i rdl hrd
     split at hf
     ·cases hf
     ·rename_i DQ
      rcases bg.1 hl with rfl|hl
      ·rw[hol] at Iq;cases Iq
       have DQ:=fun {y} (hy:y∈rdl)=>gu DQ hy;have ht:=bH hT h 0 x
       have obj: ∀{oo k},2*oo∈rdl→aj st.ob oo→φ.S oo k→ ¬Wr st φ (writes C st o) k:=fun {oo k} hm hd hS Ip=>by
        rcases Ip with⟨b,cs,b1,b2,b3,b4⟩|⟨o2,o1,o3,o4⟩
        ·exact h.eP hd hS b2 b4.symm
        ·have:=h.sep.apart oo o2 k hd o3 hS o4
         subst this;exact DQ hm o1
       have roI: ∀{k},φ.I k→ ¬Wr st φ (writes C st o) k:=fun {k} hI Ip=>by
        rcases Ip with⟨b,cs,b1,b2,b3,b4⟩|⟨o2,o1,o3,o4⟩
        ·subst b4;exact(h.sep.box b cs b2 b3).1 hI
        ·exact h.sep.read o2 k o3 o4 hI
       have arg: ∀{k},φ.S 0 k→ ¬Wr st φ (writes C st o) k:=fun {k} hS Ip=>by
        rw[h.sep.arg] at hS;have hc:=h.sep.ez k hS;rcases Ip with⟨b,cs,b1,b2,b3,b4⟩|⟨o2,o1,o3,o4⟩
        ·subst b4
         rcases (h.sep.box b cs b2 b3).2.2.1 with h3|h3
         ·omega
         ·exact hc.2 h3
        ·rcases (h.sep.fresh o2 k o3 o4).2 with h3|h3
         ·omega
         ·exact hc.2 h3
       unfold E4 at hrd;rw[ho] at hrd;simp only at hrd
       split at hrd
       ·rename_i b off he
        rw[he] at ht
        split at hrd
        ·rename_i cs hb
         cases hrd
         have ht:a.eval x= .pointer (some ((φ.β b).add off)):=ht;rw[hx] at ht
         cases ht
         rw[aK];intro Ip;rcases Ip with⟨b',cs',b1,b2,b3,b4⟩|⟨o2,o1,o3,o4⟩
         ·by_cases wR:b=b'
          ·subst wR;exact DQ (.head _) b1
          ·exact(h.sep.box b' cs' b2 b3).2.2.2 b cs hb wR b4
         ·exact h.eP o3 o4 hb rfl
        ·cases hrd
       ·rename_i ds c0 cells he
        rw[he] at ht
        cases hrd
        obtain⟨hd,ad',hv,hr,_⟩:=ht;rw[hx] at hv
        cases hv
        rcases hr cY with hI|⟨d,hm,hS⟩
        ·exact roI hI
        ·rcases hd d hm with rfl|DK
         ·exact arg hS
         ·exact obj (List.mem_map.2 ⟨d,hm,rfl⟩) DK hS
       ·rename_i oo i f he
        rw[he] at ht
        cases hrd
        obtain⟨b,hb,_,ad0,n0,c0,hV,hp⟩:=ht;have hp:a.eval x= .pointer (some (ad0.add (i.toNat*b.z+f))):=hp;rw[hx] at hp
        cases hp
        rw[aK];have hO:=h.obj oo b hb;unfold eE at hO;rw[hV] at hO;refine obj (.head _) ⟨b,hb⟩ ?_
        cases hO with
        |sub _ _ _ _ _ _ u T k hn=>exact(k.own (by unfold OB.m;split<;>simp)).2 ad0 rfl|>.1
       ·rename_i oo q i f he
        rw[he] at ht
        split at hrd
        ·rename_i z rows hb
         cases hrd
         obtain⟨b,hb',_,ad0,n0,c0,hV,hp⟩:=ht;rw[hb] at hb';cases hb';obtain⟨i0,f0⟩:=q;obtain⟨_,z1,fY,EK,ad1,n1,c1,hcell,hp⟩:=hp;rw[hx] at hp
         cases hp
         rw[aK];have hO:=h.obj oo _ hb;unfold eE at hO;rw[hV] at hO;refine obj (.head _) ⟨_,hb⟩ ?_
         cases hO with
         |sub _ _ _ _ _ _ u T k hn=>
          have hin:=hn _ _ _ EK;have hu:=k.cell ad0 rfl _ _ _ EK;rw[hcell] at hu;simp only[aI] at hu;rw[←hu] at hin
          have:T i0.toNat f0 ad1.block:=by
           cases hin with
           |sub _ _ _ _ _ _ u' T' k' hn'=>exact(k'.own (by simp[OB.m,Mode.nx])).2 ad1 rfl|>.1
          exact(k.fP rfl _ _ _ this).1
        ·cases hrd
       ·cases hrd
      ·exact sG hT h hf l hl ol hol t x ad ho hx hw
    ·cases hf
  ·cases hf
theorem Ck (hC:COk C) {fl:List Nat} {ops:Array Oper} {a:Act} (hi:Inv F A w0 fx g n st a w) {o:Oper} (zU:vw n o=true) (hq:j5 C o=true) {K:TS→Ev R} (hk:(guarded C fx fl ops st o K).holds cf lp Q):
 ∃v st',Kp C ops o v a w∧Inv F A w0 fx g n st' (a.put o.dst v) w∧(K st').holds cf lp Q:=by
 obtain⟨⟨φ,h⟩,GQ,GR,hsz⟩:=hi;obtain⟨hok,hc⟩:=lH h hk;have mk: ∀{st' v},Rel F A w0 st' (a.put o.dst v).tmps w→Inv F A w0 fx g n st' (a.put o.dst v) w:=fun hr=>⟨hr,zl hok GQ _,by rw[put_defers];exact GR,by rw[rA];exact hsz⟩;rcases hc with⟨hw,bh,φ1,h1,_,tE⟩|⟨hw,bh,h1,tE⟩
 ·have hpure:(xB C bh o K).holds cf lp Q:=by
   unfold j5 oz iH at hq;unfold fe at tE
   split at tE
   ·rename_i e;rw[e] at hq;cases hq
   ·rename_i e;rw[e] at hq;cases hq
   ·rename_i e;rw[e] at hq;cases hq
   ·rename_i e;rw[e] at hq;cases hq
   ·rename_i e;rw[e] at hq;cases hq
   ·rename_i src dst x e
    rw[e] at hq;simp only at hq
    split at tE
    ·rename_i et h1 h2
     rw[h1,h2] at hq
     cases hq
    ·exact tE
   ·rename_i e;rw[e] at hq;cases hq
   ·rename_i e;rw[e] at hq;cases hq
   ·rename_i e;rw[e] at hq;cases hq
   ·rename_i e;rw[e] at hq;cases hq
   ·exact tE
  unfold xB at hpure
  split at hpure
  ·rename_i d hd
   obtain⟨v,e,g1,g2,g3,g4⟩:=Az hC.ty h1 hpure;refine⟨v,_,.inr ⟨hw,?_⟩,mk ⟨φ1,?_⟩,g3⟩
   ·cases hb:oz C o with
    |true=>exact .inl (g4 hb)
    |false=>
     right;unfold j5 at hq;rw[hb] at hq;unfold iH at hq;simp only at hq
     split at hq
     ·rename_i t x ho
      unfold cz at hpure;rw[ho] at hpure;obtain⟨ad,vs,l1,l2,l3,l4⟩:=Cj hC.ty h1 hpure;refine⟨t,x,ad,vs,ho,l1,l2,l3,l4,?_⟩;have hr:=mX (hC.ty t l2) w ad vs l3 l4
      have:(execOp a.eval o).run C.P w= .ok (.value (valOf (C.tt t) vs)) w:=by
       unfold execOp;rw[ho];simp only[l1,Instr.loadAt,Instr.sureAddr,Sem.run_bind,Sem.run_pure,Result.andThen];rw[hr]
       rfl
      rw[g1] at this
      cases this
      rfl
     ·cases hq
   ·rw[hd]
    refine h1.wU ?_ g2;unfold vw at zU;rw[hd] at zU;have zU:Nat.ble (d+1) n=true:=zU;exact cW (show d<n from gD zU) hsz
  ·exact hpure.elim
 ·exact⟨undef,bh,.inl ⟨hw,rfl⟩,mk ⟨φ,h1⟩,tE⟩
theorem AO (hC:COk C) (pN:vz C cf) {fl:List Nat} {ops:Array Oper} {a:Act} (hi:Inv F A w0 fx g n st a w) {o:Oper} (zU:vw n o=true) {K:TS→Ev R} (hk:(guarded C fx fl ops st o K).holds cf lp Q) {Kc:Act→World→Prop} {Qc:Exit→Act→World→Prop}
 (hK: ∀st' v w',Inv F A w0 fx g n st' (a.put o.dst v) w'→(K st').holds cf lp Q→(∀l∈fl,∀ol,ops[l]?=some ol→ ∀t x ad,ol.op= .load t x→a.eval x= .pointer (some ad)→Region.wanted ol (yielded ops a.tmps)=true→ad.block<w.heap.size→w'.heap[ad.block]?=w.heap[ad.block]?)→Kc (a.put o.dst v) w'):
 if Region.wanted o (yielded ops a.tmps) then o.wp C.P a w Kc Qc else Kc (a.put o.dst undef) w:=by
 obtain⟨⟨φ,h⟩,GQ,GR,hsz⟩:=hi;obtain⟨hok,hc⟩:=lH h hk;have mk: ∀{st' v w'},Rel F A w0 st' (a.put o.dst v).tmps w'→Inv F A w0 fx g n st' (a.put o.dst v) w':=fun hr=>⟨hr,zl hok GQ _,by rw[put_defers];exact GR,by rw[rA];exact hsz⟩;rcases hc with⟨hw,bh,φ1,h1,hfl,tE⟩|⟨hw,bh,h1,tE⟩
 ·rw[aT hw]
  exact AN hC pN h1 (fun d hd=>by
   unfold vw at zU;rw[hd] at zU;have zU:Nat.ble (d+1) n=true:=zU
   exact cW (show d<n from gD zU) hsz) tE fun st' v w' hr hk' _ hfr=>hK st' v w' (mk hr) hk' fun l hl ol hol t x ad ho hx Qj hlt=>hfr _ hlt (sG hC.ty h1 hfl l hl ol hol t x ad ho hx Qj)
 ·rw[aH (by rw[hw];exact Bool.false_ne_true)]
  exact hK bh undef w (mk ⟨φ,h1⟩) tE fun _ _ _ _ _ _ _ _ _ _ _=>rfl
end Go.T
namespace Go.T
variable {F : Nat → Prop} {A : Arg} {w0 w w' : World} {φ φ' φ1 : Fp} {st st' sta bh eZ : TS} {tm qc : Array Value} {C : dW}
variable {R : Type} {cf : Cf} {lp : Lp} {Q : R → Prop}
variable {fx : List Nat} {g : Nat → Value} {n : Nat} {ops : Array Oper}
structure Pe where
 i:Nat
 o:Oper
 v:Value
def iy:List Pe→Act→Act
 |[],a=>a
 |p::r,a=>iy r (a.put p.o.dst p.v)
def nL (C:dW) (ops:Array Oper):List Pe→Act→World→Prop
 |[],_,_=>True
 |p::r,a,w=>Kp C ops p.o p.v a w∧nL C ops r (a.put p.o.dst p.v) w
inductive kY (ops:Array Oper) (i:Nat):Nat→Prop
 |base {j:Nat} {o:Oper} (h:ops[j]?=some o) (hd:i∈fM o):kY ops i j
 |step {j d:Nat} {o:Oper} (h:ops[j]?=some o) (hd:d∈fM o) (hw:kY ops i d):kY ops i j
theorem kZ {i:Nat}: ∀(k j:Nat) (W:List Nat),(∀x∈W,x=i∨kY ops i x)→ ∀x∈mu ops k j W,x=i∨kY ops i x
 |0,_,W,h=>h
 |k+1,j,W,h=>by
  simp only[mu]
  split
  ·rename_i o ho
   split
   ·rename_i hm
    refine kZ k (j+1) _ fun x hx=> ?_;rcases bg.1 hx with rfl|hx
    ·obtain⟨d,h1,h2⟩:=ql hm
     rcases h d h2 with rfl|hw
     ·exact .inr (.base ho h1)
     ·exact .inr (.step ho h1 hw)
    ·exact h x hx
   ·exact kZ k (j+1) W h
  ·exact h
theorem kY.listed {listed:Array Bool} (hcl: ∀(j:Nat) (oj:Oper),listed.getD j false=true→ops[j]?=some oj→ ∀d∈fM oj,listed.getD d false=true) {i j:Nat} (h:kY ops i j):(∀o,ops[j]?=some o→ ∀d∈fM o,listed.getD d false=true)→listed.getD i false=true:=by
 induction h with
 |base h hd=>exact fun hh=>hh _ h _ hd
 |step h hd hw ih=>exact fun hh=>ih fun o ho d DK=>hcl _ o (hh _ h _ hd) ho d DK
def Dj (ops:Array Oper) (oi oj:Oper):Prop:=(∀d,oj.dst=some d→d∉oi.looksAt ops)∧(∀d,oi.dst=some d→oj.dst≠some d)∧ ∀d,oi.dst=some d→d∉oj.looksAt ops
def vF (ops:Array Oper) (i:Nat) (oi:Oper) (j:Nat) (oj:Oper):Prop:=((∀d,oj.dst=some d→d∉oi.looksAt ops)∨(iH oi=false∧kY ops i j))∧
 (kY ops i j∨((∀d,oi.dst=some d→oj.dst≠some d)∧(i∈fM oj∨ ∀d,oi.dst=some d→d∉oj.looksAt ops)))
theorem vF.now {i j:Nat} {oi oj:Oper} (h:vF ops i oi j oj) (hj:ops[j]?=some oj) (hn: ¬kY ops i j):Dj ops oi oj:=by
 obtain⟨h1,h2⟩:=h;obtain⟨h3,h4⟩:=h2.resolve_left hn;exact⟨h1.resolve_right fun h=>hn h.2,h3,h4.resolve_left fun h=>hn (.base hj h)⟩
theorem FZ {i j:Nat} {oi oj:Oper} {W:List Nat} (hne:j≠i) (hW: ∀x∈W,x=i∨kY ops i x) (h:FY ops W i oi j oj=true):vF ops i oi j oj:=by
 unfold FY at h;simp only[cm,Bool.or_eq_true] at h;obtain⟨h1,h2⟩:=h;have hw:dx j W=true→kY ops i j:=fun h=>(hW j (c8.1 h)).resolve_left hne;refine⟨h1.imp (fun h1 d hd=> ?_) (fun h=>⟨by simpa using h.1,hw h.2⟩),h2.imp hw fun⟨h2,h3⟩=>⟨fun d hd hd'=> ?_,h3.imp c8.1 fun h3 d hd=> ?_⟩⟩
 ·rw[hd] at h1
  simp only[nF] at h1;exact bC.1 h1
 ·rw[hd',hd] at h2
  simp only[nF] at h2;exact absurd rfl (gE h2)
 ·rw[hd] at h3
  simp only[nF] at h3;exact bC.1 h3
theorem F0 {o:Oper} (h:vD ops o=true): ∀d,o.dst=some d→d∉o.looksAt ops:=fun d hd=>by
 unfold vD at h;rw[hd] at h;simp only[nF] at h;exact bC.1 h
theorem Dk {o:Oper} (h:rB o=false): ∀cs b,o.op≠ .select cs b:=fun cs b e=>by
 unfold rB at h;rw[e] at h
 cases h
theorem sH {o:Oper} {t:TypeId} {x:Operand} (ho:o.op= .load t x) {a:Act} {dst:Option Tmp} {v:Value} (h: ∀d,dst=some d→d∉o.looksAt ops):(a.put dst v).eval x=a.eval x:=
 Act.eval_put fun d hd hx=>h d hd (by
  subst hx;refine cM _ (List.mem_filterMap.2 ⟨.tmp d,?_,rfl⟩);rw[ho]
  simp[Op.operands])
theorem Kp.put {o:Oper} {v u:Value} {a:Act} {dst:Option Tmp} (hs:rB o=false) (hl: ∀d,dst=some d→d∉o.looksAt ops):Kp C ops o v (a.put dst u) w↔Kp C ops o v a w:=by
 have e1:=execOp_put (ops:=ops) o (Dk hs) a dst u hl;have e2:=wanted_put (ops:=ops) o a dst u hl;exact⟨fun h=>h.same e1.symm (fun t x ho=>(sH ho hl).symm) e2.symm,fun h=>h.same e1 (fun t x ho=>sH ho hl) e2⟩
theorem vG {dst:Option Tmp} {u:Value}: ∀(L:List Pe) (a:Act),(∀p∈L,rB p.o=false∧(∀d,dst=some d→d∉p.o.looksAt ops)∧ ∀d,p.o.dst=some d→dst≠some d)→(nL C ops L a w→nL C ops L (a.put dst u) w)∧iy L (a.put dst u)=(iy L a).put dst u
 |[],a,_=>⟨id,rfl⟩
 |p::r,a,h=>by
  obtain⟨h1,h2,h3⟩:=h p (.head _);have hc:(a.put dst u).put p.o.dst p.v=(a.put p.o.dst p.v).put dst u:=(Act.put_comm a p.v u h3).symm;obtain⟨i1,i2⟩:=vG r (a.put p.o.dst p.v) fun q hq=>h q (.tail _ hq);refine⟨fun⟨k1,k2⟩=>⟨(Kp.put h1 h2).2 k1,?_⟩,?_⟩
  ·rw[hc];exact i1 k2
  ·show iy r ((a.put dst u).put p.o.dst p.v)=_
   rw[hc];exact i2
theorem AP {p:Pe} {L2:List Pe} (hsp:rB p.o=false): ∀(L1:List Pe) (a:Act),(∀q∈L1,rB q.o=false∧Dj ops q.o p.o)→nL C ops (L1++p::L2) a w→Kp C ops p.o p.v a w∧nL C ops (L1++L2) (a.put p.o.dst p.v) w∧iy (L1++L2) (a.put p.o.dst p.v)=iy (L1++p::L2) a
 |[],a,_,⟨h1,h2⟩=>⟨h1,h2,rfl⟩
 |q::L1,a,h,⟨h1,h2⟩=>by
  obtain⟨hs,p1,p2,p3⟩:=h q (.head _);obtain⟨i1,i2,i3⟩:=AP hsp L1 (a.put q.o.dst q.v) (fun q' hq=>h q' (.tail _ hq)) h2;have hc:(a.put p.o.dst p.v).put q.o.dst q.v=(a.put q.o.dst q.v).put p.o.dst p.v:=(Act.put_comm a q.v p.v p2).symm;refine⟨(Kp.put hsp p3).1 i1,⟨(Kp.put hs p1).2 h1,?_⟩,?_⟩
  ·rw[hc];exact i2
  ·show iy (L1++L2) ((a.put p.o.dst p.v).put q.o.dst q.v)=_
   rw[hc];exact i3
theorem sJ {o:Oper} (hs:rB o=false): ∀(L:List Pe) (a:Act),(∀q∈L,∀d,q.o.dst=some d→d∉o.looksAt ops)→execOp (iy L a).eval o=execOp a.eval o∧Region.wanted o (yielded ops (iy L a).tmps)=Region.wanted o (yielded ops a.tmps)∧ ∀t x,o.op= .load t x→(iy L a).eval x=a.eval x
 |[],a,_=>⟨rfl,rfl,fun _ _ _=>rfl⟩
 |q::r,a,h=>by
  obtain⟨i1,i2,i3⟩:=sJ hs r (a.put q.o.dst q.v) fun q' hq=>h q' (.tail _ hq);have hq:=h q (.head _);exact⟨i1.trans (execOp_put (ops:=ops) o (Dk hs) a _ _ hq),i2.trans (wanted_put (ops:=ops) o a _ _ hq),fun t x ho=>(i3 t x ho).trans (sH ho hq)⟩
theorem vH (hT:bZ C): ∀(L:List Pe) (a:Act),(L.Pairwise fun p q=>vF ops p.i p.o q.i q.o∧p.i≠q.i)→(∀p∈L,vD ops p.o=true∧rB p.o=false)→
 (∀p∈L,∀t x ad,p.o.op= .load t x→(iy L a).eval x= .pointer (some ad)→Region.wanted p.o (yielded ops (iy L a).tmps)=true→ad.block<w.heap.size→w'.heap[ad.block]?=w.heap[ad.block]?)→nL C ops L a w→nL C ops L a w'
 |[],a,_,_,_,_=>trivial
 |p::r,a,hp,hs,hf,⟨h1,h2⟩=>by
  have L3:=List.pairwise_cons.1 hp;obtain⟨s1,s2⟩:=hs p (.head _);refine⟨h1.world hT fun t x ad ho hx hw hlt=> ?_,?_⟩
  ·have h3:=sJ (ops:=ops) s2 (p::r) a fun q hq d hd=>by
    rcases bg.1 hq with rfl|hq
    ·exact F0 s1 d hd
    ·exact(L3.1 q hq).1.1.resolve_right (fun h=>by have:=h.1;unfold iH at this;rw[ho] at this;cases this) d hd
   exact hf p (.head _) t x ad ho (by rw[h3.2.2 t x ho];exact hx) (by rw[h3.2.1];exact hw) hlt
  exact vH hT r _ L3.2 (fun q hq=>hs q (.tail _ hq)) (fun q hq=>hf q (.tail _ hq)) h2
variable {l : List Nat} {K : TS → Ev R}
structure AQ (C:dW) (F:Nat→Prop) (A:Arg) (w0:World) (fx:List Nat) (g:Nat→Value) (n:Nat) (l:List Nat) (K:TS→Ev R) (cf:Cf) (lp:Lp) (Q:R→Prop) (ops:Array Oper) (listed:Array Bool) (aM:Act) (w:World) (L:List Pe) (rest:oX) (S:List Nat):Prop where
 sz:listed.size=ops.size
 mem: ∀j,j∈S↔(listed.getD j false=true∨ ∃p∈L,p.i=j)
 uJ:ck C ops none S rest=true
 pend:nL C ops L aM w
 pw:L.Pairwise fun p q=>vF ops p.i p.o q.i q.o∧p.i≠q.i
 pe: ∀p∈L,ops[p.i]?=some p.o∧j5 C p.o=true∧vD ops p.o=true∧rB p.o=false∧listed.getD p.i false=false
 later: ∀p∈L,∀(j:Nat) (oj:Oper),j∉S→ops[j]?=some oj→vF ops p.i p.o j oj
 closed: ∀(j:Nat) (oj:Oper),listed.getD j false=true→ops[j]?=some oj→ ∀d∈fM oj,listed.getD d false=true
 pd: ∀L1 p L2,L=L1++p::L2→ ∀d∈fM p.o,listed.getD d false=true∨ ∃q∈L1,q.i=d
 go: ∃st,Inv F A w0 fx g n st (iy L aM) w∧(gL C fx l ops rest st K).holds cf lp Q
theorem AR {o:Oper} {listed:Array Bool}:(∀e∈o.after,Region.binds .any e=true→listed.getD e.on false=true)↔ ∀d∈fM o,listed.getD d false=true:=by
 unfold fM
 constructor
 ·intro h d hd
  obtain⟨e,he,rfl⟩:=List.mem_map.1 hd;obtain⟨h1,h2⟩:=List.mem_filter.1 he;exact h e (by simpa using h1) h2
 ·intro h e he hb
  exact h _ (List.mem_map.2 ⟨e,List.mem_filter.2 ⟨by simpa using he,hb⟩,rfl⟩)
theorem Dl {listed:Array Bool} {j:Nat} (h:j<listed.size) (a b:Bool):listed.getD j a=listed.getD j b:=by
 simp[jd,jM h]
theorem fm {hs:Option (List Nat)} {S:List Nat} {i:Nat} {fl:List Nat} {r:oX} (h:ck C ops hs S (.op i fl r)=true): ∃o,ops[i]?=some o∧i∉S∧(∀d∈fM o,d∈S)∧rB o=false∧ck C ops none (i::S) r=true∧
 ((j5 C o=true∧hs=none∧vD ops o=true∧ ∀(j:Nat) (oj:Oper),j∉S→j≠i→ops[j]?=some oj→vF ops i o j oj)∨
  (j5 C o=false∧(∀(j:Nat) (oj:Oper),j∉S→j≠i→j∉hs.getD []→ops[j]?=some oj→ ∃d∈fM oj,d∉S)∧ ∀(k:Nat) (ok:Oper),k∈S→ops[k]?=some ok→iH ok=true→k∈fl∨kY ops k i)):=by
 simp only[ck] at h
 split at h
 ·cases h
 ·rename_i o ho
  unfold OK at h;simp only[cm,nF] at h;obtain⟨⟨⟨⟨h1,h2⟩,h3⟩,h4⟩,h5⟩:=h;refine⟨o,ho,bC.1 h1,HE h2,h3,h5,?_⟩
  cases hq:j5 C o with
  |true=>
   rw[hq] at h4;simp only[cm] at h4;refine .inl ⟨rfl,by simpa using h4.1.1,h4.1.2,fun j oj hj hne lR=> ?_⟩;have O9:=h4.2;rw[jQ E9] at O9;have:=mw O9 j (Array.getElem?_eq_some_iff.1 lR).1;rw[lR,bC.2 hj,beq_false hne] at this;exact FZ hne (kZ ops.size 0 [i] fun x hx=> .inl (by simpa using hx)) (by simpa using this)
  |false=>
   rw[hq] at h4;simp only[cm] at h4;refine .inr ⟨rfl,fun j oj hj hne hh lR=> ?_,fun k ok hk hok Kd=> ?_⟩
   ·have:=mw h4.1 j (Array.getElem?_eq_some_iff.1 lR).1
    rw[lR,bC.2 hj,beq_false hne,bC.2 hh] at this;simp only[uK,nF] at this
    apply Classical.byContradiction
    intro hno;have:=HF (a:=fM oj) (l:=S) fun d hd=>Classical.byContradiction fun hn=>hno ⟨d,hd,hn⟩;simp_all
   ·have:=mw h4.2 k (Array.getElem?_eq_some_iff.1 hok).1
    rw[hok,c8.2 hk] at this;simp only[Kd] at this;simp only[xq,uK,Bool.or_false,Bool.or_eq_true] at this;exact this.imp c8.1 fun h=>(kZ ops.size 0 [k] (fun x hx=> .inl (by simpa using hx)) i (c8.1 h)).resolve_left fun e=>bC.1 h1 (e▸hk)
def Ki (lp:Lp):Prop:= ∀f i c st (Q Q':TX→TS→Prop),(∀x s,Q x s→Q' x s)→lp f i c st Q→lp f i c st Q'
theorem sK (rY:Ki lp) {j:Nat}: ∀{T:oX} {hs:Option (List Nat)} {S:List Nat},ck C ops hs S T=true→j∈T.kX→(gL C fx l ops T st K).holds cf lp Q→
 ∃fl r hs',ck C ops hs' S (.op j fl r)=true∧r.len+1=T.len∧(gL C fx l ops (.op j fl r) st K).holds cf lp Q
 | .nil,_,_,_,hj,_=>by cases hj
 | .op i fl r,hs,S,h,hj,hk=>by
   simp only[oX.kX,dw] at hj;subst hj;exact⟨fl,r,hs,h,rfl,hk⟩
 | .alt a b,hs,S,h,hj,hk=>by
   simp only[ck,cm] at h;obtain⟨⟨h1,h2⟩,h3⟩:=h;have h3:=cw h3;simp only[gL] at hk;obtain⟨r,k1,k2,k3⟩:=hk;rcases List.mem_append.1 hj with hj|hj
   ·obtain⟨fl,r',hs',g1,g2,g3⟩:=sK rY h1 hj (bS (fun _ _ _ _ h=>h) rY (fun r' e=>by subst e;exact k3) _ k1)
    exact⟨fl,r',hs',g1,g2,g3⟩
   ·obtain⟨fl,r',hs',g1,g2,g3⟩:=sK rY h2 hj (bS (fun _ _ _ _ h=>h) rY (fun r' e=>by subst e;exact k3) _ k2)
    exact⟨fl,r',hs',g1,by rw[g2];exact h3.symm,g3⟩
theorem vJ: ∀{T:oX} {H:List Nat} {S:List Nat},ck C ops (some H) S T=true→ ∀(j:Nat) (oj:Oper),j∉S→j∉H→j∉T.kX→ops[j]?=some oj→ ∃d∈fM oj,d∉S
 | .nil,_,_,h,_,_,_,_,_,_=>by simp[ck] at h
 | .op i fl r,H,S,h,j,oj,hj,hH,hh,lR=>by
   obtain⟨o,_,_,_,_,_,hc⟩:=fm h;rcases hc with⟨_,e,_⟩|⟨_,h1,_⟩
   ·cases e
   ·exact h1 j oj hj (fun e=>hh (by rw[e];exact .head _)) hH lR
 | .alt a b,H,S,h,j,oj,hj,hH,hh,lR=>by
   simp only[ck,cm] at h;exact vJ h.1.1 j oj hj hH (fun e=>hh (cM _ e)) lR
theorem pE: ∀{T:oX} {H:List Nat} {S:List Nat},ck C ops (some H) S T=true→ ∀{j oj},j∈T.kX→ops[j]?=some oj→j5 C oj=true→False
 | .nil,_,_,h,_,_,_,_,_=>by simp[ck] at h
 | .op i fl r,H,S,h,j,oj,hj,lR,hq=>by
   simp only[oX.kX,dw] at hj;subst hj;obtain⟨o,ho,_,_,_,_,hc⟩:=fm h;rw[lR] at ho;cases ho;rcases hc with⟨_,e,_⟩|⟨wK,_⟩
   ·cases e
   ·rw[hq] at wK;cases wK
 | .alt a b,H,S,h,j,oj,hj,lR,hq=>by
   simp only[ck,cm] at h;rcases List.mem_append.1 hj with hj|hj
   ·exact pE h.1.1 hj lR hq
   ·exact pE h.1.2 hj lR hq
theorem zm {a b:oX} {S:List Nat} (h:ck C ops none S (.alt a b)=true) {j:Nat} {oj:Oper} (hj:j∈(oX.alt a b).kX) (lR:ops[j]?=some oj) (hq:j5 C oj=true):False:=by
 simp only[ck,cm] at h;rcases List.mem_append.1 hj with hj|hj
 ·exact pE h.1.1 hj lR hq
 ·exact pE h.1.2 hj lR hq
theorem tT: ∀{T:oX} {H:List Nat} {S:List Nat},ck C ops (some H) S T=true→ ∃j∈T.kX,∃oj,ops[j]?=some oj∧j∉S∧ ∀d∈fM oj,d∈S
 | .nil,_,_,h=>by simp[ck] at h
 | .op i fl r,H,S,h=>by
   obtain⟨o,h1,h2,h3,_⟩:=fm h;exact⟨i,.head _,o,h1,h2,h3⟩
 | .alt a b,H,S,h=>by
   simp only[ck,cm] at h;obtain⟨j,h1,h2⟩:=tT h.1.1;exact⟨j,cM _ h1,h2⟩
theorem AQ.advance (hC:COk C) (hb:ug n ops.toList=true) {listed:Array Bool} {aM:Act} {L:List Pe} {i:Nat} {fl:List Nat} {r:oX} {S:List Nat} (s:AQ C F A w0 fx g n l K cf lp Q ops listed aM w L (.op i fl r) S) {o:Oper} (ho:ops[i]?=some o) (hq:j5 C o=true):
 ∃v,AQ C F A w0 fx g n l K cf lp Q ops listed aM w (L++[⟨i,o,v⟩]) r (i::S):=by
 obtain⟨o',ho',Ir,ue,hsel,CN,lu⟩:=fm s.uJ;rw[ho] at ho';cases ho';rcases lu with⟨_,_,Ja,Jb⟩|⟨wK,_⟩
 ·obtain⟨st,hinv,hk⟩:=s.go
  simp only[gL,ho] at hk
  have zU:vw n o=true:=by
   have: ∀(os:List Oper),ug n os=true→ ∀x∈os,vw n x=true:=by
    intro os
    induction os with
    |nil=>intro _ x hx;cases hx
    |cons y q ih=>
     intro h x hx;simp only[ug] at h
     split at h
     ·rcases bg.1 hx with rfl|hx
      ·assumption
      ·exact ih h x hx
     ·cases h
   exact this _ hb o (c6 (by rw[zZ];exact ho))
  obtain⟨v,st',k1,k2,k3⟩:=Ck hC hinv zU hq hk;rw[gM] at k3
  have L5: ∀(L:List Pe) (a:Act),nL C ops L a w→Kp C ops o v (iy L a) w→nL C ops (L++[⟨i,o,v⟩]) a w:=by
   intro L
   induction L with
   |nil=>intro a _ h;exact⟨h,trivial⟩
   |cons p q ih=>intro a h h2;exact⟨h.1,ih _ h.2 h2⟩
  have L6: ∀(L:List Pe) (a:Act),iy (L++[⟨i,o,v⟩]) a=(iy L a).put o.dst v:=by
   intro L
   induction L with
   |nil=>intro a;rfl
   |cons p q ih=>intro a;exact ih _
  have Qk:listed.getD i false=false:=by
   cases h:listed.getD i false with
   |false=>rfl
   |true=>exact absurd ((s.mem i).2 (.inl h)) Ir
  refine⟨v,s.sz,fun j=> ?_,CN,L5 L aM s.pend k1,?_,fun p hp=> ?_,fun p hp j oj hj lR=> ?_,s.closed,fun L1 p L2 he d hd=> ?_,st',by rw[L6];exact k2,k3⟩
  ·rw[bg,s.mem]
   constructor
   ·rintro(rfl|h|⟨p,hp,e⟩)
    ·exact .inr ⟨_,eW _ (.head _),rfl⟩
    ·exact .inl h
    ·exact .inr ⟨p,cM _ hp,e⟩
   ·rintro(h|⟨p,hp,e⟩)
    ·exact .inr (.inl h)
    ·rcases List.mem_append.1 hp with hp|hp
     ·exact .inr (.inr ⟨p,hp,e⟩)
     ·simp only[dw] at hp
      subst hp;exact .inl e.symm
  ·refine List.pairwise_append.2 ⟨s.pw,List.pairwise_singleton _ _,fun p hp q hq=> ?_⟩
   simp only[dw] at hq;subst hq;exact⟨s.later p hp i o Ir ho,fun e=>Ir ((s.mem i).2 (.inr ⟨p,hp,e⟩))⟩
  ·rcases List.mem_append.1 hp with hp|hp
   ·exact s.pe p hp
   ·simp only[dw] at hp
    subst hp;exact⟨ho,hq,Ja,hsel,Qk⟩
  ·have hj:j≠i∧j∉S:=by simpa using hj
   rcases List.mem_append.1 hp with hp|hp
   ·exact s.later p hp j oj hj.2 lR
   ·simp only[dw] at hp
    subst hp;exact Jb j oj hj.2 hj.1 lR
  ·rcases List.append_eq_append_iff.1 he with⟨a',e1,e2⟩|⟨c',e1,e2⟩
   ·
    cases a' with
    |nil=>
     simp only[iL,jN] at e1 e2
     cases e2
     subst e1;rcases (s.mem d).1 (ue d hd) with h|h
     ·exact .inl h
     ·exact .inr h
    |cons x xs=>simp at e2
   ·cases c' with
    |nil=>
     simp only[iL,jN] at e1 e2
     cases e2
     subst e1;rcases (s.mem d).1 (ue d hd) with h|h
     ·exact .inl h
     ·exact .inr h
    |cons x xs=>
     simp only[lU,List.cons.injEq] at e2;obtain⟨rfl,_⟩:=e2;exact s.pd L1 p xs e1 d hd
 ·rw[hq] at wK;cases wK
theorem JG (hb:ug n ops.toList=true) {i:Nat} {o:Oper} (ho:ops[i]?=some o):vw n o=true:=by
 have: ∀(os:List Oper),ug n os=true→ ∀x∈os,vw n x=true:=by
  intro os
  induction os with
  |nil=>intro _ x hx;cases hx
  |cons y q ih=>
   intro h x hx;simp only[ug] at h
   split at h
   ·rcases bg.1 hx with rfl|hx
    ·assumption
    ·exact ih h x hx
   ·cases h
 exact this _ hb o (c6 (by rw[zZ];exact ho))
theorem AS {P:Program} {o:Oper} {aS aM:Act} {w:World} {Kc Kc':Act→World→Prop} {Qc:Exit→Act→World→Prop} (he:execOp aM.eval o=execOp aS.eval o) (hk: ∀a' w',Kc a' w'→ ∃v,a'=aS.put o.dst v∧Kc' (aM.put o.dst v) w') (hd: ∀v v',aS.put o.dst v=aS.put o.dst v'→ ∀w',Kc' (aM.put o.dst v) w'→Kc' (aM.put o.dst v') w')
 (h:o.wp P aS w Kc fun _ _ _=>False):o.wp P aM w Kc' Qc:=by
 unfold Oper.wp at*;rw[he];generalize (execOp aS.eval o).run P w=r at*
 have use: ∀v w',Kc (aS.put o.dst v) w'→Kc' (aM.put o.dst v) w':=fun v w' h=>by
  obtain⟨v',e,hk'⟩:=hk _ _ h;exact hd v' v e.symm w' hk'
 cases r with
 |ok nx w'=>
  cases nx<;>simp only[Oper.upon] at h ⊢
  case value u=>exact use u w' h
  case skip=>exact use undef w' h
  case defer d=>
   exfalso
   obtain⟨v,e,_⟩:=hk _ _ h;have:=congrArg Act.defers e;rw[put_defers,put_defers] at this;have h2:=congrArg List.length this;simp at h2
  case enter f args=>
   refine Calls.mono h fun e w'' he=> ?_
   cases e with
   |returned u=>exact use u w'' he
   |panicked c=>exact he.elim
   |outgrown=>exact(LetsOut_false he).elim
  case row row args=>exact Rows.mono h fun u w'' he=>use u w'' he
 |halt x w'=>
  cases x<;>simp only[Oper.upon] at h
where
 LetsOut_false:LetsOut (fun(_:Exit) (_:Act) (_:World)=>False)→False:=fun⟨_,_,h⟩=>h
theorem x8: ∀(L:List Pe) (a:Act),(iy L a).tmps.size=a.tmps.size
 |[],_=>rfl
 |p::r,a=>by show(iy r _).tmps.size=_;rw[x8 r,rA]
theorem Ed {a a':Act} {d:Option Tmp} {v v':Value} (hs:a'.tmps.size=a.tmps.size) (h:a.put d v=a.put d v'):a'.put d v=a'.put d v':=by
 cases d with
 |none=>rfl
 |some d=>
  have h1:a.tmps.setIfInBounds d v=a.tmps.setIfInBounds d v':=congrArg Act.tmps h;show({a' with tmps:=a'.tmps.setIfInBounds d v}:Act)={a' with tmps:=a'.tmps.setIfInBounds d v'}
  by_cases hd:d<a.tmps.size
  ·have:v=v':=by
    have h2:=congrArg (fun x:Array Value=>x[d]?) h1;simpa [xp,hd] using h2
   rw[this]
  ·have hle:a'.tmps.size≤d:=by rw[hs];exact Nat.le_of_not_lt hd
   rw[Array.setIfInBounds_eq_of_size_le hle,Array.setIfInBounds_eq_of_size_le hle]
theorem JH (hC:COk C) (pN:vz C cf) (rY:Ki lp) (hb:ug n ops.toList=true) {Qc:Exit→Act→World→Prop} (hQ: ∀st a w,Inv F A w0 fx g n st a w→(K st).holds cf lp Q→Qc .normal a w):
 ∀(fuel:Nat) (listed:Array Bool) (aM:Act) (w:World) (L:List Pe) (rest:oX) (S:List Nat),AQ C F A w0 fx g n l K cf lp Q ops listed aM w L rest S→fuel=rest.len+L.length→wpAny C.P .any ops Qc fuel listed aM w:=by
 have ready0: ∀{listed:Array Bool} {j:Nat},listed.size=ops.size→j∈Region.ready .any ops listed→listed.getD j false=false∧ ∃oj,ops[j]?=some oj∧ ∀d∈fM oj,listed.getD d false=true:=fun {listed j} hsz hj=>by
  obtain⟨h1,oj,h2,h3⟩:=mem_ready.1 hj
  have hlt:j<listed.size:=by rw[hsz];exact(Array.getElem?_eq_some_iff.1 h2).1
  exact⟨by rw[Dl hlt false true];exact h1,oj,h2,AR.1 h3⟩
 have ready1: ∀{listed:Array Bool} {j:Nat} {oj:Oper},listed.size=ops.size→listed.getD j false=false→ops[j]?=some oj→(∀d∈fM oj,listed.getD d false=true)→j∈Region.ready .any ops listed:=fun {listed j oj} hsz h1 h2 h3=>by
  have hlt:j<listed.size:=by rw[hsz];exact(Array.getElem?_eq_some_iff.1 h2).1
  exact mem_ready.2 ⟨by rw[Dl hlt true false];exact h1,oj,h2,AR.2 h3⟩
 intro fuel
 induction fuel with
 |zero=>
  intro listed aM w L rest S s hf;have hL:L=[]:=qF aA
  have hr:rest= .nil:=by
   have h0:rest.len=0:=by omega
   have hsc:=s.uJ;clear s hf
   cases rest with
   |nil=>rfl
   |op i fl r=>simp[oX.len] at h0
   |alt a b=>
    exfalso
    simp only[ck,cm] at hsc
    have: ∀{T:oX} {H:List Nat} {S:List Nat},ck C ops (some H) S T=true→T.len≠0:=by
     intro T
     induction T with
     |nil=>intro _ _ h;simp[ck] at h
     |op i fl r _=>intro _ _ _;simp[oX.len]
     |alt a b iha _=>intro _ _ h;simp only[ck,cm] at h;exact iha h.1.1
    exact this hsc.1.1 h0
  subst hL hr
  constructor
  ·cases hrd:Region.ready .any ops listed with
   |nil=>rfl
   |cons j js=>
    exfalso
    obtain⟨h1,oj,h2,_⟩:=ready0 s.sz (j:=j) (by rw[hrd];exact .head _);have hs:=s.uJ;simp only[ck] at hs;have:=c8.1 (mw hs j (Array.getElem?_eq_some_iff.1 h2).1);rcases (s.mem j).1 this with h|⟨p,hp,_⟩
    ·rw[h1] at h;cases h
    ·cases hp
  ·obtain⟨st,hinv,hk⟩:=s.go
   simp only[gL] at hk;rw[gM] at hk;obtain⟨⟨φ,h⟩,h2,h3,h4⟩:=hinv;exact hQ _ aM w ⟨⟨φ,h.keep l⟩,h2,h3,h4⟩ hk
 |succ fuel ih=>
  intro listed aM w L rest S s hf
  have up: ∀{L:List Pe} {rest:oX} {S:List Nat},AQ C F A w0 fx g n l K cf lp Q ops listed aM w L rest S→fuel+1=rest.len+L.length→ ∀p∈L,(∀d∈fM p.o,listed.getD d false=true)→wpOp C.P ops Qc p.i (wpAny C.P .any ops Qc fuel (listed.setIfInBounds p.i true)) aM w:=fun {L rest S} s hf p hp Pb=>by
   obtain⟨L1,L2,rfl⟩:=List.append_of_mem hp;obtain⟨e1,e2,e3,e4,e5⟩:=s.pe p hp;have Jc:=List.pairwise_append.1 s.pw
   have Ql: ∀q∈L1,rB q.o=false∧Dj ops q.o p.o:=fun q hq=>by
    have:=s.pe q (cM _ hq);refine⟨this.2.2.2.1,(Jc.2.2 q hq p (.head _)).1.now e1 fun hd=> ?_⟩
    have h1:=hd.listed s.closed fun o ho=>by rw[e1] at ho;cases ho;exact Pb
    rw[this.2.2.2.2] at h1
    cases h1
   obtain⟨k1,k2,k3⟩:=AP e4 L1 aM Ql s.pend
   have hlt:p.i<listed.size:=by rw[s.sz];exact(Array.getElem?_eq_some_iff.1 e1).1
   have hne: ∀q,q∈L1∨q∈L2→q.i≠p.i:=fun q hq=>by
    rcases hq with hq|hq
    ·exact(Jc.2.2 q hq p (.head _)).2
    ·exact fun e=>((List.pairwise_cons.1 Jc.2.1).1 q hq).2 e.symm
   have r5: ∀j,(listed.setIfInBounds p.i true).getD j false=true↔j=p.i∨listed.getD j false=true:=fun j=>by
    by_cases hj:j=p.i
    ·subst hj;simp[jd,xp,hlt]
    ·rw[Go.getD_set_ne false (Ne.symm hj)];simp[hj]
   have hs':AQ C F A w0 fx g n l K cf lp Q ops (listed.setIfInBounds p.i true) (aM.put p.o.dst p.v) w (L1++L2) rest S:=by
    refine⟨by simp[s.sz],fun j=> ?_,s.uJ,k2,?_,fun q hq=> ?_,fun q hq=> ?_,fun j oj hj lR d hd=> ?_,fun M1 q M2 he d hd=> ?_,?_⟩
    ·rw[s.mem,r5]
     constructor
     ·rintro(h|⟨q,hq,e⟩)
      ·exact .inl (.inr h)
      ·rcases List.mem_append.1 hq with hq|hq
       ·exact .inr ⟨q,cM _ hq,e⟩
       ·rcases bg.1 hq with rfl|hq
        ·exact .inl (.inl e.symm)
        ·exact .inr ⟨q,eW _ hq,e⟩
     ·rintro((rfl|h)|⟨q,hq,e⟩)
      ·exact .inr ⟨p,hp,rfl⟩
      ·exact .inl h
      ·rcases List.mem_append.1 hq with hq|hq
       ·exact .inr ⟨q,cM _ hq,e⟩
       ·exact .inr ⟨q,eW _ (.tail _ hq),e⟩
    ·exact List.pairwise_append.2 ⟨Jc.1,(List.pairwise_cons.1 Jc.2.1).2,fun a ha b hb=>Jc.2.2 a ha b (.tail _ hb)⟩
    ·have wK:q∈L1++p::L2:=by
      rcases List.mem_append.1 hq with hq|hq
      ·exact cM _ hq
      ·exact eW _ (.tail _ hq)
     obtain⟨f1,f2,f3,f4,f5⟩:=s.pe q wK;refine⟨f1,f2,f3,f4,?_⟩;rw[Go.getD_set_ne false (Ne.symm (hne q (List.mem_append.1 hq)))];exact f5
    ·have wK:q∈L1++p::L2:=by
      rcases List.mem_append.1 hq with hq|hq
      ·exact cM _ hq
      ·exact eW _ (.tail _ hq)
     exact s.later q wK
    ·rcases (r5 j).1 hj with rfl|hj
     ·rw[e1] at lR;cases lR
      exact(r5 d).2 (.inr (Pb d hd))
     ·exact(r5 d).2 (.inr (s.closed j oj hj lR d hd))
    ·have old:listed.getD d false=true∨ ∃q'∈L1++p::L2,q'.i=d∧(q'=p∨q'∈M1):=by
      rcases List.append_eq_append_iff.1 he with⟨a',x1,x2⟩|⟨c',x1,x2⟩
      ·
       have:=s.pd (L1++p::a') q M2 (by rw[x2];simp) d hd;rcases this with h|⟨q',wK,e⟩
       ·exact .inl h
       ·refine .inr ⟨q',?_,e,?_⟩
        ·rcases List.mem_append.1 wK with h|h
         ·exact cM _ h
         ·rcases bg.1 h with rfl|h
          ·exact eW _ (.head _)
          ·exact eW _ (.tail _ (by rw[x2];exact cM _ h))
        ·rcases List.mem_append.1 wK with h|h
         ·exact .inr (by rw[x1];exact cM _ h)
         ·rcases bg.1 h with rfl|h
          ·exact .inl rfl
          ·exact .inr (by rw[x1];exact eW _ h)
      ·cases c' with
       |nil=>
        simp only[iL,jN] at x1 x2;subst x1;have:=s.pd (L1++[p]) q M2 (by rw[←x2];simp) d hd;rcases this with h|⟨q',wK,e⟩
        ·exact .inl h
        ·rcases List.mem_append.1 wK with h|h
         ·exact .inr ⟨q',cM _ h,e,.inr h⟩
         ·simp only[dw] at h
          exact .inr ⟨q',by rw[h];exact hp,e,.inl h⟩
       |cons y ys=>
        simp only[lU,List.cons.injEq] at x2;obtain⟨rfl,_⟩:=x2;have:=s.pd M1 q (ys++p::L2) (by rw[x1];simp) d hd;rcases this with h|⟨q',wK,e⟩
        ·exact .inl h
        ·exact .inr ⟨q',by rw[x1];exact cM _ (cM _ wK),e,.inr wK⟩
     rcases old with h|⟨q',_,e,rfl|h⟩
     ·exact .inl ((r5 d).2 (.inr h))
     ·exact .inl ((r5 d).2 (.inl e.symm))
     ·exact .inr ⟨q',h,e⟩
    ·obtain⟨st,g1,g2⟩:=s.go
     exact⟨st,by rw[k3];exact g1,g2⟩
   have hnext:=ih _ _ w (L1++L2) rest S hs' (by simp only[cL,eT] at hf ⊢;omega);have Qm:=k1.yn hC.ty;unfold Go.wpOp;simp only[e1];rcases Qm with⟨hw,hv⟩|⟨hw,hv⟩
   ·rw[aT hw]
    refine .inl ?_;unfold Oper.wp;rw[hv];exact hnext
   ·rw[aH (by rw[hw];exact Bool.false_ne_true)]
    rw[hv] at hnext;exact hnext
  constructor
  ·intro hnil
   exfalso
   cases L with
   |nil=>
    have first: ∃(i:Nat) (o:Oper),ops[i]?=some o∧i∉S∧ ∀d∈fM o,d∈S:=by
     cases rest with
     |nil=>simp[oX.len] at hf
     |op i fl r=>
      obtain⟨o,ho,Ir,ue,_⟩:=fm s.uJ;exact⟨i,o,ho,Ir,ue⟩
     |alt a b=>
      have hs:=s.uJ;simp only[ck,cm] at hs;obtain⟨j,_,oj,h1,h2,h3⟩:=tT hs.1.1;exact⟨j,oj,h1,h2,h3⟩
    ·obtain⟨i,o,ho,Ir,ue⟩:=first
     have hi:listed.getD i false=false:=by
      cases h:listed.getD i false with
      |false=>rfl
      |true=>exact absurd ((s.mem i).2 (.inl h)) Ir
     have:=ready1 s.sz hi ho fun d hd=>by
      rcases (s.mem d).1 (ue d hd) with h|⟨p,hp,_⟩
      ·exact h
      ·cases hp
     rw[hnil] at this
     cases this
   |cons p L2=>
    obtain⟨e1,e2,e3,e4,e5⟩:=s.pe p (.head _)
    have:=ready1 s.sz e5 e1 fun d hd=>by
     rcases s.pd [] p L2 rfl d hd with h|⟨q,hq,_⟩
     ·exact h
     ·cases hq
    rw[hnil] at this
    cases this
  ·intro j hj
   obtain⟨hjl,oj,lR,Jd⟩:=ready0 s.sz hj
   have doEff: ∀{rest:oX} {L:List Pe} {S:List Nat} {fl:List Nat} {r:oX},AQ C F A w0 fx g n l K cf lp Q ops listed aM w L rest S→fuel+1=rest.len+L.length→r.len+1=rest.len→j∉S→rB oj=false→ck C ops none (j::S) r=true→
    (∀(k:Nat) (ok:Oper),k∈S→ops[k]?=some ok→iH ok=true→k∈fl∨kY ops k j)→(∃st,Inv F A w0 fx g n st (iy L aM) w∧(gL C fx l ops (.op j fl r) st K).holds cf lp Q)→wpOp C.P ops Qc j (wpAny C.P .any ops Qc fuel (listed.setIfInBounds j true)) aM w:=fun {rest L S fl r} s hf hrl EL hsel CN wO MM=>by
    have Is: ∀p∈L,rB p.o=false∧vD ops p.o=true∧Dj ops p.o oj:=fun p hp=>by
     obtain⟨f1,f2,f3,f4,f5⟩:=s.pe p hp;refine⟨f4,f3,(s.later p hp j oj EL lR).now lR fun hd=> ?_⟩
     have:=hd.listed s.closed fun o' ho'=>by rw[lR] at ho';cases ho';exact Jd
     rw[f5] at this;cases this
    have kj: ∀q∈L,∀d,q.o.dst=some d→d∉oj.looksAt ops:=fun q hq=>(Is q hq).2.2.2.2;obtain⟨x1,x2,_⟩:=sJ (ops:=ops) hsel L aM kj;obtain⟨st,hinv,hk⟩:=MM;simp only[gL,lR] at hk
    have hlt:j<listed.size:=by rw[s.sz];exact(Array.getElem?_eq_some_iff.1 lR).1
    have r5: ∀d,(listed.setIfInBounds j true).getD d false=true↔d=j∨listed.getD d false=true:=fun d=>by
     by_cases hd:d=j
     ·subst hd;simp[jd,xp,hlt]
     ·rw[Go.getD_set_ne false (Ne.symm hd)];simp[hd]
    have Rt: ∀(v:Value),(nL C ops L aM w→nL C ops L (aM.put oj.dst v) w)∧iy L (aM.put oj.dst v)=(iy L aM).put oj.dst v:=fun v=>
     vG L aM fun p hp=>⟨(Is p hp).1,(Is p hp).2.2.1,(Is p hp).2.2.2.1⟩
    have next: ∀(v:Value) (w':World) (st':TS),Inv F A w0 fx g n st' ((iy L aM).put oj.dst v) w'→(gL C fx l ops r st' K).holds cf lp Q→(∀x∈fl,∀ox,ops[x]?=some ox→ ∀t y ad,ox.op= .load t y→(iy L aM).eval y= .pointer (some ad)→Region.wanted ox (yielded ops (iy L aM).tmps)=true→ad.block<w.heap.size→w'.heap[ad.block]?=w.heap[ad.block]?)→
     wpAny C.P .any ops Qc fuel (listed.setIfInBounds j true) (aM.put oj.dst v) w':=fun v w' st' hinv' hk' hfr=>by
     have Jc:=vH (w':=w') hC.ty L aM s.pw (fun p hp=>⟨(Is p hp).2.1,(Is p hp).1⟩) (fun p hp t y ad hop hy hwp hlt'=>by
      obtain⟨f1,f2,f3,f4,f5⟩:=s.pe p hp;have Qn:p.i∈S:=(s.mem _).2 (.inr ⟨p,hp,rfl⟩);rcases wO p.i p.o Qn f1 (by unfold iH;rw[hop]) with hfl|G1
      ·exact hfr p.i hfl p.o f1 t y ad hop hy hwp hlt'
      ·exfalso
       have:=G1.listed s.closed fun o' ho'=>by rw[lR] at ho';cases ho';exact Jd
       rw[f5] at this;cases this) s.pend
     have L7:=(vG (C:=C) (ops:=ops) (w:=w') (dst:=oj.dst) (u:=v) L aM fun p hp=>⟨(Is p hp).1,(Is p hp).2.2.1,(Is p hp).2.2.2.1⟩);refine ih _ _ w' L r (j::S) ⟨by simp[s.sz],fun d=> ?_,CN,L7.1 Jc,s.pw,fun p hp=> ?_,fun p hp d od hd L8=>s.later p hp d od (fun hs=>hd (.tail _ hs)) L8,fun d od hd L8 e he=> ?_,fun L1 p L2 he d hd=> ?_,st',by rw[L7.2];exact hinv',hk'⟩ aA
     ·rw[bg,s.mem,r5]
      constructor
      ·rintro(h|h|h)
       ·exact .inl (.inl h)
       ·exact .inl (.inr h)
       ·exact .inr h
      ·rintro((h|h)|h)
       ·exact .inl h
       ·exact .inr (.inl h)
       ·exact .inr (.inr h)
     ·obtain⟨f1,f2,f3,f4,f5⟩:=s.pe p hp
      refine⟨f1,f2,f3,f4,?_⟩;rw[Go.getD_set_ne false (fun e=>EL ((s.mem j).2 (.inr ⟨p,hp,e.symm⟩)))];exact f5
     ·rcases (r5 d).1 hd with rfl|hd
      ·rw[lR] at L8;cases L8
       exact(r5 e).2 (.inr (Jd e he))
      ·exact(r5 e).2 (.inr (s.closed d od hd L8 e he))
     ·exact(s.pd L1 p L2 he d hd).imp (fun h=>(r5 d).2 (.inr h)) id
    have GS:=AO hC pN hinv (JG hb lR) hk (Qc:=fun _ _ _=>False) (Kc:=fun a' w'=> ∃v,a'=(iy L aM).put oj.dst v∧wpAny C.P .any ops Qc fuel (listed.setIfInBounds j true) (aM.put oj.dst v) w') fun st' v w' hi' hk' hfr=>by
     rw[gM] at hk';exact⟨v,rfl,next v w' st' hi' hk' hfr⟩
    have Pc: ∀v v',(iy L aM).put oj.dst v=(iy L aM).put oj.dst v'→aM.put oj.dst v=aM.put oj.dst v':=fun v v' h=>Ed (x8 L aM).symm h;unfold Go.wpOp;simp only[lR];rw[x2] at GS
    by_cases hw:Region.wanted oj (yielded ops aM.tmps)=true
    ·rw[aT hw] at GS ⊢
     exact .inl (AS (Kc':=wpAny C.P .any ops Qc fuel (listed.setIfInBounds j true)) x1.symm (fun a' w' h=>h) (fun v v' h w' NF=>by rw[←Pc v v' h];exact NF) GS)
    ·rw[aH hw] at GS ⊢
     obtain⟨v,e,hn⟩:=GS;rw[Pc undef v e];exact hn
   have go: ∀(rest:oX) (L:List Pe) (S:List Nat),AQ C F A w0 fx g n l K cf lp Q ops listed aM w L rest S→fuel+1=rest.len+L.length→wpOp C.P ops Qc j (wpAny C.P .any ops Qc fuel (listed.setIfInBounds j true)) aM w:=by
    intro rest
    induction rest with
    |nil=>
     intro L S s hf;have hs:=s.uJ;simp only[ck] at hs;have EL:=c8.1 (mw hs j (Array.getElem?_eq_some_iff.1 lR).1);rcases (s.mem j).1 EL with h|⟨p,hp,rfl⟩
     ·rw[hjl] at h;cases h
     ·have e1:=(s.pe p hp).1
      rw[lR] at e1;cases e1;exact up s hf p hp Jd
    |op i fl r ihr=>
     intro L S s hf
     by_cases EL:j∈S
     ·rcases (s.mem j).1 EL with h|⟨p,hp,rfl⟩
      ·rw[hjl] at h;cases h
      ·have e1:=(s.pe p hp).1
       rw[lR] at e1;cases e1;exact up s hf p hp Jd
     ·obtain⟨o,ho,Ir,ue,hsel,CN,lu⟩:=fm s.uJ
      rcases lu with⟨hq,_,_,_⟩|⟨hq,Je,wO⟩
      ·obtain⟨v,s'⟩:=s.advance hC hb ho hq
       exact ihr _ _ s' (by simp only[cL,eT,List.length_nil,oX.len] at hf ⊢;omega)
      ·have hij:j=i:=by
        apply Classical.byContradiction
        intro hne;obtain⟨d,hd,N4⟩:=Je j oj EL hne cY lR;exact N4 ((s.mem d).2 (.inl (Jd d hd)))
       subst hij;rw[lR] at ho;cases ho;exact doEff s hf rfl EL hsel CN wO s.go
    |alt a b _ _=>
     intro L S s hf
     by_cases EL:j∈S
     ·rcases (s.mem j).1 EL with h|⟨p,hp,rfl⟩
      ·rw[hjl] at h;cases h
      ·have e1:=(s.pe p hp).1
       rw[lR] at e1;cases e1;exact up s hf p hp Jd
     ·have Pd:j∈(oX.alt a b).kX:=by
       apply Classical.byContradiction
       intro hne;have hs:=s.uJ;simp only[ck,cm] at hs;obtain⟨d,hd,N4⟩:=vJ hs.1.1 j oj EL hne (fun e=>hne (cM _ e)) lR;exact N4 ((s.mem d).2 (.inl (Jd d hd)))
      obtain⟨st,hinv,hk⟩:=s.go;obtain⟨fl,r,hs',g1,g2,g3⟩:=sK rY s.uJ Pd hk;obtain⟨o,ho,Ir,ue,hsel,CN,lu⟩:=fm g1;rw[lR] at ho;cases ho;rcases lu with⟨hq,_,Ja,Jb⟩|⟨hq,Je,wO⟩
      ·exfalso
       have hs:=s.uJ;exact zm hs Pd lR hq
      ·exact doEff s hf g2 EL hsel CN wO ⟨st,hinv,g3⟩
   exact go rest L S s hf
theorem Ee (hC:COk C) (pN:vz C cf) (rY:Ki lp) (hm:C.P.follows .mixedOrders=true) (hb:ug n ops.toList=true) {Qc:Exit→Act→World→Prop} (hQ: ∀st a w,Inv F A w0 fx g n st a w→(K st).holds cf lp Q→Qc .normal a w) {uJ:oX} (hs:ck C ops none [] uJ=true) (hl:uJ.len=ops.size)
 {a:Act} (hi:Inv F A w0 fx g n st a w) (hk:(gL C fx l ops uJ st K).holds cf lp Q) {id:Nat}:(Code.region id ops true).wp C.P Qc a w:=by
 refine wp_region_any hm ?_;obtain⟨⟨φ,h⟩,h2,h3,h4⟩:=hi;have hi':Inv F A w0 fx g n st a {w with drawn:=w.drawn+1}:=⟨⟨φ,h.BS (ff.drew w)⟩,h2,h3,h4⟩
 have lQ: ∀j,(Array.replicate ops.size false).getD j false=false:=fun j=>by
  rw[jd,Array.getElem?_replicate]
  split<;>rfl
 refine JH (l:=l) hC pN rY hb hQ ops.size _ a _ [] uJ [] ⟨by simp,fun j=> ?_,hs,trivial,.nil,fun p hp=>(by cases hp),fun p hp=>(by cases hp),fun j oj hj=> ?_,fun L1 p L2 he=> ?_,st,hi',hk⟩ (by simp[hl])
 ·rw[lQ];simp
 ·rw[lQ] at hj;cases hj
 ·cases L1<;>cases he
end Go.T
namespace Go.T
variable {F : Nat → Prop} {A : Arg} {w0 w w' : World} {φ φ' φ1 : Fp} {st st' sta bh eZ : TS} {tm qc : Array Value} {C : dW}
variable {R : Type} {cf : Cf} {lp : Lp} {Q : R → Prop}
variable {fx : List Nat} {g : Nat → Value} {n : Nat} {f : FuncId}
def nV (C:dW) (f:FuncId):Code→Bool
 | .region id ops draw=>match draw with
   |false=>true
   |true=>match C.uJ f id with
    |some l=>match Nat.beq l.len ops.size with
     |true=>ck C ops none [] l
     |false=>false
    |none=>true
 | .seq a b=>match nV C f a with|true=>nV C f b|false=>false
 | .cond _ a b=>match nV C f a with|true=>nV C f b|false=>false
 | .block _ b=>nV C f b
 | .loop b=>nV C f b
 |_=>true
structure AT (C:dW):Prop extends COk C where
 uJ: ∀(f:Nat) (fn:Func) (c:Code),C.P.funcs[f]?=some fn→fn.body=some c→nV C f c=true
 mix:C.P.follows .mixedOrders=true
 ext: ∀(f:FuncId) (p:List TV→Option (TV×List TV)) (vs:List TV) (r:TV) (fs:List TV),C.ext f=some p→p vs=some (r,fs)→zj C f vs r fs
def QK (F:Nat→Prop) (A:Arg) (w0:World) (fx:List Nat) (g:Nat→Value) (n:Nat) (Qt:TX→TS→Prop):Exit→Act→World→Prop
 | .normal,a,w=> ∃st,Inv F A w0 fx g n st a w∧Qt .norm st
 | .exit id,a,w=> ∃st,Inv F A w0 fx g n st a w∧Qt (.ex id) st
 | .ret,a,w=> ∃st,Inv F A w0 fx g n st a w∧Qt .ret st
 |_,_,_=>False
def JI (C:dW) (F:Nat→Prop) (A:Arg) (w0:World) (fx:List Nat) (g:Nat→Value) (n:Nat) (f:FuncId) (lp:Lp):Prop:=
 ∀(i:Nat) (c:Code) (st:TS) (Qt:TX→TS→Prop) (a:Act) (w:World),iR n c=true→nV C f c=true→lp f i c st Qt→Inv F A w0 fx g n st a w→(Code.loop c).wp C.P (QK F A w0 fx g n Qt) a w
theorem F1 (hC:AT C) (pN:vz C cf) (MQ:Ki lp) (rY:JI C F A w0 fx g n f lp): ∀(c:Code) (i:Nat) (st:TS) (K:TX→TS→Ev R) (a:Act) (w:World),iR n c=true→nV C f c=true→Inv F A w0 fx g n st a w→(run C fx f i c st K).holds cf lp Q→
 c.wp C.P (QK F A w0 fx g n fun x st=>(K x st).holds cf lp Q) a w:=by
 intro c
 induction c with
 |skip=>intro i st K a w _ _ hi hk;exact wp_skip ⟨st,hi,hk⟩
 |region id ops draw=>
  intro i st K a w hb hs hi hk
  cases draw with
  |false=>
   simp only[run] at hk;exact wp_region_list (xZ hC.toCOk pN (K:=K .norm) (fun st a w hi hk=>⟨st,hi,hk⟩) ops.toList st a w hb hi hk)
  |true=>
   simp only[run] at hk;simp only[nV] at hs
   split at hk
   ·rename_i l hl
    rw[hl] at hs;simp only at hs
    split at hs
    ·rename_i hlen
     exact Ee hC.toCOk pN MQ hC.mix hb (K:=K .norm) (fun st a w hi hk=>⟨st,hi,hk⟩) hs (cw hlen) hi hk
    ·cases hs
   ·exact hk.elim
 |seq x y ihx ihy=>
  intro i st K a w hb hs hi hk;simp only[run] at hk
  have hb':iR n x=true∧iR n y=true:=by
   simp only[iR] at hb
   split at hb
   ·exact⟨by assumption,hb⟩
   ·cases hb
  have hs':nV C f x=true∧nV C f y=true:=by
   simp only[nV] at hs
   split at hs
   ·exact⟨by assumption,hs⟩
   ·cases hs
  refine wp_seq (Code.wp_mono (fun e a w q=> ?_) (ihx i st _ a w hb'.1 hs'.1 hi hk))
  cases e with
  |normal=>obtain⟨st',hi',hk'⟩:=q;exact ihy i st' K a w hb'.2 hs'.2 hi' hk'
  |exit id=>exact q
  |ret=>exact q
  |_=>exact q.elim
 |cond c x y ihx ihy=>
  intro i st K a w hb hs hi hk;simp only[run] at hk
  have hb':iR n x=true∧iR n y=true:=by
   simp only[iR] at hb
   split at hb
   ·exact⟨by assumption,hb⟩
   ·cases hb
  have hs':nV C f x=true∧nV C f y=true:=by
   simp only[nV] at hs
   split at hs
   ·exact⟨by assumption,hs⟩
   ·cases hs
  obtain⟨φ,h⟩:=hi.rel;have hc:=bH hC.ty h 0 c
  split at hk
  ·rename_i p hp
   rw[hp] at hc;have hc:a.eval c= .bool p:=hc;refine wp_cond hc ?_
   cases p with
   |true=>exact ihx i st K a w hb'.1 hs'.1 hi hk
   |false=>exact ihy i st K a w hb'.2 hs'.2 hi hk
  ·rename_i p hp
   rw[hp] at hc;have hc:=fj hc;refine wp_cond hc ?_
   cases p with
   |true=>exact ihx i st K a w hb'.1 hs'.1 hi hk
   |false=>exact ihy i st K a w hb'.2 hs'.2 hi hk
  ·exact hk.elim
 |block id x ih=>
  intro i st K a w hb hs hi hk;simp only[run] at hk;refine wp_block (Code.wp_mono (fun e a w q=> ?_) (ih id st _ a w hb hs hi hk))
  cases e with
  |normal=>exact q
  |exit id'=>
   obtain⟨st',hi',hk'⟩:=q;simp only at hk';simp only[Exit.inBlock]
   cases MR:Nat.beq id' id with
   |true=>
    have:=cw MR;rw[MR] at hk';rw[aT this];exact⟨st',hi',hk'⟩
   |false=>
    rw[MR] at hk';rw[aH (gE MR)];exact⟨st',hi',hk'⟩
  |ret=>exact q
  |_=>exact q.elim
 |loop x ih=>
  intro i st K a w hb hs hi hk;simp only[run] at hk;rw[gM] at hk;obtain⟨⟨φ,h⟩,h2,h3,h4⟩:=hi;exact rY i x _ _ a w hb hs hk ⟨h.head _,h2,h3,h4⟩
 |exit id=>intro i st K a w _ _ hi hk;exact wp_exit ⟨st,hi,hk⟩
 |ret=>intro i st K a w _ _ hi hk;exact wp_ret ⟨st,hi,hk⟩
 |_=>intro i st K a w _ _ hi hk;exact hk.elim
theorem Dm (hC:AT C) (pN:vz C cf) (MQ:Ki lp) (rY:JI C F A w0 fx g n f lp) {i:Nat} {c:Code} {Qt:TX→TS→Prop} (hb:iR n c=true) (hs:nV C f c=true): ∀(k:Nat) (st:TS) (a:Act) (w:World),iter C cf lp fx f i c Qt k st→Inv F A w0 fx g n st a w→Code.rounds C.P c (QK F A w0 fx g n Qt) k a w
 |0,_,_,_,h,_=>h.elim
 |k+1,st,a,w,h,hi=>by
  refine Code.wp_mono (fun e a w q=> ?_) (F1 hC pN MQ rY c i st xD a w hb hs hi h)
  cases e with
  |normal=>
   obtain⟨st',hi',hk'⟩:=q;simp only[xD,Ev.holds] at hk';rw[gM] at hk';obtain⟨⟨φ,h⟩,h2,h3,h4⟩:=hi';exact Dm hC pN MQ rY hb hs k _ a w hk' ⟨h.head _,h2,h3,h4⟩
  |exit id=>exact q
  |ret=>exact q
  |_=>exact q.elim
theorem Dn {k:Nat} {fx:List Nat} (d:Nat):Ki (BQ C cf k fx d):=fun f i c st Q Q' hQ h=>fX (fun _ _ _ _ h=>h) (bu _) d f i c st Q Q' hQ h
theorem F2 (hC:AT C) (pN:vz C cf) {k:Nat}: ∀(d:Nat),JI C F A w0 fx g n f (BQ C cf k fx d)
 |0=>fun i c st Qt a w _ _ h _=>h.elim
 |d+1=>fun i c st Qt a w hb hs h hi=>wp_loop_rounds k (Dm hC pN (Dn d) (F2 hC pN d) hb hs k st a w h hi)
theorem x9: ∀{ps:List ay} {i j:Nat} {ms:List Mode},ps[j]?=some (.inout ms)→i+j∈sq ps i
 |[],_,_,_,h=>by simp at h
 |p::r,i,0,ms,h=>by
  simp only[bG,aI] at h;subst h;exact .head _
 |p::r,i,j+1,ms,h=>by
  have:=x9 (ps:=r) (i:=i+1) (j:=j) (by simpa using h);rw[show i+(j+1)=i+1+j by omega]
  cases p with
  |inout _=>exact .tail _ this
  |borrow=>exact this
  |consume _=>exact this
theorem F3 {g:DR} {i:Nat} (h:i∈sq g.ps 0):i∈uX g:=by
 unfold uX
 split
 ·exact .tail _ h
 ·exact h
theorem AU (hC:AT C): ∀(k:Nat),vz C (cJ C k)
 |0=>fun f vs r fs h=>h.elim
 |k+1=>fun f vs r fs h=>by
  have pN:=AU hC k;unfold cJ at h
  cases hx:C.ext f with
  |some p=>rw[hx] at h;exact hC.ext f p vs r fs hx h
  |none=>
  rw[hx] at h;have h:(body C f vs).holds (cJ C k) (BQ C (cJ C k) k (uX (C.sig f)) 4) fun p=>p=(r,fs):=h;unfold body at h
  split at h
  ·exact h.elim
  ·rename_i fn hfn
   split at h
   ·exact h.elim
   ·rename_i c hc
    refine⟨⟨fn,c,hfn,hc⟩,fun w xs Rg BB X Y hin hlen=> ?_⟩;rw[gM] at h
    have nD: ∀(i:Nat) (x:Value),xs[i]?=some x→(xs.toArray++Array.replicate (fn.ntmps-xs.toArray.size) undef).getD i undef=x:=fun i x hx=>by
     have hlt:i<xs.length:=(List.getElem?_eq_some_iff.1 hx).1;rw[jd,Array.getElem?_append_left (by simpa using hlt)];simp[hx]
    have hstart:=FB (C.sig f) hin nD
    have hinv:Inv (jh X Y) (qZ true Rg BB) w (uX (C.sig f)) (fun i=>xs.getD i undef) fn.ntmps (om (C.sig f) vs) {tmps:=xs.toArray++Array.replicate (fn.ntmps-xs.toArray.size) undef,defers:=[]} w:=by
     refine⟨⟨_,hstart⟩,fun i _=> ?_,rfl,?_⟩
     ·cases hx:xs[i]? with
      |some x=>rw[show xs.getD i undef=x by simp[List.getD,hx]];exact nD i x hx
      |none=>
       have hge:xs.length≤i:=by
        rcases Nat.lt_or_ge i xs.length with h'|h'
        ·rw[aO h'] at hx;cases hx
        ·exact h'
       rw[show xs.getD i undef=undef by simp[List.getD,hx]];rw[jd,Array.getElem?_append_right (by simpa using hge),Array.getElem?_replicate]
       split<;>rfl
     ·simp;omega
    have hrun:=F1 hC pN (Dn _) (F2 hC pN 4) c 0 _ _ _ w (hC.dst f fn c hfn hc) (hC.uJ f fn c hfn hc) hinv h;refine calls_of_wp hfn hc (Code.wp_mono (fun e a w' q=> ?_) hrun)
    have fin: ∀x st,Inv (jh X Y) (qZ true Rg BB) w (uX (C.sig f)) (fun i=>xs.getD i undef) fn.ntmps st a w'→(E7 C (C.sig f) fn.results.toList x st).holds (cJ C k) (BQ C (cJ C k) k (uX (C.sig f)) 4) (fun p=>p=(r,fs))→
     a.defers=[]∧ ∃v,(results fn a.tmps).run C.P w'= .ok v w'∧ ∃v',Ending.returned v= .returned v'∧vj (jh X Y) (qZ true Rg BB) w w' (C.sig f) xs r fs v':=fun x st hi hk=>by
     obtain⟨⟨φ,h⟩,h2,h3,h4⟩:=hi;obtain⟨v,g1,g2⟩:=JA hC.ty (C.sig f) h hlen (fun j ms hj=>h2 j (F3 (by have:=x9 (i:=0) hj;rwa [dZ] at this))) hk;exact⟨h3,v,g1,v,rfl,g2⟩
    cases e with
    |normal=>obtain⟨st,hi,hk⟩:=q;exact fin _ st hi hk
    |ret=>obtain⟨st,hi,hk⟩:=q;exact fin _ st hi hk
    |exit id=>obtain⟨st,hi,hk⟩:=q;exact hk.elim
    |_=>exact q.elim
end Go.T
namespace Go.T
variable {C : dW} {w w' : World}
inductive sL (tt:TypeId→dj):TypeId→List TC→Prop
 |int {t:TypeId} {k:IntKind} {n:Int} (h:(tt t).ti= .int k) (hw:(Lit.int k n).wf=true):sL tt t [.sc (.int k n)]
 |bool {t:TypeId} {b:Bool} (h:(tt t).ti= .bool):sL tt t [.sc (.bool b)]
 |str {t:TypeId} {s:ByteArray} (h:(tt t).ti= .str) (hs:s.size≤reachBytes):sL tt t [.sc (.string s)]
 |slice {t e:TypeId} (h:(tt t).ti= .slice e) (rows:List (List TC)) (hr: ∀r∈rows,sL tt e r) (hl:rows.length*(tt e).bytes≤reachBytes):sL tt t [.sub (tt e).size rows]
 |struct {t:TypeId} {fs:List (Nat×TypeId)} (h:(tt t).ti= .struct fs) (parts:List (List TC)) (hl:parts.length=fs.length) (hf: ∀(j:Nat) (p:Nat×TypeId) (q:List TC),fs[j]?=some p→parts[j]?=some q→sL tt p.2 q):sL tt t parts.flatten
def Ef (tt:TypeId→dj):Nat→List (Nat×TypeId)→Nat→Bool
 |off,[],size=>Nat.beq off size
 |off,(o,t)::r,size=>match Nat.beq o off with|true=>Ef tt (off+(tt t).size) r size|false=>false
def F4 (tt:TypeId→dj):Nat→TypeId→Bool
 |0,_=>false
 |n+1,t=>match(tt t).ti with
  | .int _=>true
  | .bool=>true
  | .str=>true
  | .slice e=>F4 tt n e
  | .struct fs=>Ef tt 0 fs (tt t).size&&fs.all fun f=>F4 tt n f.2
  |_=>false
def Rp (ps:List MemPlace) (k:Nat):Prop:= ∃x∈ps,x.block=k
section
variable {H : Type} {enc : TypeId × Value → H}
theorem qu (hT:bZ C) {t:TypeId} (hk:known (C.tt t)=true):C.P.cellsOf t=(C.tt t).size∧C.P.bytesOf t=(C.tt t).bytes:=by
 obtain⟨i,z,h1,h2,h3,_⟩:=(hT t hk).info;unfold Program.cellsOf Program.bytesOf;rw[h1];exact⟨h2,h3⟩
theorem sM {tt:TypeId→dj} {m:Nat} {t:TypeId} (h:F4 tt m t=true):known (tt t)=true:=by
 cases m with
 |zero=>cases h
 |succ m=>
  unfold F4 at h;unfold known
  split at h<;>first|(rename_i e;rw[e])|cases h
theorem sL.len (hT:bZ C): ∀(m:Nat) (t:TypeId) (cs:List TC),F4 C.tt m t=true→sL C.tt t cs→cs.length=(C.tt t).size
 |0,_,_,h,_=>by cases h
 |m+1,t,cs,h,hw=>by
  have hk:=sM h
  cases hw with
  |int h1 _=>exact((hT t hk).one fun fs e=>by rw[h1] at e;cases e).symm
  |bool h1=>exact((hT t hk).one fun fs e=>by rw[h1] at e;cases e).symm
  |str h1 _=>exact((hT t hk).one fun fs e=>by rw[h1] at e;cases e).symm
  |slice h1 _ _ _=>exact((hT t hk).one fun fs e=>by rw[h1] at e;cases e).symm
  | @struct _ fs h1 parts hl hf=>
    unfold F4 at h;rw[h1] at h;simp only[cm,List.all_eq_true] at h;obtain⟨hc,ho⟩:=h
    have key: ∀(fs:List (Nat×TypeId)) (parts:List (List TC)) (off:Nat),parts.length=fs.length→(∀(j:Nat) (p:Nat×TypeId) (q:List TC),fs[j]?=some p→parts[j]?=some q→q.length=(C.tt p.2).size)→Ef C.tt off fs (C.tt t).size=true→off+parts.flatten.length=(C.tt t).size:=by
     intro fs
     induction fs with
     |nil=>
      intro parts off hl _ hc;have:parts=[]:=qF hl;subst this;exact cw hc
     |cons f r ih=>
      intro parts off hl hf hc
      cases parts with
      |nil=>cases hl
      |cons q qs=>
       obtain⟨o,ft⟩:=f;simp only[Ef] at hc
       split at hc
       ·have h2:=ih qs _ (by simpa using hl) (fun j p q' h1 h2=>hf (j+1) p q' (by simpa using h1) (by simpa using h2)) hc
        have h3:=hf 0 _ q rfl rfl;simp only at h3;rw[nH,cL,h3];omega
       ·cases hc
    have:=key fs parts 0 hl (fun j p q rZ h2=>sL.len hT m p.2 q (ho p (c6 rZ)) (hf j p q rZ h2)) hc;omega
theorem sN (hT:bZ C): ∀(m:Nat) (t:TypeId) (fuel:Nat) (cs:List Value) (x:DataW H×List MemPlace),F4 C.tt m t=true→DataW.trod enc C.P w 0 (fun _=>true) true fuel t cs=some x→(x.1.weights C.P t).all (· ≤reachBytes)=true→
 ∃tcs,sL C.tt t tcs∧tcs.length=cs.length∧ ∀(j:Nat) (c:TC) (v:Value),tcs[j]?=some c→cs[j]?=some v→ah w (Rp x.2) .snap r6 c v
 |0,_,_,_,_,h,_,_=>by cases h
 |m+1,t,fuel,cs,x,h,hx,G1=>by
  have hk:=sM h;have hd:=(hT t hk).desc
  have one: ∀{c0:TC} {v0:Value} {ps:List MemPlace},ah w (Rp ps) .snap r6 c0 v0→ ∀(j:Nat) (c:TC) (v:Value),[c0][j]?=some c→[v0][j]?=some v→ah w (Rp ps) .snap r6 c v:=fun {c0 v0 ps} h j c v h1 h2=>by
   cases j with
   |zero=>simp only[bG,aI] at h1 h2;subst h1 h2;exact h
   |succ j=>simp at h1
  unfold F4 at h
  cases ht:(C.tt t).ti with
  |int k=>
   rw[ht] at hd;obtain⟨n,rfl,rfl,hw⟩:=DataW.trod_int hd hx;exact⟨_,.int ht hw,rfl,one (.sc _ _ _ trivial)⟩
  |bool=>
   rw[ht] at hd;obtain⟨b,rfl,rfl⟩:=DataW.trod_bool hd hx;exact⟨_,.bool ht,rfl,one (.sc _ _ _ trivial)⟩
  |str=>
   rw[ht] at hd;obtain⟨s,rfl,rfl,_⟩:=DataW.trod_string hd hx;refine⟨_,.str ht ?_,rfl,one (.sc _ _ _ trivial)⟩;simp only[DataW.weights,uL,EM,z5,decide_eq_true_eq] at G1;simpa using G1
  |slice e=>
   rw[ht] at hd h;simp only at h hd;obtain⟨hu,Kv⟩:=hd;obtain⟨hce,Qo⟩:=qu hT Kv;have hpos:=(hT e Kv).pos;rcases DataW.trod_slice hu hx with⟨rfl,rfl⟩|⟨a,len,cap,elems,rest,n,rfl,rfl,rfl,hb,hl,hm,hlen,hel,hsp,_⟩
   ·exact⟨_,.slice ht [] (fun r hr=>(by cases hr)) cY,rfl,one (kT hpos)⟩
   ·obtain⟨hrl,_⟩:=hsp rfl
    simp only[DataW.weights,hu,uL,List.all_append,cm,decide_eq_true_eq,g9] at G1;obtain⟨hw1,zT,_⟩:=G1
    have L9: ∀(i:Nat) (d:DataW H),(elems.map (·.1))[i]?=some d→(d.weights C.P e).all (· ≤reachBytes)=true:=by
     intro i d hi
     have: ∀(l:List (DataW H)),(DataW.weightsAll C.P e l).all (· ≤reachBytes)=true→ ∀d∈l,(d.weights C.P e).all (· ≤reachBytes)=true:=by
      intro l
      induction l with
      |nil=>intro _ d hd;cases hd
      |cons y r ih=>
       intro h d hd;simp only[DataW.weightsAll,List.all_append,cm] at h;rcases bg.1 hd with rfl|hd
       ·exact h.1
       ·exact ih h.2 d hd
     exact this _ zT d (c6 hi)
    have each: ∀i,i<len→ ∃row:List TC,sL C.tt e row∧row.length=(C.tt e).size∧ ∀(f:Nat) (c:TC),row[f]?=some c→ ∃u,w.cell? (a.add (i*(C.tt e).size+f))=some u∧ah w (Rp (elems.flatMap (·.2))) .snap r6 c u:=by
     intro i hi;have h1:=hel i hi
     have N5:i<elems.length:=by omega
     rw[aO N5,hce,Option.bind_eq_some_iff] at h1;obtain⟨vs,hvs,Qp⟩:=h1;obtain⟨row,r1,r2,r3⟩:=sN hT m e n vs elems[i] h Qp (L9 i _ (by rw[dK,aO N5];rfl));unfold World.cells? at hvs;rw[aT (aG _)] at hvs
     have hvl:vs.length=(C.tt e).size:=by simpa using mapM_some_length hvs
     refine⟨row,r1,by rw[r2,hvl],fun f c hf=> ?_⟩
     have hfl:f<(C.tt e).size:=by rw[←hvl,←r2];exact(List.getElem?_eq_some_iff.1 hf).1
     have hg:=mapM_some_get hvs f f (by simp[hfl]);rw[Addr.add_add] at hg;have hv:vs[f]?=some vs[f]:=aO (by rw[hvl];exact hfl);exact⟨vs[f],by rw[hg];exact hv,(r3 f c _ hf hv).fK fun k ⟨y,hy,hk⟩=>⟨y,List.mem_flatMap.2 ⟨_,qG N5,hy⟩,hk⟩⟩
    obtain⟨rows,Bz,hrow⟩: ∃rows:List (List TC),rows.length=len∧ ∀i row,rows[i]?=some row→sL C.tt e row∧row.length=(C.tt e).size∧ ∀(f:Nat) (c:TC),row[f]?=some c→ ∃u,w.cell? (a.add (i*(C.tt e).size+f))=some u∧ah w (Rp (elems.flatMap (·.2))) .snap r6 c u:=by
     refine⟨(List.range len).map fun i=>if hi:i<len then Classical.choose (each i hi) else [],by simp,fun i row hi=> ?_⟩
     have LR:i<len:=by have:=(List.getElem?_eq_some_iff.1 hi).1;simpa using this
     simp[LR] at hi;subst hi;exact Classical.choose_spec (each i LR)
    refine⟨_,.slice ht rows (fun r hr=> ?_) ?_,rfl,one ?_⟩
    ·obtain⟨i,hi,rfl⟩:=List.mem_iff_getElem.1 hr
     exact(hrow i _ (aO hi)).1
    ·rw[Bz,←Qo,←hlen]
     exact aB (gq _ (Nat.le_add_right _ _)) hw1
    ·have I9:=ah.sub (w:=w) (R:=Rp (MemPlace.row a ((elems.length+rest.length)*C.P.cellsOf e)++(elems++rest).flatMap (·.2))) .snap r6 (C.tt e).size rows (some a) cap
      (fun i f=>(w.cell? (a.add (i*(C.tt e).size+f))).getD undef) (fun _ _ _=>False) ?_ ?_
     ·rw[Bz] at I9;exact I9
     ·refine⟨by omega,hm,hpos,fun r hr=> ?_,fun _=>⟨a,rfl⟩,fun ad ha i f tc ht'=> ?_,fun _ ad ha hne=> ?_,fun hm=>absurd rfl hm,fun hm=>absurd rfl hm,fun hm=>(by cases hm)⟩
      ·obtain⟨i,hi,rfl⟩:=List.mem_iff_getElem.1 hr
       exact(hrow i _ (aO hi)).2.1
      ·cases ha
       unfold kO at ht'
       cases hr:rows[i]? with
       |none=>rw[hr] at ht';cases ht'
       |some row=>
        rw[hr] at ht';obtain⟨u,u1,_⟩:=(hrow i row hr).2.2 f tc ht';rw[u1];rfl
      ·cases ha
       refine⟨.cell a.block (a.off+0),cM _ (List.mem_map.2 ⟨0,List.mem_range.2 ?_,rfl⟩),rfl⟩;rw[hce]
       have:0<rows.length:=by
        cases rows with
        |nil=>exact absurd rfl hne
        |cons _ _=>simp
       exact Nat.mul_pos aA hpos
     ·intro i f tc ht'
      unfold kO at ht'
      cases hr:rows[i]? with
      |none=>rw[hr] at ht';cases ht'
      |some row=>
       rw[hr] at ht';obtain⟨u,u1,u2⟩:=(hrow i row hr).2.2 f tc ht';rw[u1];refine u2.fK fun k ⟨y,hy,hk⟩=>⟨y,eW _ ?_,hk⟩;rw[List.flatMap_append];exact cM _ hy
  |struct fs=>
   rw[ht] at hd h;simp only[cm,List.all_eq_true] at h;obtain⟨hc,ho⟩:=h;obtain⟨fields,hu,hfl,Ny⟩:=hd;obtain⟨xs,n,rfl,rfl,hcl,Qq,hxs⟩:=DataW.trod_struct hu hx;have Qs:=(qu hT hk).1;rw[Qs] at hcl;simp only[DataW.weights,hu] at G1
   have each: ∀(j:Nat) (p:Nat×TypeId),fs[j]?=some p→ ∃q:List TC,sL C.tt p.2 q∧q.length=(C.tt p.2).size∧ ∀(i:Nat) (c:TC),q[i]?=some c→ ∃u,cs[p.1+i]?=some u∧ah w (Rp (xs.flatMap (·.2))) .snap r6 c u:=by
    intro j p hj;obtain⟨fd,f1,f2,f3,f4,f5⟩:=Ny j p hj;have h1:=hxs j fd f1;rw[f2,f3,(qu hT f4).1] at h1
    have N6:j<xs.length:=by rw[Qq,hfl];exact(List.getElem?_eq_some_iff.1 hj).1
    rw[aO N6] at h1
    have hw:(xs[j].1.weights C.P p.2).all (· ≤reachBytes)=true:=by
     rw[←f3];have:=List.all_eq_true.1 G1;refine List.all_eq_true.2 fun y hy=>this y (DataW.weights_mem_each (ts:=fields.toList.map (·.type)) (ds:=xs.map (·.1)) (j:=j) (by rw[dK];simp[f1]) (by rw[dK,aO N6];rfl) y hy)
    obtain⟨q,q1,q2,q3⟩:=sN hT m p.2 n _ xs[j] (ho p (c6 hj)) h1 hw
    have N7:q.length=(C.tt p.2).size:=by rw[q2,eU,kC,hcl];omega
    refine⟨q,q1,N7,fun i c hi=> ?_⟩
    have LR:i<(C.tt p.2).size:=by rw[←N7];exact(List.getElem?_eq_some_iff.1 hi).1
    have hlt:p.1+i<cs.length:=by rw[hcl];omega
    refine⟨cs[p.1+i],aO hlt,(q3 i c _ hi ?_).fK fun k ⟨y,hy,hk⟩=>⟨y,List.mem_flatMap.2 ⟨_,qG N6,hy⟩,hk⟩⟩;rw[tF,aT LR,gn];exact aO hlt
   have parts: ∀(fs:List (Nat×TypeId)) (off:Nat),(∀(j:Nat) (p:Nat×TypeId),fs[j]?=some p→ ∃q:List TC,sL C.tt p.2 q∧q.length=(C.tt p.2).size∧ ∀(i:Nat) (c:TC),q[i]?=some c→ ∃u,cs[p.1+i]?=some u∧ah w (Rp (xs.flatMap (·.2))) .snap r6 c u)→
    Ef C.tt off fs (C.tt t).size=true→ ∃ps:List (List TC),ps.length=fs.length∧(∀(j:Nat) (p:Nat×TypeId) (q:List TC),fs[j]?=some p→ps[j]?=some q→sL C.tt p.2 q)∧off+ps.flatten.length=(C.tt t).size∧
     ∀(i:Nat) (c:TC),ps.flatten[i]?=some c→ ∃u,cs[off+i]?=some u∧ah w (Rp (xs.flatMap (·.2))) .snap r6 c u:=by
    intro fs
    induction fs with
    |nil=>intro off _ hc;exact⟨[],rfl,fun j p q h=>by simp at h,cw hc,fun i c h=>by simp at h⟩
    |cons f r ih=>
     intro off he hc;obtain⟨o,ft⟩:=f;simp only[Ef] at hc
     split at hc
     ·rename_i hoff
      have hoff:=cw hoff;subst hoff;obtain⟨q,q1,q2,q3⟩:=he 0 _ rfl;simp only at q1 q2 q3;obtain⟨ps,p1,p2,p3,p4⟩:=ih _ (fun j p hj=>he (j+1) p (by simpa using hj)) hc;refine⟨q::ps,by simp[p1],fun j p q' h1 h2=> ?_,by rw[nH,cL,q2];omega,fun i c hi=> ?_⟩
      ·cases j with
       |zero=>simp only[bG,aI] at h1 h2;subst h1 h2;exact q1
       |succ j=>exact p2 j p q' (by simpa using h1) (by simpa using h2)
      ·rw[nH] at hi
       by_cases hlt:i<q.length
       ·rw[dY hlt] at hi;exact q3 i c hi
       ·rw[eA aA] at hi
        obtain⟨u,u1,u2⟩:=p4 _ c hi;exact⟨u,by rw[←u1];congr 1;omega,u2⟩
     ·cases hc
   obtain⟨ps,p1,p2,p3,p4⟩:=parts fs 0 each hc;refine⟨ps.flatten,.struct ht ps p1 p2,by omega,fun j c v h1 h2=> ?_⟩;obtain⟨u,u1,u2⟩:=p4 j c h1;rw[dZ,h2] at u1
   cases u1
   exact u2
  |ptr e=>rw[ht] at h;cases h
  |other=>rw[ht] at h;cases h
end
end Go.T
namespace Go.T
open Go.RowKit
variable {C : dW} {w w' : World}
inductive II (tt:TypeId→dj) (t:TypeId):TV→Prop
 |c {c:TC} (h: ∀fs,(tt t).ti≠ .struct fs) (hw:sL tt t [c]):II tt t (.c c)
 |ag {fs:List (Nat×TypeId)} {cs:List TC} (h:(tt t).ti= .struct fs) (hw:sL tt t cs):II tt t (.ag cs)
inductive AV (tt:TypeId→dj):List TypeId→List TV→Prop
 |nil:AV tt [] []
 |cons {t:TypeId} {ts:List TypeId} {v:TV} {vs:List TV} (h:II tt t v) (hs:AV tt ts vs):AV tt (t::ts) (v::vs)
def K0 (tt:TypeId→dj) (m:Nat) (t:TypeId):Bool:=F4 tt m t&&Nat.ble (tt t).size 16
section
variable {H : Type} {enc : TypeId × Value → H}
theorem F5 (hT:bZ C) {m:Nat} {t:TypeId} {v:Value} {d:DataW H} {p:List MemPlace} {base:Nat} (ht:K0 C.tt m t=true) (hv:Value.okWide C.P w .any base t v)
 (hd:DataW.Trod enc C.P w 0 (fun _=>true) true t v d p) (G1:(d.weights C.P t).all (· ≤reachBytes)=true):
 ∃tv,II C.tt t tv∧kM tv=true∧ ∀BB:Nat→Prop,mh w .borrow (Rp p) BB (fun _ _=>False) (fun _=>False) tv v:=by
 unfold K0 at ht;simp only[cm] at ht;obtain⟨hok,hsz⟩:=ht;obtain⟨fuel,hf⟩:=hd;obtain⟨tcs,h1,h2,h3⟩:=sN hT m t fuel _ _ hok hf G1;have hk:=sM hok;have hlen:=sL.len hT m t tcs hok h1;have xo:=(hT t hk).desc
 have one:(∀fs,(C.tt t).ti≠ .struct fs)→v.cells= #[v]→ ∃tv,II C.tt t tv∧kM tv=true∧ ∀BB:Nat→Prop,mh w .borrow (Rp p) BB (fun _ _=>False) (fun _=>False) tv v:=by
  intro hn hc;rw[hc] at h2 h3
  match tcs,h1,h2,h3 with
  |[c],h1,h2,h3=>exact⟨.c c,.c hn h1,rfl,fun BB=>h3 0 c v rfl rfl⟩
 cases zR:(C.tt t).ti with
 |int k=>
  rw[zR] at xo;obtain⟨n,rfl⟩:=WideShapes.okWide_int xo hv;exact one (fun fs e=>by rw[zR] at e;cases e) rfl
 |bool=>
  rw[zR] at xo;obtain⟨n,rfl⟩:=WideShapes.okWide_bool xo hv;exact one (fun fs e=>by rw[zR] at e;cases e) rfl
 |str=>
  rw[zR] at xo;obtain⟨n,rfl⟩:=WideShapes.okWide_string xo hv;exact one (fun fs e=>by rw[zR] at e;cases e) rfl
 |slice e=>
  rw[zR] at xo;obtain⟨a,l,c,rfl⟩:=WideShapes.okWide_slice xo.1 hv;exact one (fun fs e=>by rw[zR] at e;cases e) rfl
 |struct fs=>
  rw[zR] at xo;obtain⟨fields,hu,_⟩:=xo;simp only[Value.okWide,hu] at hv;obtain⟨cs,rfl,hcs,_⟩:=hv;refine⟨.ag tcs,.ag zR h1,?_,fun BB=>⟨cs,rfl,?_,fun j c hj=> ?_⟩⟩
  ·simp only[kM,hlen];exact hsz
  ·rw[h2];simp[Value.cells]
  ·have hjl:j<cs.size:=by
    have:=(List.getElem?_eq_some_iff.1 hj).1;rw[h2] at this;simpa [Value.cells] using this
   exact⟨cs[j],jM hjl,h3 j c _ hj (by simp[Value.cells,hjl])⟩
 |ptr e=>
  cases m with
  |zero=>cases hok
  |succ m=>unfold F4 at hok;rw[zR] at hok;cases hok
 |other=>
  cases m with
  |zero=>cases hok
  |succ m=>unfold F4 at hok;rw[zR] at hok;cases hok
def uH (v:TV):Prop:=match v with| .c _=>True| .ag _=>True|_=>False
theorem mh.mono {w:World} {R R' BB:Nat→Prop} {v:TV} {x:Value} (hR: ∀k,R k→R' k) (h:mh w .borrow R BB (fun _ _=>False) (fun _=>False) v x) (hn:uH v):
 mh w .borrow R' BB (fun _ _=>False) (fun _=>False) v x:=by
 cases v with
 |c c=>exact ah.fK h hR
 |ag cs=>
  obtain⟨xs,h1,h2,h3⟩:=h;exact⟨xs,h1,h2,fun j c hj=>by obtain⟨u,u1,u2⟩:=h3 j c hj;exact⟨u,u1,u2.fK hR⟩⟩
 |_=>exact hn.elim
theorem II.plain {tt:TypeId→dj} {t:TypeId} {v:TV} (h:II tt t v):uH v:=by
 cases h<;>trivial
theorem ya (hT:bZ C) {m base:Nat}: ∀(ts:List TypeId) (xs:List Value) (ds:List (DataW H)) (ps:List MemPlace),DataW.TrodAll enc C.P w 0 (fun _=>true) true ts xs ds ps→ts.all (K0 C.tt m)=true→
 (∀(j:Nat) (t:TypeId) (v:Value),ts[j]?=some t→xs[j]?=some v→Value.okWide C.P w .any base t v)→(DataW.weightsEach C.P ts ds).all (· ≤reachBytes)=true→
 ∃vs,AV C.tt ts vs∧vs.length=ts.length∧xs.length=ts.length∧fW vs=true∧ ∀(i:Nat) (v:TV),vs[i]?=some v→ ∃x,xs[i]?=some x∧ ∀BB:Nat→Prop,mh w .borrow (Rp ps) BB (fun _ _=>False) (fun _=>False) v x
 |[],xs,ds,ps,h,_,_,_=>by
  obtain⟨rfl,rfl,rfl⟩:=ChangeShapes.trodAll_nil h;exact⟨[],.nil,rfl,rfl,rfl,fun i v hi=>by simp at hi⟩
 |t::ts,xs,ds,ps,h,ho,hv,hw=>by
  obtain⟨x,xs',d,ds',p,q,rfl,rfl,rfl,h1,h2⟩:=ChangeShapes.trodAll_cons h;simp only[uL,cm] at ho;simp only[DataW.weightsEach,List.all_append,cm] at hw;obtain⟨tv,a1,a2,a3⟩:=F5 hT ho.1 (hv 0 t x rfl rfl) h1 hw.1;obtain⟨vs,b1,b2,b3,b4,b5⟩:=ya hT ts xs' ds' q h2 ho.2 (fun j t v hj CK=>hv (j+1) t v (by simpa using hj) (by simpa using CK)) hw.2;refine⟨tv::vs,.cons a1 b1,by simp[b2],by simp[b3],by simp[fW,a2,b4],fun i v hi=> ?_⟩
  cases i with
  |zero=>
   simp only[bG,aI] at hi;subst hi;exact⟨x,rfl,fun BB=>(a3 BB).mono (fun k ⟨y,hy,hk⟩=>⟨y,cM _ hy,hk⟩) a1.plain⟩
  |succ i=>
   simp only[g7] at hi;obtain⟨x',c1,c2⟩:=b5 i v hi
   have yC:uH v:=by
    have: ∀(ts:List TypeId) (vs:List TV),AV C.tt ts vs→ ∀(i:Nat) (v:TV),vs[i]?=some v→uH v:=by
     intro ts vs h
     induction h with
     |nil=>intro i v hi;simp at hi
     |cons h hs ih=>
      intro i v hi
      cases i with
      |zero=>simp only[bG,aI] at hi;subst hi;exact h.plain
      |succ i=>exact ih i v (by simpa using hi)
    exact this _ _ b1 i v hi
   exact⟨x',by simpa using c1,fun BB=>(c2 BB).mono (fun k ⟨y,hy,hk⟩=>⟨y,eW _ hy,hk⟩) yC⟩
theorem Eg (hC:AT C) {f:FuncId} {ts:List TypeId} {m base:Nat} {W:World} {args:Array Value} {ds:List (DataW H)} {ps:List MemPlace}
 (hA:DataW.TrodAll enc C.P W 0 (fun _=>true) true ts args.toList ds ps) (ho:ts.all (K0 C.tt m)=true)
 (hv: ∀(j:Nat) (t:TypeId) (v:Value),ts[j]?=some t→args[j]?=some v→Value.okWide C.P W .any base t v) (hw:(DataW.weightsEach C.P ts ds).all (· ≤reachBytes)=true)
 (hps:(C.sig f).ps=ts.map fun _=> .borrow) (hn:ts.length≤50)
 (law: ∀vs,AV C.tt ts vs→ ∃k,cJ C k f vs (.c (.sc (.bool true))) []):
 Calls C.P f args W fun e W'=>e= .returned (.bool true)∧Below W.heap.size W W':=by
 have hlt: ∀(ts:List TypeId) (xs:List Value) (ds:List (DataW H)) (ps:List MemPlace),DataW.TrodAll enc C.P W 0 (fun _=>true) true ts xs ds ps→ ∀x∈ps,x.block<W.heap.size:=by
  intro ts
  induction ts with
  |nil=>intro xs ds ps h x hx;obtain⟨_,_,rfl⟩:=ChangeShapes.trodAll_nil h;cases hx
  |cons t ts ih=>
   intro xs ds ps h x hx;obtain⟨_,_,_,_,p,q,_,_,rfl,⟨n,h1⟩,h2⟩:=ChangeShapes.trodAll_cons h;rcases List.mem_append.1 hx with hx|hx
   ·exact DataW.trod_lt n _ _ _ h1 x hx
   ·exact ih _ _ _ h2 x hx
 obtain⟨vs,v1,v2,v3,v4,v5⟩:=ya hC.ty ts args.toList ds ps hA ho (fun j t v h1 h2=>hv j t v h1 (by simpa using h2)) hw;obtain⟨k,hk⟩:=law vs v1
 have hargs:za W (C.sig f).ps vs args.toList (Rp ps) (fun _=>False) (fun _ _ _=>False) (fun _ _=>False):=by
  refine⟨fun i v hi=> ?_,?_,fun i j k h=>h.elim,fun i k h=>h.elim,fun k ⟨x,hx,hk⟩=>hk▸hlt _ _ _ _ hA x hx,fun k h=>h.elim⟩
  ·obtain⟨x,x1,x2⟩:=v5 i v hi
   refine⟨x,x1,?_⟩
   have:(C.sig f).ps.getD i .borrow= .borrow:=by
    rw[hps,uM,dK]
    cases ts[i]?<;>rfl
   rw[this];exact x2 _
  ·unfold jP
   rw[show Nat.ble vs.length 50=true from uN aA];exact v4
 have:=(AU hC k f vs _ _ hk).calls W args.toList _ _ _ _ hargs (by rw[hps];simp[v3]);refine Calls.mono this fun e W' ⟨v,he,hp⟩=> ?_;subst he;obtain⟨hf,I,X,ri,fi,hb,hr,_⟩:=hp;obtain⟨zY,yE⟩:=hr;refine⟨?_,hf.os,hf.tape,hf.output,hf.size,fun k hk=>hf.block k hk (by rintro(⟨_,_,h⟩|⟨_,h⟩)<;>exact h)⟩;have h1:=zY.2.2.2 (by decide);rw[h1] at yE;have h0:=hb.ok 0 _ (by rw[yE];rfl)
 cases h0
 rfl
end
end Go.T
namespace Go.T
def yc (C:dW) (f:Nat) (fn:Func):Bool:= !(fn.name== "runtime.NumGoroutine")&&match fn.body with
 |none=>true
 |some c=>iR fn.ntmps c&&nV C f c
def AW (C:dW):Nat→List Func→Bool
 |_,[]=>true
 |f,fn::r=>yc C f fn&&AW C (f+1) r
theorem yd {C:dW}: ∀{f:Nat} {l:List Func},AW C f l=true→ ∀(i:Nat) (fn:Func),l[i]?=some fn→yc C (f+i) fn=true
 |f,[],_,i,fn,h=>by simp at h
 |f,fn'::r,h,i,fn,hi=>by
  simp only[AW,cm] at h
  cases i with
  |zero=>simp only[bG,aI] at hi;subst hi;exact h.1
  |succ i=>have:=yd h.2 i fn (by simpa using hi);rw[show f+(i+1)=f+1+i by omega];exact this
theorem HG {C:dW} (ty:bZ C) (h:AW C 0 C.P.funcs.toList=true) (mix:C.P.follows .mixedOrders=true)
 (ext: ∀(f:FuncId) (p:List TV→Option (TV×List TV)) (vs:List TV) (r:TV) (fs:List TV),C.ext f=some p→p vs=some (r,fs)→zj C f vs r fs):AT C:=by
 have key: ∀(f:Nat) (fn:Func),C.P.funcs[f]?=some fn→yc C f fn=true:=fun f fn hf=>by
  have:=yd h f fn (by simpa using hf)
  rwa [dZ] at this
 refine {ty:=ty,name:=fun f fn hf=> ?_,dst:=fun f fn c hf hc=> ?_,uJ:=fun f fn c hf hc=> ?_,mix:=mix,ext:=ext}
 ·have:=key f fn hf
  unfold yc at this;simp only[cm,nF] at this;exact this.1
 ·have:=key f fn hf
  unfold yc at this;rw[hc] at this;simp only[cm] at this;exact this.2.1
 ·have:=key f fn hf
  unfold yc at this;rw[hc] at this;simp only[cm] at this;exact this.2.2
end Go.T
namespace Go.T
variable {C : dW}
def aq (C:dW) (f:FuncId) (vs:List TV) (r:TV) (fs:List TV):Prop:= ∃k,cJ C k f vs r fs
def wP (C:dW) (fx:List Nat):Nat→Lp
 |0=>fun _ _ _ _ _=>False
 |n+1=>fun f i c st Q=> ∃k m x st',sr C k fx n f i c m st x st'∧Q x st'
def bR (C:dW) (f:FuncId) (vs:List TV) (Q:TV→List TV→Prop):Prop:= ∃r fs,aq C f vs r fs∧Q r fs
theorem rC {R:Type} {k k':Nat} (hk:k≤k') {fx:List Nat} {n:Nat} {Q:R→Prop} {e:Ev R} (h:e.holds (cJ C k) (BQ C (cJ C k) k fx n) Q):e.holds (cJ C k') (BQ C (cJ C k') k' fx n) Q:=
 bS (fun _ _ _ _ h=>ek hk h) (fX (fun _ _ _ _ h=>ek hk h) hk n) (fun _ h=>h) e h
theorem sr.up {k k' m m':Nat} (hk:k≤k') (hm:m≤m') {fx:List Nat} {n f i:Nat} {c:Code} {st st':TS} {x:TX} (h:sr C k fx n f i c m st x st'):sr C k' fx n f i c m' st x st':=
 o6 (fun _ _ _ _ h=>ek hk h) (fX (fun _ _ _ _ h=>ek hk h) hk n) (fun _ _ h=>h) m m' hm st h
theorem eM {R:Type} {fx:List Nat} {n:Nat} {Q:R→Prop}: ∀(e:Ev R),e.holds (aq C) (wP C fx n) Q→ ∃k r,e.holds (cJ C k) (BQ C (cJ C k) k fx n) (fun r'=>r'=r)∧Q r
 | .fail,h=>h.elim
 | .ret r,h=>⟨0,r,rfl,h⟩
 | .test b k,h=>eM (k b) h
 | .row rows i k,⟨c,h1,h2⟩=>by
   obtain⟨k',r,h3,h4⟩:=eM (k c) h2;exact⟨k',r,⟨c,h1,h3⟩,h4⟩
 | .byte rows i k,⟨c,h1,h2⟩=>by
   obtain⟨k',r,h3,h4⟩:=eM (k c) h2;exact⟨k',r,⟨c,h1,h3⟩,h4⟩
 | .bytes rows k,⟨c,h1,h2⟩=>by
   obtain⟨k',r,h3,h4⟩:=eM (k c) h2;exact⟨k',r,⟨c,h1,h3⟩,h4⟩
 | .call f vs k,⟨r0,fs,⟨k0,h1⟩,h2⟩=>by
   obtain⟨k',r,h3,h4⟩:=eM (k r0 fs) h2;exact⟨max k0 k',r,⟨r0,fs,ek (xy _ _) h1,rC (Nat.le_max_right _ _) h3⟩,h4⟩
 | .loop f i c st k,h=>by
   cases n with
   |zero=>exact h.elim
   |succ n=>
    obtain⟨k0,m,x,st',h1,h2⟩:=h;obtain⟨k',r,h3,h4⟩:=eM (k x st') h2;refine⟨max (max k0 m) k',r,?_,h4⟩;have h5:=(h1.up (k':=max (max k0 m) k') (m':=max (max k0 m) k') aA aA).ok (bu _);refine fX (fun _ _ _ _ h=>h) (bu _) (n+1) _ _ _ _ _ _ (fun x1 bh hh=> ?_) h5;obtain⟨rfl,rfl⟩:=hh;exact rC (Nat.le_max_right _ _) h3
 | .both a b,⟨r,h1,h2,h3⟩=>by
   obtain⟨k1,r1,g1,e1⟩:=eM a h1;obtain⟨k2,r2,g2,e2⟩:=eM b h2;rw[e1] at g1;rw[e2] at g2;exact⟨max k1 k2,r,⟨r,rC (xy _ _) g1,rC (Nat.le_max_right _ _) g2,rfl⟩,h3⟩
theorem bR.F6 {f:FuncId} {vs:List TV} {Q:TV→List TV→Prop} (h:(body C f vs).holds (aq C) (wP C (uX (C.sig f)) 4) fun p=>Q p.1 p.2) (hx:C.ext f=none:=by rfl):bR C f vs Q:=by
 obtain⟨k,⟨r,fs⟩,h1,h2⟩:=eM _ h;exact⟨r,fs,⟨k+1,BR hx h1⟩,h2⟩
theorem aq.ext {f:FuncId} {vs:List TV} {r:TV} {fs:List TV} {p:List TV→Option (TV×List TV)} (hx:C.ext f=some p) (h:p vs=some (r,fs)):aq C f vs r fs:=⟨1,DT hx h⟩
theorem wP.round {fx:List Nat} {n f i:Nat} {c:Code} {st:TS} {Q:TX→TS→Prop} (h:(run C fx f i c st xD).holds (aq C) (wP C fx n) fun p=>match p with
 |(.norm,st')=>DS (Ai (C.lb f i) st') fun st'=>wP C fx (n+1) f i c st' Q
 |(x,st')=>Q x st'):wP C fx (n+1) f i c st Q:=by
 obtain⟨k,⟨x,bh⟩,h1,h2⟩:=eM _ h
 cases x with
 |norm=>
  simp only at h2;rw[gM] at h2;obtain⟨k0,m,x,st',h3,h4⟩:=h2;refine⟨max k k0,m+1,x,st',?_,h4⟩;have h5:=h3.up (k':=max k k0) (m':=m) (Nat.le_max_right _ _) (bu _);refine bS (fun _ _ _ _ h=>ek (xy _ _) h) (fX (fun _ _ _ _ h=>ek (xy _ _) h) (xy _ _) n) (fun r hr=> ?_) _ h1;subst hr;simp only;rw[gM];exact h5
 |ex id=>exact⟨k,1,.ex id,bh,bS (fun _ _ _ _ h=>h) (fX (fun _ _ _ _ h=>h) (bu _) n) (fun r hr=>by subst hr;exact⟨rfl,rfl⟩) _ h1,h2⟩
 |ret=>exact⟨k,1,.ret,bh,bS (fun _ _ _ _ h=>h) (fX (fun _ _ _ _ h=>h) (bu _) n) (fun r hr=>by subst hr;exact⟨rfl,rfl⟩) _ h1,h2⟩
theorem wP.mono {fx:List Nat} {n f i:Nat} {c:Code} {st:TS} {Q Q':TX→TS→Prop} (hQ: ∀x s,Q x s→Q' x s) (h:wP C fx n f i c st Q):wP C fx n f i c st Q':=by
 cases n with
 |zero=>exact h.elim
 |succ n=>obtain⟨k,m,x,st',h1,h2⟩:=h;exact⟨k,m,x,st',h1,hQ _ _ h2⟩
inductive Sh where
 |int (k:IntKind)|bool|str|sub (z:Nat)
inductive vK where
 |c (s:Sh)|ag (l:List Sh)|tu (l:List (Nat×List Sh))|bx (l:List Sh)
inductive Hint where
 |z|br (a b:Hint)|both (a b:Hint)|nest (a b:Hint)|row (l:List Sh) (h:Hint)|call (r:vK) (fs:List vK) (h:Hint)|n (h:Hint)
def M0:Sh→(TC→Prop)→Prop
 | .int k,P=> ∃n:Int,P (.sc (.int k n))
 | .bool,P=> ∃b:Bool,P (.sc (.bool b))
 | .str,P=> ∃s:ByteArray,P (.sc (.string s))
 | .sub z,P=> ∃rows:List (List TC),P (.sub z rows)
def Eh:List Sh→(List TC→Prop)→Prop
 |[],P=>P []
 |s::r,P=>M0 s fun c=>Eh r fun cs=>P (c::cs)
def M3:List (Nat×List Sh)→(List (Nat×List TC)→Prop)→Prop
 |[],P=>P []
 |(a,s)::r,P=>Eh s fun c=>M3 r fun cs=>P ((a,c)::cs)
def M4:vK→(TV→Prop)→Prop
 | .c s,P=>M0 s fun c=>P (.c c)
 | .ag l,P=>Eh l fun c=>P (.ag c)
 | .tu l,P=>M3 l fun c=>P (.tu c)
 | .bx l,P=>Eh l fun c=>P (.bx c)
def JJ:List vK→(List TV→Prop)→Prop
 |[],P=>P []
 |s::r,P=>M4 s fun c=>JJ r fun cs=>P (c::cs)
theorem F7: ∀{s:Sh} {P:TC→Prop},M0 s P→ ∃c,P c
 | .int _,_,⟨_,h⟩=>⟨_,h⟩
 | .bool,_,⟨_,h⟩=>⟨_,h⟩
 | .str,_,⟨_,h⟩=>⟨_,h⟩
 | .sub _,_,⟨_,h⟩=>⟨_,h⟩
theorem rD: ∀{l:List Sh} {P:List TC→Prop},Eh l P→ ∃c,P c
 |[],_,h=>⟨_,h⟩
 |_::_,_,h=>by obtain⟨c,h⟩:=F7 h;obtain⟨cs,h⟩:=rD h;exact⟨_,h⟩
theorem F8: ∀{l:List (Nat×List Sh)} {P:List (Nat×List TC)→Prop},M3 l P→ ∃c,P c
 |[],_,h=>⟨_,h⟩
 |(_,_)::_,_,h=>by obtain⟨c,h⟩:=rD h;obtain⟨cs,h⟩:=F8 h;exact⟨_,h⟩
theorem F9: ∀{s:vK} {P:TV→Prop},M4 s P→ ∃c,P c
 | .c _,_,h=>by obtain⟨c,h⟩:=F7 h;exact⟨_,h⟩
 | .ag _,_,h=>by obtain⟨c,h⟩:=rD h;exact⟨_,h⟩
 | .tu _,_,h=>by obtain⟨c,h⟩:=F8 h;exact⟨_,h⟩
 | .bx _,_,h=>by obtain⟨c,h⟩:=rD h;exact⟨_,h⟩
theorem Dp: ∀{l:List vK} {P:List TV→Prop},JJ l P→ ∃c,P c
 |[],_,h=>⟨_,h⟩
 |_::_,_,h=>by obtain⟨c,h⟩:=F9 h;obtain⟨cs,h⟩:=Dp h;exact⟨_,h⟩
def av (b:Bool) (A B:Prop):Prop:=match b with|true=>A|false=>B
def Ev.pre {R:Type} (cf:Cf) (lp:Lp) (Q:R→Prop):Ev R→Hint→Prop
 | .fail,_=>False
 | .ret r,_=>Q r
 | .test b k,h=>match h with| .br h1 h2=>av b ((k true).pre cf lp Q h1) ((k false).pre cf lp Q h2)|_=>False
 | .row rows i k,h=>match h with| .row l h=>Eh l fun c=>rowAt rows i=some c∧(k c).pre cf lp Q h|_=>False
 | .byte s i k,h=>match h with| .n h=> ∃b,hD s i=some b∧(k b).pre cf lp Q h|_=>False
 | .bytes rows k,h=>match h with| .n h=> ∃ns,aJ rows=some ns∧(k ns).pre cf lp Q h|_=>False
 | .call f vs k,h=>match h with| .call r fs h=>M4 r fun r=>JJ fs fun fs=>cf f vs r fs∧(k r fs).pre cf lp Q h|_=>False
 | .loop f i c st k,_=>lp f i c st fun x st'=>(k x st').holds cf lp Q
 | .both a b,h=>match h with| .both h1 h2=> ∃r,a.pre cf lp (fun r'=>r'=r) h1∧b.pre cf lp (fun r'=>r'=r) h2∧Q r| .nest h1 h2=>a.pre cf lp (fun r=>b.pre cf lp (fun r'=>r'=r) h2∧Q r) h1|_=>False
theorem iz {R:Type} {fx:List Nat} {n:Nat} {Q:R→Prop}: ∀(e:Ev R),e.holds (aq C) (wP C fx n) Q→ ∃r,e.holds (aq C) (wP C fx n) (fun r'=>r'=r)∧Q r
 | .fail,h=>h.elim
 | .ret r,h=>⟨r,rfl,h⟩
 | .test b k,h=>iz (k b) h
 | .row rows i k,⟨c,h1,h2⟩=>by obtain⟨r,h3,h4⟩:=iz (k c) h2;exact⟨r,⟨c,h1,h3⟩,h4⟩
 | .byte rows i k,⟨c,h1,h2⟩=>by obtain⟨r,h3,h4⟩:=iz (k c) h2;exact⟨r,⟨c,h1,h3⟩,h4⟩
 | .bytes rows k,⟨c,h1,h2⟩=>by obtain⟨r,h3,h4⟩:=iz (k c) h2;exact⟨r,⟨c,h1,h3⟩,h4⟩
 | .call f vs k,⟨r0,fs,h1,h2⟩=>by obtain⟨r,h3,h4⟩:=iz (k r0 fs) h2;exact⟨r,⟨r0,fs,h1,h3⟩,h4⟩
 | .loop f i c st k,h=>by
   cases n with
   |zero=>exact h.elim
   |succ n=>
    obtain⟨k0,m,x,st',h1,h2⟩:=h;obtain⟨r,h3,h4⟩:=iz (k x st') h2;exact⟨r,⟨k0,m,x,st',h1,h3⟩,h4⟩
 | .both a b,⟨r,h1,h2,h3⟩=>⟨r,⟨r,h1,h2,rfl⟩,h3⟩
theorem iA {R:Type} {fx:List Nat} {n:Nat} {Q:R→Prop}: ∀(e:Ev R) (h:Hint),e.pre (aq C) (wP C fx n) Q h→e.holds (aq C) (wP C fx n) Q
 | .fail,_,h=>h
 | .ret r,_,h=>h
 | .test b k,.br h1 h2,h=>by
   cases b
   ·exact iA (k false) h2 h
   ·exact iA (k true) h1 h
 | .row rows i k,.row l hh,h=>by obtain⟨c,h1,h2⟩:=rD h;exact⟨c,h1,iA _ _ h2⟩
 | .byte s i k,.n hh,⟨b,h1,h2⟩=>⟨b,h1,iA _ _ h2⟩
 | .bytes s k,.n hh,⟨b,h1,h2⟩=>⟨b,h1,iA _ _ h2⟩
 | .call f vs k,.call r fs hh,h=>by obtain⟨r,h⟩:=F9 h;obtain⟨fs,h1,h2⟩:=Dp h;exact⟨r,fs,h1,iA _ _ h2⟩
 | .loop f i c st k,_,h=>h
 | .both a b,.both ha hb,⟨r,h1,h2,h3⟩=>⟨r,iA a ha h1,iA b hb h2,h3⟩
 | .both a b,.nest ha hb,h=>by
   obtain⟨r,h1,h2,h3⟩:=iz a (iA a ha h);exact⟨r,h1,iA b hb h2,h3⟩
inductive wQ where
 |l|r|b
def Cl:Code→List wQ→Code
 |c,[]=>c
 | .seq a b,d::p=>match d with| .l=>Cl a p|_=>Cl b p
 | .cond _ a b,d::p=>match d with| .l=>Cl a p|_=>Cl b p
 | .block _ a,_::p=>Cl a p
 | .loop a,_::p=>Cl a p
 |c,_=>c
def IJ (C:dW) (f:FuncId):Code:=match C.P.funcs[f]? with
 |none=> .skip
 |some fn=>match fn.body with
  |none=> .skip
  |some c=>c
def M5 (C:dW) (f:FuncId):List ResultVar:=match C.P.funcs[f]? with
 |none=>[]
 |some fn=>fn.results.toList
def Cm (C:dW) (f:FuncId) (p:List wQ):Code:=match Cl (IJ C f) p with
 | .loop c=>c
 |c=>c
def after (C:dW) (fx:List Nat) (f:FuncId) {R:Type}:Nat→Code→List wQ→(TX→TS→Ev R)→(TX→TS→Ev R)
 |i,.seq a b,d::p,K=>match d with
  | .l=>after C fx f i a p fun x st'=>match x with
    | .norm=>run C fx f i b st' K
    |x=>K x st'
  |_=>after C fx f i b p K
 |i,.cond _ a b,d::p,K=>match d with
  | .l=>after C fx f i a p K
  |_=>after C fx f i b p K
 |_,.block id a,_::p,K=>after C fx f id a p fun x st'=>match x with
  | .ex id'=>match Nat.beq id' id with|true=>K .norm st'|false=>K (.ex id') st'
  |x=>K x st'
 |_,_,_,K=>K
abbrev Ga (C:dW) (f:FuncId):List Nat:=uX (C.sig f)
def Gb (C:dW) (f:FuncId) (p:List wQ):TX→TS→Ev (TV×List TV):=after C (Ga C f) f 0 (IJ C f) p (E7 C (C.sig f) (M5 C f))
def dn (C:dW) (f:FuncId) (p:List wQ) (n i:Nat) (st:TS) (Q:TX→TS→Prop):Prop:=wP C (Ga C f) n f i (Cm C f p) st Q
def jy (C:dW) (f:FuncId) (p:List wQ) (x:TX) (st:TS) (Q:TV→List TV→Prop):Prop:=(Gb C f p x st).holds (aq C) (wP C (Ga C f) 4) fun p=>Q p.1 p.2
def K1 (C:dW) (f:FuncId) (p:List wQ) (n i:Nat) (Q:TX→TS→Prop):TX×TS→Prop
 |(.norm,st')=>DS (Ai (C.lb f i) st') fun st'=>dn C f p n i st' Q
 |(x,st')=>Q x st'
theorem K2 {f:FuncId} {vs:List TV} {Q:TV→List TV→Prop} {Φ:Prop} (h:Hint) (e:(body C f vs).pre (aq C) (wP C (Ga C f) 4) (fun p=>Q p.1 p.2) h=Φ) (hΦ:Φ) (hx:C.ext f=none:=by rfl):bR C f vs Q:=
 bR.F6 (iA _ h (e▸hΦ)) hx
theorem JK {f:FuncId} {p:List wQ} {x:TX} {st:TS} {Q:TV→List TV→Prop} {Φ:Prop} (h:Hint) (e:(Gb C f p x st).pre (aq C) (wP C (Ga C f) 4) (fun p=>Q p.1 p.2) h=Φ) (hΦ:Φ):jy C f p x st Q:=
 iA _ h (e▸hΦ)
theorem JL {f:FuncId} {p:List wQ} {n i:Nat} {st:TS} {Q:TX→TS→Prop} {Φ:Prop} (h:Hint) (e:(run C (Ga C f) f i (Cm C f p) st xD).pre (aq C) (wP C (Ga C f) n) (K1 C f p (n+1) i Q) h=Φ) (hΦ:Φ):dn C f p (n+1) i st Q:=by
 refine wP.round ?_;have:=iA _ h (e▸hΦ);exact bS (fun _ _ _ _ h=>h) (fun f i c st Q Q' hQ hh=>hh.mono hQ) (fun r hr=>by obtain⟨x,st'⟩:=r;cases x<;>exact hr) _ this
theorem bR.run {f:FuncId} {vs:List TV} {r:TV} {fs:List TV} (h:bR C f vs fun r' fs'=>r'=r∧fs'=fs):aq C f vs r fs:=by
 obtain⟨r',fs',h1,rfl,rfl⟩:=h;exact h1
end Go.T
namespace Go.T
@[simp] theorem rE {A B:Prop}:av true A B=A:=rfl
@[simp] theorem rF {A B:Prop}:av false A B=B:=rfl
@[simp] theorem rG {b:Bool} {A B:Prop}:av (!b) A B=av b B A:=by cases b<;>rfl
@[simp] theorem Mg {a b:Bool} {A B:Prop}:av (a&&b) A B=av a (av b A B) B:=by cases a<;>rfl
@[simp] theorem M6 {a b:Bool} {A B:Prop}:av (a||b) A B=av a A (av b A B):=by cases a<;>rfl
@[simp] theorem rH {p:Prop} [Decidable p] {A B:Prop}:av (decide p) A B=if p then A else B:=by
  by_cases h:p<;>simp[h]
theorem ax {b:Bool} {A B:Prop} (h:b=true) (hA:A):av b A B:=by subst h;exact hA
theorem aU {b:Bool} {A B:Prop} (h:b=false) (hB:B):av b A B:=by subst h;exact hB
theorem aN {b:Bool} {A B:Prop} (hA:b=true→A) (hB:b=false→B):av b A B:=by cases b;exact hB rfl;exact hA rfl
@[simp] theorem M7 (a b:Int):qe a b=decide (a<b):=by unfold qe;rfl
@[simp] theorem vL (a b:Int):ux a b=decide (a≤b):=by unfold ux;rfl
@[simp] theorem Cn (a b:Int):bM a b=decide (a=b):=by unfold bM;by_cases h:a=b<;>simp[h]
@[simp] theorem M8 (a b:Bool):BC a b=decide (a=b):=by unfold BC;cases a<;>cases b<;>rfl
theorem Ei {a b:ByteArray} (h:a.toList=b.toList):a=b:=by
 rw[ByteArray.toList_eq,ByteArray.toList_eq] at h;obtain⟨⟨x⟩⟩:=a;obtain⟨⟨y⟩⟩:=b;simp only at h;rw[h]
@[simp] theorem Co (a b:ByteArray):di a b=decide (a=b):=by
  unfold di
  by_cases h:a=b
  ·subst h;simp
  ·have:a.toList≠b.toList:=fun e=>h (Ei e)
   simp[h,this]
@[simp] theorem HH (n b:Nat):fits n b=decide (n*b≤140737488355328∧n≤140737488355328):=by unfold fits;rfl
@[simp] theorem Mh (n:Int):qJ n=n.toNat:=by unfold qJ;rfl
@[simp] theorem K3 (a b:Int):qK a b=a+b:=by unfold qK;rfl
@[simp] theorem Mi (a b:Int):ER a b=if b<a then b else a:=by unfold ER;rfl
theorem HI {a b:Int} (h: -9223372036854775808≤a+b∧a+b≤9223372036854775807):BH .i64 a b=a+b:=by unfold BH;exact IntWalk.i64_in _ h
theorem HJ {a b:Int} (h: -9223372036854775808≤a-b∧a-b≤9223372036854775807):uQ .i64 a b=a-b:=by unfold uQ;exact IntWalk.i64_in _ h
theorem zn {a b:Int} (h: -9223372036854775808≤a*b∧a*b≤9223372036854775807):BI .i64 a b=a*b:=by unfold BI;exact IntWalk.i64_in _ h
@[simp] theorem Dq (a b:Int):BJ a b=a.tmod b:=by unfold BJ;rfl
section
variable {C : dW}
end
section
variable {tt : TypeId → dj} {t : TypeId} {cs : List TC}
theorem sL.HK {k:IntKind} (ht:(tt t).ti= .int k) (h:sL tt t cs): ∃n,cs=[.sc (.int k n)]∧(Lit.int k n).wf=true:=by
 cases h with
 |int h1 h2=>rw[ht] at h1;cases h1;exact⟨_,rfl,h2⟩
 |bool h1=>rw[ht] at h1;cases h1
 |str h1 _=>rw[ht] at h1;cases h1
 |slice h1 _ _ _=>rw[ht] at h1;cases h1
 |struct h1 _ _ _=>rw[ht] at h1;cases h1
theorem K4 {n:Int} (h:(Lit.int .u8 n).wf=true):0≤n∧n≤255:=by
 simp only[Lit.wf,cm,decide_eq_true_eq] at h;have h1:IntKind.u8.min=0:=rfl;have h2:IntKind.u8.max=255:=rfl;omega
theorem sL.Ej {e:TypeId} (ht:(tt t).ti= .slice e) (h:sL tt t cs): ∃rows,cs=[.sub (tt e).size rows]∧(∀r∈rows,sL tt e r)∧rows.length*(tt e).bytes≤reachBytes:=by
 cases h with
 |int h1 h2=>rw[ht] at h1;cases h1
 |bool h1=>rw[ht] at h1;cases h1
 |str h1 h2=>rw[ht] at h1;cases h1
 |slice h1 rows h2 h3=>rw[ht] at h1;cases h1;exact⟨_,rfl,h2,h3⟩
 |struct h1 _ _ _=>rw[ht] at h1;cases h1
inductive zo (tt:TypeId→dj):List (Nat×TypeId)→List TC→Prop
 |nil:zo tt [] []
 |cons {p:Nat×TypeId} {fs:List (Nat×TypeId)} {q cs:List TC} (h:sL tt p.2 q) (hs:zo tt fs cs):zo tt (p::fs) (q++cs)
theorem vM {α:Type} {e:α→List TC} {W:α→Prop}: ∀{rows:List (List TC)},(∀r∈rows,∃a,r=e a∧W a)→ ∃l:List α,rows=l.map e∧ ∀a∈l,W a
 |[],_=>⟨[],rfl,fun a h=>by cases h⟩
 |r::rows,h=>by
  obtain⟨a,rfl,ha⟩:=h r (.head _);obtain⟨l,rfl,hl⟩:=vM (rows:=rows) fun r hr=>h r (.tail _ hr);refine⟨a::l,rfl,fun b hb=> ?_⟩;rcases bg.1 hb with rfl|hb
  ·exact ha
  ·exact hl b hb
end
end Go.T
namespace Go.T
open Go.RowKit
variable {C : dW}
section
variable {H : Type} {enc : TypeId × Value → H}
theorem AX {P:Program} {W W':World} (hl:laidOutB P=true) (hb:Below W.heap.size W W'): ∀{ts:List TypeId} {vs:List Value} {ds:List (DataW H)} {ps:List MemPlace},ts.all (fun t=>P.readableRec t&&decide (t<P.types.size))=true→DataW.TrodAll enc P W 0 (fun _=>true) true ts vs ds ps→
 DataW.TrodAll enc P W' 0 (fun b=>decide (b<W.heap.size)) true ts vs ds ps
 |[],vs,ds,ps,_,h=>by
  obtain⟨rfl,rfl,rfl⟩:=ChangeShapes.trodAll_nil h;exact ChangeShapes.trodAll_mk0
 |t::ts,vs,ds,ps,hr,h=>by
  obtain⟨v,vs',d,ds',p,q,rfl,rfl,rfl,h1,h2⟩:=ChangeShapes.trodAll_cons h;simp only[uL,cm,decide_eq_true_eq] at hr
  have hlt: ∀x∈p,x.block<W.heap.size:=by obtain⟨n,hn⟩:=h1;exact DataW.trod_lt n _ _ _ hn
  exact trodAll_cons_mk (Below.trod hl hr.1.1 hr.1.2 h1 hb hlt) (AX hl hb hr.2 h2)
theorem tU {P:Program} {W:World}: ∀{ts:List TypeId} {vs:List Value} {ds:List (DataW H)} {ps:List MemPlace},DataW.TrodAll enc P W 0 (fun _=>true) true ts vs ds ps→ds.length=ts.length
 |[],vs,ds,ps,h=>by obtain⟨rfl,rfl,rfl⟩:=ChangeShapes.trodAll_nil h;rfl
 |t::ts,vs,ds,ps,h=>by
  obtain⟨v,vs',d,ds',p,q,rfl,rfl,rfl,h1,h2⟩:=ChangeShapes.trodAll_cons h;simp[tU h2]
theorem Gc (hC:AT C) {f:FuncId} {fn:Func} {s:ChangeSpec} {ts:List TypeId} {tb:TypeId} {m base:Nat} {W:World} {args:Array Value} {ds gs:List (DataW H)} {before:List MemPlace} (Ma:laidOutB C.P=true)
 (hfn:fn.params.toList=ts) (hres:fn.resultTypes= #[tb]) (htb:C.P.underlying tb=some .bool) (hvars:s.vars=[]) (Mb:ts.all (fun t=>C.P.readableRec t&&decide (t<C.P.types.size))=true) (ho:ts.all (K0 C.tt m)=true)
 (hps:(C.sig f).ps=ts.map fun _=> .borrow) (hn:ts.length≤50) (Mc: ∀ds:List (DataW H),ds.length=ts.length→(s.fn H ds).results=[.lit (.bool true)]∧(s.fn H ds).args=ds∧(s.fn H ds).vars=[])
 (law: ∀vs,AV C.tt ts vs→ ∃k,cJ C k f vs (.c (.sc (.bool true))) [])
 (hval: ∀(j:Nat) t v,fn.params[j]?=some t→args[j]?=some v→Value.okWide C.P W .any base t v) (hW:DataW.Whole enc C.P fn.params.toList s.vars false W args.toList ds gs before)
 (hsz:(DataW.weightsEach C.P (fn.params.toList++s.plain.varTypes C.P) (ds++gs)).all (· ≤reachBytes)=true):
 Calls C.P f args W fun e W'=> ∃v,e= .returned v∧s.post enc C.P fn false true false false W args v W':=by
 have Qu:=hW;obtain⟨p,q,hA,hV,rfl,hfz,BA⟩:=hW;rw[hvars] at hV;obtain⟨rfl,rfl⟩:=ChangeShapes.trodVars_none hV
 have Qv:s.plain.varTypes C.P=[]:=by
  unfold ChangeSpec.plain DataSpec.varTypes;rw[hvars];rfl
 rw[Qv,iL,iL,hfn] at hsz;rw[hfn] at hA;refine(Eg hC hA ho (fun j t v h1 h2=>hval j t v (by rw[←hfn] at h1;simpa using h1) h2) hsz hps hn law).mono fun e W' ⟨he,bel⟩=> ?_;subst he;obtain⟨s1,s2,s3⟩:=Mc ds (tU hA);refine⟨_,rfl,ds,[],_,[],p,[],Qu,?_,?_,?_,bel.frame _,fun h=>by cases h⟩
 ·rw[iL,s1,hres]
  exact ChangeShapes.trodAll_mk1 (shut_bool htb _)
 ·rw[iL,s2,hfn]
  exact AX Ma bel Mb hA
 ·rw[iL,s3,hvars]
  rfl
end
end Go.T
