import Derived.Test.YtiinnfilgnhjfaaGreatT4
import Derived.LoopN
import Derived.ChangeArms
import Derived.ChangeSlices
import Derived.WideShapes
import Derived.SizedLaws
import Derived.RowKit
import Derived.ChangeOld
import Derived.Test.YtiinnfilgnhjfaaGreatT1
import Derived.IntWalk
import Derived.Carry
import Derived.OpenShut
set_option linter.all false
namespace Go.T
variable {F : Nat → Prop} {A : Arg} {w0 w w' : World} {φ φ' φ1 : Fp} {st st' sta fR sK : TS} {tm Lo : Array Value} {C : pU}
variable {R : Type} {cf : Cf} {lp : Lp} {Q : R → Prop}
variable {fx : List Nat} {g : Nat → Value} {n : Nat}
def xZ (o:Oper):Bool:=match o.op with| .load _ _=>true|_=>false
def Nj (o:Oper):Bool:=match o.op with| .select _ _=>true|_=>false
def Aq (C:pU) (o:Oper):Bool:=match I5 C o with|true=>true|false=>xZ o
def uz (o:Oper):List Nat:=(o.after.toList.filter (Region.binds .any)).map (·.on)
def aeW:List Nat→List Nat→Bool
 |[],_=>true
 |a::r,l=>match pI a l with|true=>aeW r l|false=>false
def D0 (ops:Array Oper):Nat→Nat→List Nat→List Nat
 |0,_,W=>W
 |k+1,j,W=>match ops[j]? with
  |some o=>match zi (uz o) W with|true=>D0 ops k (j+1) (j::W)|false=>D0 ops k (j+1) W
  |none=>W
def aiY (ops:Array Oper) (W:List Nat) (i:Nat) (oi:Oper) (j:Nat) (oj:Oper):Bool:=
 ((match oj.dst with|some d=> !pI d (oi.looksAt ops)|none=>true)||(!xZ oi&&pI j W))&&
 (pI j W||((match oj.dst with|some d=>(match oi.dst with|some e=> !Nat.beq d e|none=>true)|none=>true)&&
 (pI i (uz oj)||(match oi.dst with|some d=> !pI d (oj.looksAt ops)|none=>true))))
def Vv (ops:Array Oper) (oi:Oper):Bool:=match oi.dst with|some d=> !pI d (oi.looksAt ops)|none=>true
def Vw (f:Nat→Bool):Nat→Bool
 |0=>true
 |k+1=>match f k with|true=>Vw f k|false=>false
theorem D1 {f:Nat→Bool}: ∀{k:Nat},Vw f k=true→ ∀j,j<k→f j=true
 |0,_,j,h=>absurd h an
 |k+1,h,j,hj=>by
  simp only[Vw] at h
  split at h
  ·by_cases e:j=k
   ·subst e;assumption
   ·exact D1 h j an
  ·cases h
def Kk.BM:Kk→List Nat
 | .nil=>[]
 | .op i _ _=>[i]
 | .alt a b=>a.BM++b.BM
def Kk.len:Kk→Nat
 | .nil=>0
 | .op _ _ r=>r.len+1
 | .alt a _=>a.len
def opB (C:pU) (ops:Array Oper) (hs:Option (List Nat)) (S:List Nat) (i:Nat) (fl:List Nat) (o:Oper):Bool:=
 !pI i S&&aeW (uz o) S&& !Nj o&&(match Aq C o with
   |true=>hs.isNone&&Vv ops o&&fL fN (D0 ops ops.size 0 [i]) fun W=>Vw (fun j=>pI j S||Nat.beq j i||(match ops[j]? with|some oj=>aiY ops W i o j oj|none=>true)) ops.size
   |false=>Vw (fun j=>pI j S||Nat.beq j i||pI j (hs.getD [])||(match ops[j]? with|some oj=> !aeW (uz oj) S|none=>true)) ops.size&&
     Vw (fun l=> !pI l S||pI l fl||(match ops[l]? with|some ol=> !xZ ol|none=>true)||pI i (D0 ops ops.size 0 [l])) ops.size)
def jn (C:pU) (ops:Array Oper):Option (List Nat)→List Nat→Kk→Bool
 |none,S,.nil=>Vw (fun j=>pI j S) ops.size
 |some _,_,.nil=>false
 |hs,S,.op i fl r=>match ops[i]? with
  |none=>false
  |some o=>opB C ops hs S i fl o&&jn C ops none (i::S) r
 |hs,S,.alt a b=>jn C ops (some (hs.getD (a.BM++b.BM))) S a&&jn C ops (some (hs.getD (a.BM++b.BM))) S b&&Nat.beq a.len b.len
theorem ak9 {a l:List Nat} (h:aeW a l=true): ∀x∈a,x∈l:=by
 induction a with
 |nil=>intro x hx;cases hx
 |cons y r ih=>
  simp only[aeW] at h
  split at h
  ·intro x hx
   rcases gj.1 hx with rfl|hx
   ·exact nD.1 eg
   ·exact ih h x hx
  ·cases h
theorem ala {a l:List Nat} (h: ∀x∈a,x∈l):aeW a l=true:=by
 induction a with
 |nil=>rfl
 |cons y r ih=>
  simp only[aeW,nD.2 (h y (.head _))];exact ih fun x hx=>h x (.tail _ hx)
def YN (P:Program) (ops:Array Oper) (o:Oper) (v:Value) (a:Act) (w:World):Prop:=
 (Region.wanted o (yielded ops a.tmps)=true∧(execOp a.eval o).run P w= .ok (.value v) w)∨(Region.wanted o (yielded ops a.tmps)=false∧v=undef)
def Kp (C:pU) (ops:Array Oper) (o:Oper) (v:Value) (a:Act) (w:World):Prop:=
 (Region.wanted o (yielded ops a.tmps)=false∧v=undef)∨(Region.wanted o (yielded ops a.tmps)=true∧
   ((∀w,(execOp a.eval o).run C.P w= .ok (.value v) w)∨ ∃t x ad vs,o.op= .load t x∧a.eval x= .pointer (some ad)∧known (C.tt t)=true∧vs.length=(C.tt t).size∧(∀(j:Nat) (u:Value),vs[j]?=some u→w.cell? (ad.add j)=some u)∧v=valOf (C.tt t) vs))
theorem Kp.yn (hT:iY C) {ops:Array Oper} {o:Oper} {v:Value} {a:Act} (h:Kp C ops o v a w):YN C.P ops o v a w:=by
 rcases h with⟨h1,h2⟩|⟨h1,h2|⟨t,x,ad,vs,ho,hx,hk,hl,hc,rfl⟩⟩
 ·exact .inr ⟨h1,h2⟩
 ·exact .inl ⟨h1,h2 w⟩
 ·refine .inl ⟨h1,?_⟩
  have:=Fa (hT t hk) w ad vs hl hc;unfold execOp;rw[ho];simp only[hx,Instr.loadAt,Instr.sureAddr,Sem.run_bind,Sem.run_pure,Result.andThen];rw[this]
  rfl
theorem Kp.same {ops:Array Oper} {o:Oper} {v:Value} {a a':Act} (h:Kp C ops o v a w) (he:execOp a'.eval o=execOp a.eval o) (hx: ∀t x,o.op= .load t x→a'.eval x=a.eval x) (hw:Region.wanted o (yielded ops a'.tmps)=Region.wanted o (yielded ops a.tmps)):Kp C ops o v a' w:=by
 unfold Kp at*;rw[hw,he];rcases h with h|⟨h1,h2|⟨t,x,ad,vs,ho,hx',hr⟩⟩
 ·exact .inl h
 ·exact .inr ⟨h1,.inl h2⟩
 ·exact .inr ⟨h1,.inr ⟨t,x,ad,vs,ho,(hx t x ho).trans hx',hr⟩⟩
theorem Kp.world (hT:iY C) {ops:Array Oper} {o:Oper} {v:Value} {a:Act} (h:Kp C ops o v a w) (hw: ∀t x ad,o.op= .load t x→a.eval x= .pointer (some ad)→Region.wanted o (yielded ops a.tmps)=true→ad.block<w.heap.size→w'.heap[ad.block]?=w.heap[ad.block]?):Kp C ops o v a w':=by
 rcases h with h|⟨h1,h2|⟨t,x,ad,vs,ho,hx,hk,hl,hc,hv⟩⟩
 ·exact .inl h
 ·exact .inr ⟨h1,.inl h2⟩
 ·refine .inr ⟨h1,.inr ⟨t,x,ad,vs,ho,hx,hk,hl,fun j u hj=> ?_,hv⟩⟩
  have hcj:=hc j u hj;have hlt:=World.block_lt_of_cell? w _ hcj;rw[dm] at hlt;rw[iy (w:=w) (by rw[dm];exact hw t x ad ho hx h1 hlt)];exact hcj
theorem aeX (hT:iY C) {a:Act} (h:bD F A w0 φ st a.tmps w) {t:TypeId} {x:Operand} {K:TE→Ev R} (hk:(KW C st t (xq C st 0 x) K).holds cf lp Q):
 ∃(ad:Addr) (vs:List Value),a.eval x= .pointer (some ad)∧known (C.tt t)=true∧vs.length=(C.tt t).size∧ ∀(j:Nat) (u:Value),vs[j]?=some u→w.cell? (ad.add j)=some u:=by
 have ht:=gv hT h 0 x
 have fin: ∀(ad:Addr) (xs:List CE) (K:TE→Ev R),a.eval x= .pointer (some ad)→(∀(j:Nat) (e:CE),xs[j]?=some e→ ∃u,w.cell? (ad.add j)=some u)→(KV C t xs K).holds cf lp Q→
  ∃(ad:Addr) (vs:List Value),a.eval x= .pointer (some ad)∧known (C.tt t)=true∧vs.length=(C.tt t).size∧ ∀(j:Nat) (u:Value),vs[j]?=some u→w.cell? (ad.add j)=some u:=by
  intro ad xs K hv hx hk;unfold KV at hk
  split at hk
  ·rename_i hkn hl
   obtain⟨vs,h1,h2⟩:=M4 (Pr:=fun j (e:CE) u=>w.cell? (ad.add j)=some u) xs 0 (fun j e he=>by rw[nB];exact hx j e he);refine⟨ad,vs,hv,hkn,by rw[h1];exact kD hl,fun j u hj=> ?_⟩
   have hlt:j<xs.length:=by rw[←h1];exact(List.getElem?_eq_some_iff.1 hj).1
   obtain⟨u',g1,g2⟩:=h2 j xs[j] (cw hlt);rw[hj] at g1;cases g1;rw[nB] at g2;exact g2
  ·exact hk.elim
 cases he:xq C st 0 x with
 |bp b off=>
  rw[he] at ht hk;simp only[KW] at hk
  split at hk
  ·rename_i cs hb
   refine fin _ _ _ ht (fun j e he=> ?_) hk;have he:=iz he;rw[uw] at he;obtain⟨u,g1,g2⟩:=h.box b cs hb _ e he;exact⟨u,by rw[Addr.add_add];exact g1⟩
  ·exact hk.elim
 |ep ds cells=>
  rw[he] at ht hk;simp only[KW] at hk;obtain⟨hd,ad,hv,hr,hc⟩:=ht;refine fin ad _ _ hv (fun j e he=> ?_) hk;obtain⟨tc,g1,rfl⟩:=ym _ _ _ _ _ _ he;obtain⟨u,g2,g3⟩:=hc j tc (iz g1);exact⟨u,g2⟩
 |er o path i f=>
  rw[he] at ht hk;simp only[KW] at hk;obtain⟨ad,cells,hv,hr,hc,hk,hl⟩:=U9 h.obj ht hk;refine fin ad _ _ hv (fun j e he=> ?_) hk;obtain⟨tc,g1,rfl⟩:=ym _ _ _ _ _ _ he;obtain⟨u,g2,g3⟩:=hc j tc (iz g1);exact⟨u,g2⟩
 |_=>rw[he] at hk;exact hk.elim
theorem O0 (hT:iY C) {a:Act} (h:bD F A w0 φ st a.tmps w) {ops:Array Oper} {o:Oper}: ∀{fl:List Nat},IW C ops st o fl=true→ ∀l∈fl,∀ol,ops[l]?=some ol→ ∀t x ad,ol.op= .load t x→a.eval x= .pointer (some ad)→Region.wanted ol (yielded ops a.tmps)=true→
 ¬Wr st φ (writes C st o) ad.block
 |[],_,l,hl,_,_,_,_,_,_,_,_=>by cases hl
 |l0::r,hf,l,hl,ol,hol,t,x,ad,ho,hx,hw=>by
  simp only[IW] at hf
  split at hf
  ·rename_i ol0 amp
   split at hf
   ·rename_i Kj
    rcases gj.1 hl with rfl|hl
    ·exfalso
     rw[hol] at amp;cases amp;unfold amw at Kj
     split at Kj
     ·cases Kj
     ·rename_i j want hg
      split at Kj
      ·rename_i oj hj
       split at Kj
       ·rename_i tt ht
        split at Kj
        ·rename_i b hb
         have hv:=h.tmp tt;rw[hb] at hv;have hy:=LD hj ht hv;unfold Region.wanted at hw;rw[hg] at hw;simp only[hy] at hw
         split at Kj
         ·cases hw
         ·cases hw
         ·cases Kj
        ·rename_i hb
         have hv:=h.tmp tt;rw[hb] at hv;have hy:=Vu hj ht (af4 hv);unfold Region.wanted at hw;rw[hg] at hw;simp only[hy] at hw
         cases hw
        ·cases Kj
       ·cases Kj
      ·cases Kj
    ·exact O0 hT h hf l hl ol hol t x ad ho hx hw
   ·split at hf
    ·rename_i rdl hrd
     split at hf
     ·cases hf
     ·rename_i agz
      rcases gj.1 hl with rfl|hl
      ·rw[hol] at amp;cases amp
       have agz:=fun {y} (hy:y∈rdl)=>wg agz hy;have ht:=gv hT h 0 x
       have obj: ∀{oo k},2*oo∈rdl→aT st.ob oo→φ.S oo k→ ¬Wr st φ (writes C st o) k:=fun {oo k} hm hd hS hwr=>by
        rcases hwr with⟨b,cs,b1,b2,b3,b4⟩|⟨o2,o1,o3,o4⟩
        ·exact h.rY hd hS b2 b4.symm
        ·have:=h.sep.apart oo o2 k hd o3 hS o4
         subst this;exact agz hm o1
       have roI: ∀{k},φ.I k→ ¬Wr st φ (writes C st o) k:=fun {k} hI hwr=>by
        rcases hwr with⟨b,cs,b1,b2,b3,b4⟩|⟨o2,o1,o3,o4⟩
        ·subst b4;exact(h.sep.box b cs b2 b3).1 hI
        ·exact h.sep.read o2 k o3 o4 hI
       have arg: ∀{k},φ.S 0 k→ ¬Wr st φ (writes C st o) k:=fun {k} hS hwr=>by
        rw[h.sep.arg] at hS;have hc:=h.sep.qQ k hS;rcases hwr with⟨b,cs,b1,b2,b3,b4⟩|⟨o2,o1,o3,o4⟩
        ·subst b4
         rcases (h.sep.box b cs b2 b3).2.2.1 with h3|h3
         ·omega
         ·exact hc.2 h3
        ·rcases (h.sep.fresh o2 k o3 o4).2 with h3|h3
         ·omega
         ·exact hc.2 h3
       unfold aib at hrd;rw[ho] at hrd;simp only at hrd
       split at hrd
       ·rename_i b off he
        rw[he] at ht
        split at hrd
        ·rename_i cs hb
         cases hrd
         have ht:a.eval x= .pointer (some ((φ.β b).add off)):=ht;rw[hx] at ht
         cases ht
         rw[dm];intro hwr;rcases hwr with⟨b',cs',b1,b2,b3,b4⟩|⟨o2,o1,o3,o4⟩
         ·by_cases Xn:b=b'
          ·subst Xn;exact agz (.head _) b1
          ·exact(h.sep.box b' cs' b2 b3).2.2.2 b cs hb Xn b4
         ·exact h.rY o3 o4 hb rfl
        ·cases hrd
       ·rename_i ds c0 cells he
        rw[he] at ht
        cases hrd
        obtain⟨hd,ad',hv,hr,_⟩:=ht;rw[hx] at hv
        cases hv
        rcases hr dh with hI|⟨d,hm,hS⟩
        ·exact roI hI
        ·rcases hd d hm with rfl|hdd
         ·exact arg hS
         ·exact obj (List.mem_map.2 ⟨d,hm,rfl⟩) hdd hS
       ·rename_i oo i f he
        rw[he] at ht
        cases hrd
        obtain⟨b,hb,_,ad0,n0,c0,hV,hp⟩:=ht;have hp:a.eval x= .pointer (some (ad0.add (i.toNat*b.z+f))):=hp;rw[hx] at hp
        cases hp
        rw[dm];have hO:=h.obj oo b hb;unfold rX at hO;rw[hV] at hO;refine obj (.head _) ⟨b,hb⟩ ?_
        cases hO with
        |sub _ _ _ _ _ _ u T k hn=>exact(k.own (by unfold OB.m;split<;>simp)).2 ad0 rfl|>.1
       ·rename_i oo q i f he
        rw[he] at ht
        split at hrd
        ·rename_i z rows hb
         cases hrd
         obtain⟨b,hb',_,ad0,n0,c0,hV,hp⟩:=ht;rw[hb] at hb';cases hb';obtain⟨i0,f0⟩:=q;obtain⟨_,z1,u6,hat,ad1,n1,c1,hcell,hp⟩:=hp;rw[hx] at hp
         cases hp
         rw[dm];have hO:=h.obj oo _ hb;unfold rX at hO;rw[hV] at hO;refine obj (.head _) ⟨_,hb⟩ ?_
         cases hO with
         |sub _ _ _ _ _ _ u T k hn=>
          have hin:=hn _ _ _ hat;have hu:=k.cell ad0 rfl _ _ _ hat;rw[hcell] at hu;simp only[aY] at hu;rw[←hu] at hin
          have:T i0.toNat f0 ad1.block:=by
           cases hin with
           |sub _ _ _ _ _ _ u' T' k' hn'=>exact(k'.own (by simp[OB.m,Mode.nx])).2 ad1 rfl|>.1
          exact(k.sO rfl _ _ _ this).1
        ·cases hrd
       ·cases hrd
      ·exact O0 hT h hf l hl ol hol t x ad ho hx hw
    ·cases hf
  ·cases hf
theorem aeY (hC:COk C) {fl:List Nat} {ops:Array Oper} {a:Act} (hi:Inv F A w0 fx g n st a w) {o:Oper} (hdB:Vr n o=true) (hq:Aq C o=true) {K:TS→Ev R} (hk:(guarded C fx fl ops st o K).holds cf lp Q):
 ∃v st',Kp C ops o v a w∧Inv F A w0 fx g n st' (a.put o.dst v) w∧(K st').holds cf lp Q:=by
 obtain⟨⟨φ,h⟩,aku,akv,hsz⟩:=hi;obtain⟨hok,hc⟩:=Dq h hk;have mk: ∀{st' v},Rel F A w0 st' (a.put o.dst v).tmps w→Inv F A w0 fx g n st' (a.put o.dst v) w:=fun hr=>⟨hr,aa9 hok aku _,by rw[put_defers];exact akv,by rw[Ni];exact hsz⟩;rcases hc with⟨hw,fR,h1,_,Ki⟩|⟨hw,fR,h1,Ki⟩
 ·have hpure:(ZM C fR o K).holds cf lp Q:=by
   unfold Aq I5 xZ at hq;unfold sV at Ki
   split at Ki
   ·rename_i e;rw[e] at hq;cases hq
   ·rename_i e;rw[e] at hq;cases hq
   ·rename_i e;rw[e] at hq;cases hq
   ·rename_i e;rw[e] at hq;cases hq
   ·rename_i e;rw[e] at hq;cases hq
   ·rename_i src dst x e
    rw[e] at hq;simp only at hq
    split at Ki
    ·rename_i et h1 h2
     rw[h1,h2] at hq
     cases hq
    ·exact Ki
   ·rename_i e;rw[e] at hq;cases hq
   ·rename_i e;rw[e] at hq;cases hq
   ·rename_i e;rw[e] at hq;cases hq
   ·rename_i e;rw[e] at hq;cases hq
   ·exact Ki
  unfold ZM at hpure
  split at hpure
  ·rename_i d hd
   obtain⟨v,e,g1,g2,g3,g4⟩:=acG hC.ty h1 hpure;refine⟨v,_,.inr ⟨hw,?_⟩,mk ⟨φ,?_⟩,g3⟩
   ·cases hb:I5 C o with
    |true=>exact .inl (g4 hb)
    |false=>
     right;unfold Aq at hq;rw[hb] at hq;unfold xZ at hq;simp only at hq
     split at hq
     ·rename_i t x ho
      unfold kE at hpure;rw[ho] at hpure;obtain⟨ad,vs,l1,l2,l3,l4⟩:=aeX hC.ty h1 hpure;refine⟨t,x,ad,vs,ho,l1,l2,l3,l4,?_⟩;have hr:=Fa (hC.ty t l2) w ad vs l3 l4
      have:(execOp a.eval o).run C.P w= .ok (.value (valOf (C.tt t) vs)) w:=by
       unfold execOp;rw[ho];simp only[l1,Instr.loadAt,Instr.sureAddr,Sem.run_bind,Sem.run_pure,Result.andThen];rw[hr]
       rfl
      rw[g1] at this
      cases this
      rfl
     ·cases hq
   ·rw[hd]
    refine h1.Xw ?_ g2;unfold Vr at hdB;rw[hd] at hdB;have hdB:Nat.ble (d+1) n=true:=hdB;exact mq (show d<n from wI hdB) hsz
  ·exact hpure.elim
 ·exact⟨undef,fR,.inl ⟨hw,rfl⟩,mk ⟨φ,h1⟩,Ki⟩
theorem acU (hC:COk C) (KR:Vs C cf) {fl:List Nat} {ops:Array Oper} {a:Act} (hi:Inv F A w0 fx g n st a w) {o:Oper} (hdB:Vr n o=true) {K:TS→Ev R} (hk:(guarded C fx fl ops st o K).holds cf lp Q) {Kc:Act→World→Prop} {Qc:Exit→Act→World→Prop}
 (hK: ∀st' v w',Inv F A w0 fx g n st' (a.put o.dst v) w'→(K st').holds cf lp Q→(∀l∈fl,∀ol,ops[l]?=some ol→ ∀t x ad,ol.op= .load t x→a.eval x= .pointer (some ad)→Region.wanted ol (yielded ops a.tmps)=true→ad.block<w.heap.size→w'.heap[ad.block]?=w.heap[ad.block]?)→Kc (a.put o.dst v) w'):
 if Region.wanted o (yielded ops a.tmps) then o.wp C.P a w Kc Qc else Kc (a.put o.dst undef) w:=by
 obtain⟨⟨φ,h⟩,aku,akv,hsz⟩:=hi;obtain⟨hok,hc⟩:=Dq h hk;have mk: ∀{st' v w'},Rel F A w0 st' (a.put o.dst v).tmps w'→Inv F A w0 fx g n st' (a.put o.dst v) w':=fun hr=>⟨hr,aa9 hok aku _,by rw[put_defers];exact akv,by rw[Ni];exact hsz⟩;rcases hc with⟨hw,fR,h1,hfl,Ki⟩|⟨hw,fR,h1,Ki⟩
 ·rw[aJ hw]
  exact acT hC KR h1 (fun d hd=>by
   unfold Vr at hdB;rw[hd] at hdB;have hdB:Nat.ble (d+1) n=true:=hdB
   exact mq (show d<n from wI hdB) hsz) Ki fun st' v w' hr hk' _ hfr=>hK st' v w' (mk hr) hk' fun l hl ol hol t x ad ho hx hwo hlt=>hfr _ hlt (O0 hC.ty h1 hfl l hl ol hol t x ad ho hx hwo)
 ·rw[aF (by rw[hw];exact Bool.false_ne_true)]
  exact hK fR undef w (mk ⟨φ,h1⟩) Ki fun _ _ _ _ _ _ _ _ _ _ _=>rfl
end Go.T
namespace Go.T
variable {F : Nat → Prop} {A : Arg} {w0 w w' : World} {φ φ' φ1 : Fp} {st st' sta fR sK : TS} {tm Lo : Array Value} {C : pU}
variable {R : Type} {cf : Cf} {lp : Lp} {Q : R → Prop}
variable {fx : List Nat} {g : Nat → Value} {n : Nat} {ops : Array Oper}
structure Pe where
 i:Nat
 o:Oper
 v:Value
def xN:List Pe→Act→Act
 |[],a=>a
 |p::r,a=>xN r (a.put p.o.dst p.v)
def F4 (C:pU) (ops:Array Oper):List Pe→Act→World→Prop
 |[],_,_=>True
 |p::r,a,w=>Kp C ops p.o p.v a w∧F4 C ops r (a.put p.o.dst p.v) w
inductive BN (ops:Array Oper) (i:Nat):Nat→Prop
 |base {j:Nat} {o:Oper} (h:ops[j]?=some o) (hd:i∈uz o):BN ops i j
 |step {j d:Nat} {o:Oper} (h:ops[j]?=some o) (hd:d∈uz o) (hw:BN ops i d):BN ops i j
theorem BO {i:Nat}: ∀(k j:Nat) (W:List Nat),(∀x∈W,x=i∨BN ops i x)→ ∀x∈D0 ops k j W,x=i∨BN ops i x
 |0,_,W,h=>h
 |k+1,j,W,h=>by
  simp only[D0]
  split
  ·rename_i o ho
   split
   ·rename_i hm
    refine BO k (j+1) _ fun x hx=> ?_;rcases gj.1 hx with rfl|hx
    ·obtain⟨d,h1,h2⟩:=Lx hm
     rcases h d h2 with rfl|hw
     ·exact .inr (.base ho h1)
     ·exact .inr (.step ho h1 hw)
    ·exact h x hx
   ·exact BO k (j+1) W h
  ·exact h
theorem BN.listed {listed:Array Bool} (hcl: ∀(j:Nat) (oj:Oper),listed.getD j false=true→ops[j]?=some oj→ ∀d∈uz oj,listed.getD d false=true) {i j:Nat} (h:BN ops i j):(∀o,ops[j]?=some o→ ∀d∈uz o,listed.getD d false=true)→listed.getD i false=true:=by
 induction h with
 |base h hd=>exact fun hh=>hh _ h _ hd
 |step h hd hw ih=>exact fun hh=>ih fun o ho d hdd=>hcl _ o (hh _ h _ hd) ho d hdd
def af5 (ops:Array Oper) (oi oj:Oper):Prop:=(∀d,oj.dst=some d→d∉oi.looksAt ops)∧(∀d,oi.dst=some d→oj.dst≠some d)∧ ∀d,oi.dst=some d→d∉oj.looksAt ops
def Vx (ops:Array Oper) (i:Nat) (oi:Oper) (j:Nat) (oj:Oper):Prop:=((∀d,oj.dst=some d→d∉oi.looksAt ops)∨(xZ oi=false∧BN ops i j))∧
 (BN ops i j∨((∀d,oi.dst=some d→oj.dst≠some d)∧(i∈uz oj∨ ∀d,oi.dst=some d→d∉oj.looksAt ops)))
theorem Vx.now {i j:Nat} {oi oj:Oper} (h:Vx ops i oi j oj) (hj:ops[j]?=some oj) (hn: ¬BN ops i j):af5 ops oi oj:=by
 obtain⟨h1,h2⟩:=h;obtain⟨h3,h4⟩:=h2.resolve_left hn;exact⟨h1.resolve_right fun h=>hn h.2,h3,h4.resolve_left fun h=>hn (.base hj h)⟩
theorem aiZ {i j:Nat} {oi oj:Oper} {W:List Nat} (hne:j≠i) (hW: ∀x∈W,x=i∨BN ops i x) (h:aiY ops W i oi j oj=true):Vx ops i oi j oj:=by
 unfold aiY at h;simp only[fk,Bool.or_eq_true] at h;obtain⟨h1,h2⟩:=h;have hw:pI j W=true→BN ops i j:=fun h=>(hW j (nD.1 h)).resolve_left hne;refine⟨h1.imp (fun h1 d hd=> ?_) (fun h=>⟨by simpa using h.1,hw h.2⟩),h2.imp hw fun⟨h2,h3⟩=>⟨fun d hd hd'=> ?_,h3.imp nD.1 fun h3 d hd=> ?_⟩⟩
 ·rw[hd] at h1
  simp only[F0] at h1;exact fZ.1 h1
 ·rw[hd',hd] at h2
  simp only[F0] at h2;exact absurd rfl (wJ h2)
 ·rw[hd] at h3
  simp only[F0] at h3;exact fZ.1 h3
theorem ai0 {o:Oper} (h:Vv ops o=true): ∀d,o.dst=some d→d∉o.looksAt ops:=fun d hd=>by
 unfold Vv at h;rw[hd] at h;simp only[F0] at h;exact fZ.1 h
theorem af6 {o:Oper} (h:Nj o=false): ∀cs b,o.op≠ .select cs b:=fun cs b e=>by
 unfold Nj at h;rw[e] at h
 cases h
theorem O1 {o:Oper} {t:TypeId} {x:Operand} (ho:o.op= .load t x) {a:Act} {dst:Option Tmp} {v:Value} (h: ∀d,dst=some d→d∉o.looksAt ops):(a.put dst v).eval x=a.eval x:=
 Act.eval_put fun d hd hx=>h d hd (by
  subst hx;refine mo _ (List.mem_filterMap.2 ⟨.tmp d,?_,rfl⟩);rw[ho]
  simp[Op.operands])
theorem Kp.put {o:Oper} {v u:Value} {a:Act} {dst:Option Tmp} (hs:Nj o=false) (hl: ∀d,dst=some d→d∉o.looksAt ops):Kp C ops o v (a.put dst u) w↔Kp C ops o v a w:=by
 have e1:=execOp_put (ops:=ops) o (af6 hs) a dst u hl;have e2:=wanted_put (ops:=ops) o a dst u hl;exact⟨fun h=>h.same e1.symm (fun t x ho=>(O1 ho hl).symm) e2.symm,fun h=>h.same e1 (fun t x ho=>O1 ho hl) e2⟩
theorem Vy {dst:Option Tmp} {u:Value}: ∀(L:List Pe) (a:Act),(∀p∈L,Nj p.o=false∧(∀d,dst=some d→d∉p.o.looksAt ops)∧ ∀d,p.o.dst=some d→dst≠some d)→(F4 C ops L a w→F4 C ops L (a.put dst u) w)∧xN L (a.put dst u)=(xN L a).put dst u
 |[],a,_=>⟨id,rfl⟩
 |p::r,a,h=>by
  obtain⟨h1,h2,h3⟩:=h p (.head _);have hc:(a.put dst u).put p.o.dst p.v=(a.put p.o.dst p.v).put dst u:=(Act.put_comm a p.v u h3).symm;obtain⟨i1,i2⟩:=Vy r (a.put p.o.dst p.v) fun q hq=>h q (.tail _ hq);refine⟨fun⟨k1,k2⟩=>⟨(Kp.put h1 h2).2 k1,?_⟩,?_⟩
  ·rw[hc];exact i1 k2
  ·show xN r ((a.put dst u).put p.o.dst p.v)=_
   rw[hc];exact i2
theorem acV {p:Pe} {L2:List Pe} (hsp:Nj p.o=false): ∀(L1:List Pe) (a:Act),(∀q∈L1,Nj q.o=false∧af5 ops q.o p.o)→F4 C ops (L1++p::L2) a w→Kp C ops p.o p.v a w∧F4 C ops (L1++L2) (a.put p.o.dst p.v) w∧xN (L1++L2) (a.put p.o.dst p.v)=xN (L1++p::L2) a
 |[],a,_,⟨h1,h2⟩=>⟨h1,h2,rfl⟩
 |q::L1,a,h,⟨h1,h2⟩=>by
  obtain⟨hs,p1,p2,p3⟩:=h q (.head _);obtain⟨i1,i2,i3⟩:=acV hsp L1 (a.put q.o.dst q.v) (fun q' hq=>h q' (.tail _ hq)) h2;have hc:(a.put p.o.dst p.v).put q.o.dst q.v=(a.put q.o.dst q.v).put p.o.dst p.v:=(Act.put_comm a q.v p.v p2).symm;refine⟨(Kp.put hsp p3).1 i1,⟨(Kp.put hs p1).2 h1,?_⟩,?_⟩
  ·rw[hc];exact i2
  ·show xN (L1++L2) ((a.put p.o.dst p.v).put q.o.dst q.v)=_
   rw[hc];exact i3
theorem O2 {o:Oper} (hs:Nj o=false): ∀(L:List Pe) (a:Act),(∀q∈L,∀d,q.o.dst=some d→d∉o.looksAt ops)→execOp (xN L a).eval o=execOp a.eval o∧Region.wanted o (yielded ops (xN L a).tmps)=Region.wanted o (yielded ops a.tmps)∧ ∀t x,o.op= .load t x→(xN L a).eval x=a.eval x
 |[],a,_=>⟨rfl,rfl,fun _ _ _=>rfl⟩
 |q::r,a,h=>by
  obtain⟨i1,i2,i3⟩:=O2 hs r (a.put q.o.dst q.v) fun q' hq=>h q' (.tail _ hq);have hq:=h q (.head _);exact⟨i1.trans (execOp_put (ops:=ops) o (af6 hs) a _ _ hq),i2.trans (wanted_put (ops:=ops) o a _ _ hq),fun t x ho=>(i3 t x ho).trans (O1 ho hq)⟩
theorem Vz (hT:iY C): ∀(L:List Pe) (a:Act),(L.Pairwise fun p q=>Vx ops p.i p.o q.i q.o∧p.i≠q.i)→(∀p∈L,Vv ops p.o=true∧Nj p.o=false)→
 (∀p∈L,∀t x ad,p.o.op= .load t x→(xN L a).eval x= .pointer (some ad)→Region.wanted p.o (yielded ops (xN L a).tmps)=true→ad.block<w.heap.size→w'.heap[ad.block]?=w.heap[ad.block]?)→F4 C ops L a w→F4 C ops L a w'
 |[],a,_,_,_,_=>trivial
 |p::r,a,hp,hs,hf,⟨h1,h2⟩=>by
  have hpr:=List.pairwise_cons.1 hp;obtain⟨s1,s2⟩:=hs p (.head _);refine⟨h1.world hT fun t x ad ho hx hw hlt=> ?_,?_⟩
  ·have h3:=O2 (ops:=ops) s2 (p::r) a fun q hq d hd=>by
    rcases gj.1 hq with rfl|hq
    ·exact ai0 s1 d hd
    ·exact(hpr.1 q hq).1.1.resolve_right (fun h=>by have:=h.1;unfold xZ at this;rw[ho] at this;cases this) d hd
   exact hf p (.head _) t x ad ho (by rw[h3.2.2 t x ho];exact hx) (by rw[h3.2.1];exact hw) hlt
  exact Vz hT r _ hpr.2 (fun q hq=>hs q (.tail _ hq)) (fun q hq=>hf q (.tail _ hq)) h2
variable {l : List Nat} {K : TS → Ev R}
structure acW (C:pU) (F:Nat→Prop) (A:Arg) (w0:World) (fx:List Nat) (g:Nat→Value) (n:Nat) (l:List Nat) (K:TS→Ev R) (cf:Cf) (lp:Lp) (Q:R→Prop) (ops:Array Oper) (listed:Array Bool) (aM:Act) (w:World) (L:List Pe) (rest:Kk) (S:List Nat):Prop where
 sz:listed.size=ops.size
 mem: ∀j,j∈S↔(listed.getD j false=true∨ ∃p∈L,p.i=j)
 UM:jn C ops none S rest=true
 pend:F4 C ops L aM w
 pw:L.Pairwise fun p q=>Vx ops p.i p.o q.i q.o∧p.i≠q.i
 pe: ∀p∈L,ops[p.i]?=some p.o∧Aq C p.o=true∧Vv ops p.o=true∧Nj p.o=false∧listed.getD p.i false=false
 later: ∀p∈L,∀(j:Nat) (oj:Oper),j∉S→ops[j]?=some oj→Vx ops p.i p.o j oj
 closed: ∀(j:Nat) (oj:Oper),listed.getD j false=true→ops[j]?=some oj→ ∀d∈uz oj,listed.getD d false=true
 pd: ∀L1 p L2,L=L1++p::L2→ ∀d∈uz p.o,listed.getD d false=true∨ ∃q∈L1,q.i=d
 go: ∃st,Inv F A w0 fx g n st (xN L aM) w∧(wM C fx l ops rest st K).holds cf lp Q
theorem acX {o:Oper} {listed:Array Bool}:(∀e∈o.after,Region.binds .any e=true→listed.getD e.on false=true)↔ ∀d∈uz o,listed.getD d false=true:=by
 unfold uz
 constructor
 ·intro h d hd
  obtain⟨e,he,rfl⟩:=List.mem_map.1 hd;obtain⟨h1,h2⟩:=List.mem_filter.1 he;exact h e (by simpa using h1) h2
 ·intro h e he hb
  exact h _ (List.mem_map.2 ⟨e,List.mem_filter.2 ⟨by simpa using he,hb⟩,rfl⟩)
theorem af7 {listed:Array Bool} {j:Nat} (h:j<listed.size) (a b:Bool):listed.getD j a=listed.getD j b:=by
 simp[ze,zf h]
theorem sZ {hs:Option (List Nat)} {S:List Nat} {i:Nat} {fl:List Nat} {r:Kk} (h:jn C ops hs S (.op i fl r)=true): ∃o,ops[i]?=some o∧i∉S∧(∀d∈uz o,d∈S)∧Nj o=false∧jn C ops none (i::S) r=true∧
 ((Aq C o=true∧hs=none∧Vv ops o=true∧ ∀(j:Nat) (oj:Oper),j∉S→j≠i→ops[j]?=some oj→Vx ops i o j oj)∨
  (Aq C o=false∧(∀(j:Nat) (oj:Oper),j∉S→j≠i→j∉hs.getD []→ops[j]?=some oj→ ∃d∈uz oj,d∉S)∧ ∀(k:Nat) (ok:Oper),k∈S→ops[k]?=some ok→xZ ok=true→k∈fl∨BN ops k i)):=by
 simp only[jn] at h
 split at h
 ·cases h
 ·rename_i o ho
  unfold opB at h;simp only[fk,F0] at h;obtain⟨⟨⟨⟨h1,h2⟩,h3⟩,h4⟩,h5⟩:=h;refine⟨o,ho,fZ.1 h1,ak9 h2,h3,h5,?_⟩
  cases hq:Aq C o with
  |true=>
   rw[hq] at h4;simp only[fk] at h4;refine .inl ⟨rfl,by simpa using h4.1.1,h4.1.2,fun j oj hj hne DH=> ?_⟩;have h42:=h4.2;rw[Ag aif] at h42;have:=D1 h42 j (Array.getElem?_eq_some_iff.1 DH).1;rw[DH,fZ.2 hj,beq_false hne] at this;exact aiZ hne (BO ops.size 0 [i] fun x hx=> .inl (by simpa using hx)) (by simpa using this)
  |false=>
   rw[hq] at h4;simp only[fk] at h4;refine .inr ⟨rfl,fun j oj hj hne hh DH=> ?_,fun k ok hk hok hld=> ?_⟩
   ·have:=D1 h4.1 j (Array.getElem?_eq_some_iff.1 DH).1
    rw[DH,fZ.2 hj,beq_false hne,fZ.2 hh] at this;simp only[IL,F0] at this
    apply Classical.byContradiction
    intro hno;have:=ala (a:=uz oj) (l:=S) fun d hd=>Classical.byContradiction fun hn=>hno ⟨d,hd,hn⟩;simp_all
   ·have:=D1 h4.2 k (Array.getElem?_eq_some_iff.1 hok).1
    rw[hok,nD.2 hk] at this;simp only[hld] at this;simp only[Bu,IL,Bool.or_false,Bool.or_eq_true] at this;exact this.imp nD.1 fun h=>(BO ops.size 0 [k] (fun x hx=> .inl (by simpa using hx)) i (nD.1 h)).resolve_left fun e=>fZ.1 h1 (e▸hk)
def LpM (lp:Lp):Prop:= ∀f i c st (Q Q':TX→TS→Prop),(∀x s,Q x s→Q' x s)→lp f i c st Q→lp f i c st Q'
theorem O3 (OE:LpM lp) {j:Nat}: ∀{T:Kk} {hs:Option (List Nat)} {S:List Nat},jn C ops hs S T=true→j∈T.BM→(wM C fx l ops T st K).holds cf lp Q→
 ∃fl r hs',jn C ops hs' S (.op j fl r)=true∧r.len+1=T.len∧(wM C fx l ops (.op j fl r) st K).holds cf lp Q
 | .nil,_,_,_,hj,_=>by cases hj
 | .op i fl r,hs,S,h,hj,hk=>by
   simp only[Kk.BM,qw] at hj;subst hj;exact⟨fl,r,hs,h,rfl,hk⟩
 | .alt a b,hs,S,h,hj,hk=>by
   simp only[jn,fk] at h;obtain⟨⟨h1,h2⟩,h3⟩:=h;have h3:=kD h3;simp only[wM] at hk;obtain⟨r,k1,k2,k3⟩:=hk;rcases List.mem_append.1 hj with hj|hj
   ·obtain⟨fl,r',hs',g1,g2,g3⟩:=O3 OE h1 hj (iw (fun _ _ _ _ h=>h) OE (fun r' e=>by subst e;exact k3) _ k1)
    exact⟨fl,r',hs',g1,g2,g3⟩
   ·obtain⟨fl,r',hs',g1,g2,g3⟩:=O3 OE h2 hj (iw (fun _ _ _ _ h=>h) OE (fun r' e=>by subst e;exact k3) _ k2)
    exact⟨fl,r',hs',g1,by rw[g2];exact h3.symm,g3⟩
theorem VA: ∀{T:Kk} {H:List Nat} {S:List Nat},jn C ops (some H) S T=true→ ∀(j:Nat) (oj:Oper),j∉S→j∉H→j∉T.BM→ops[j]?=some oj→ ∃d∈uz oj,d∉S
 | .nil,_,_,h,_,_,_,_,_,_=>by simp[jn] at h
 | .op i fl r,H,S,h,j,oj,hj,hH,hh,DH=>by
   obtain⟨o,_,_,_,_,_,hc⟩:=sZ h;rcases hc with⟨_,e,_⟩|⟨_,h1,_⟩
   ·cases e
   ·exact h1 j oj hj (fun e=>hh (by rw[e];exact .head _)) hH DH
 | .alt a b,H,S,h,j,oj,hj,hH,hh,DH=>by
   simp only[jn,fk] at h;exact VA h.1.1 j oj hj hH (fun e=>hh (mo _ e)) DH
theorem Kx: ∀{T:Kk} {H:List Nat} {S:List Nat},jn C ops (some H) S T=true→ ∀{j oj},j∈T.BM→ops[j]?=some oj→Aq C oj=true→False
 | .nil,_,_,h,_,_,_,_,_=>by simp[jn] at h
 | .op i fl r,H,S,h,j,oj,hj,DH,hq=>by
   simp only[Kk.BM,qw] at hj;subst hj;obtain⟨o,ho,_,_,_,_,hc⟩:=sZ h;rw[DH] at ho;cases ho;rcases hc with⟨_,e,_⟩|⟨Xe,_⟩
   ·cases e
   ·rw[hq] at Xe;cases Xe
 | .alt a b,H,S,h,j,oj,hj,DH,hq=>by
   simp only[jn,fk] at h;rcases List.mem_append.1 hj with hj|hj
   ·exact Kx h.1.1 hj DH hq
   ·exact Kx h.1.2 hj DH hq
theorem aba {a b:Kk} {S:List Nat} (h:jn C ops none S (.alt a b)=true) {j:Nat} {oj:Oper} (hj:j∈(Kk.alt a b).BM) (DH:ops[j]?=some oj) (hq:Aq C oj=true):False:=by
 simp only[jn,fk] at h;rcases List.mem_append.1 hj with hj|hj
 ·exact Kx h.1.1 hj DH hq
 ·exact Kx h.1.2 hj DH hq
theorem Ru: ∀{T:Kk} {H:List Nat} {S:List Nat},jn C ops (some H) S T=true→ ∃j∈T.BM,∃oj,ops[j]?=some oj∧j∉S∧ ∀d∈uz oj,d∈S
 | .nil,_,_,h=>by simp[jn] at h
 | .op i fl r,H,S,h=>by
   obtain⟨o,h1,h2,h3,_⟩:=sZ h;exact⟨i,.head _,o,h1,h2,h3⟩
 | .alt a b,H,S,h=>by
   simp only[jn,fk] at h;obtain⟨j,h1,h2⟩:=Ru h.1.1;exact⟨j,mo _ h1,h2⟩
theorem acW.advance (hC:COk C) (hb:RP n ops.toList=true) {listed:Array Bool} {aM:Act} {L:List Pe} {i:Nat} {fl:List Nat} {r:Kk} {S:List Nat} (s:acW C F A w0 fx g n l K cf lp Q ops listed aM w L (.op i fl r) S) {o:Oper} (ho:ops[i]?=some o) (hq:Aq C o=true):
 ∃v,acW C F A w0 fx g n l K cf lp Q ops listed aM w (L++[⟨i,o,v⟩]) r (i::S):=by
 obtain⟨o',ho',hiS,RL,hsel,afA,Dg⟩:=sZ s.UM;rw[ho] at ho';cases ho';rcases Dg with⟨_,_,amU,amV⟩|⟨Xe,_⟩
 ·obtain⟨st,hinv,hk⟩:=s.go
  simp only[wM,ho] at hk
  have hdB:Vr n o=true:=by
   have: ∀(os:List Oper),RP n os=true→ ∀x∈os,Vr n x=true:=by
    intro os
    induction os with
    |nil=>intro _ x hx;cases hx
    |cons y q ih=>
     intro h x hx;simp only[RP] at h
     split at h
     ·rcases gj.1 hx with rfl|hx
      ·assumption
      ·exact ih h x hx
     ·cases h
   exact this _ hb o (iV (by rw[UR];exact ho))
  obtain⟨v,st',k1,k2,k3⟩:=aeY hC hinv hdB hq hk;rw[xF] at k3
  have apZ: ∀(L:List Pe) (a:Act),F4 C ops L a w→Kp C ops o v (xN L a) w→F4 C ops (L++[⟨i,o,v⟩]) a w:=by
   intro L
   induction L with
   |nil=>intro a _ h;exact⟨h,trivial⟩
   |cons p q ih=>intro a h h2;exact⟨h.1,ih _ h.2 h2⟩
  have ap0: ∀(L:List Pe) (a:Act),xN (L++[⟨i,o,v⟩]) a=(xN L a).put o.dst v:=by
   intro L
   induction L with
   |nil=>intro a;rfl
   |cons p q ih=>intro a;exact ih _
  have hiL:listed.getD i false=false:=by
   cases h:listed.getD i false with
   |false=>rfl
   |true=>exact absurd ((s.mem i).2 (.inl h)) hiS
  refine⟨v,s.sz,fun j=> ?_,afA,apZ L aM s.pend k1,?_,fun p hp=> ?_,fun p hp j oj hj DH=> ?_,s.closed,fun L1 p L2 he d hd=> ?_,st',by rw[ap0];exact k2,k3⟩
  ·rw[gj,s.mem]
   constructor
   ·rintro(rfl|h|⟨p,hp,e⟩)
    ·exact .inr ⟨_,r9 _ (.head _),rfl⟩
    ·exact .inl h
    ·exact .inr ⟨p,mo _ hp,e⟩
   ·rintro(h|⟨p,hp,e⟩)
    ·exact .inr (.inl h)
    ·rcases List.mem_append.1 hp with hp|hp
     ·exact .inr (.inr ⟨p,hp,e⟩)
     ·simp only[qw] at hp
      subst hp;exact .inl e.symm
  ·refine List.pairwise_append.2 ⟨s.pw,List.pairwise_singleton _ _,fun p hp q hq=> ?_⟩
   simp only[qw] at hq;subst hq;exact⟨s.later p hp i o hiS ho,fun e=>hiS ((s.mem i).2 (.inr ⟨p,hp,e⟩))⟩
  ·rcases List.mem_append.1 hp with hp|hp
   ·exact s.pe p hp
   ·simp only[qw] at hp
    subst hp;exact⟨ho,hq,amU,hsel,hiL⟩
  ·have hj:j≠i∧j∉S:=by simpa using hj
   rcases List.mem_append.1 hp with hp|hp
   ·exact s.later p hp j oj hj.2 DH
   ·simp only[qw] at hp
    subst hp;exact amV j oj hj.2 hj.1 DH
  ·rcases List.append_eq_append_iff.1 he with⟨a',e1,e2⟩|⟨c',e1,e2⟩
   ·
    cases a' with
    |nil=>
     simp only[qv,xy] at e1 e2
     cases e2
     subst e1;rcases (s.mem d).1 (RL d hd) with h|h
     ·exact .inl h
     ·exact .inr h
    |cons x xs=>simp at e2
   ·cases c' with
    |nil=>
     simp only[qv,xy] at e1 e2
     cases e2
     subst e1;rcases (s.mem d).1 (RL d hd) with h|h
     ·exact .inl h
     ·exact .inr h
    |cons x xs=>
     simp only[Rb,List.cons.injEq] at e2;obtain⟨rfl,_⟩:=e2;exact s.pd L1 p xs e1 d hd
 ·rw[hq] at Xe;cases Xe
theorem anq (hb:RP n ops.toList=true) {i:Nat} {o:Oper} (ho:ops[i]?=some o):Vr n o=true:=by
 have: ∀(os:List Oper),RP n os=true→ ∀x∈os,Vr n x=true:=by
  intro os
  induction os with
  |nil=>intro _ x hx;cases hx
  |cons y q ih=>
   intro h x hx;simp only[RP] at h
   split at h
   ·rcases gj.1 hx with rfl|hx
    ·assumption
    ·exact ih h x hx
   ·cases h
 exact this _ hb o (iV (by rw[UR];exact ho))
theorem acY {P:Program} {o:Oper} {aS aM:Act} {w:World} {Kc Kc':Act→World→Prop} {Qc:Exit→Act→World→Prop} (he:execOp aM.eval o=execOp aS.eval o) (hk: ∀a' w',Kc a' w'→ ∃v,a'=aS.put o.dst v∧Kc' (aM.put o.dst v) w') (hd: ∀v v',aS.put o.dst v=aS.put o.dst v'→ ∀w',Kc' (aM.put o.dst v) w'→Kc' (aM.put o.dst v') w')
 (h:o.wp P aS w Kc fun _ _ _=>False):o.wp P aM w Kc' Qc:=by
 unfold Oper.wp at*;rw[he];generalize (execOp aS.eval o).run P w=r at*
 have use: ∀v w',Kc (aS.put o.dst v) w'→Kc' (aM.put o.dst v) w':=fun v w' h=>by
  obtain⟨v',e,hk'⟩:=hk _ _ h;exact hd v' v e.symm w' hk'
 cases r with
 |ok nx w'=>
  cases nx<;>simp only[Oper.upon] at h ⊢
  case value u=>exact use u w' h
  case skip=>exact use undef w' h
  case defer d=>
   exfalso
   obtain⟨v,e,_⟩:=hk _ _ h;have:=congrArg Act.defers e;rw[put_defers,put_defers] at this;have h2:=congrArg List.length this;simp at h2
  case enter f args=>
   refine Calls.mono h fun e w'' he=> ?_
   cases e with
   |returned u=>exact use u w'' he
   |panicked c=>exact he.elim
   |outgrown=>exact(LetsOut_false he).elim
  case row row args=>exact Rows.mono h fun u w'' he=>use u w'' he
 |halt x w'=>
  cases x<;>simp only[Oper.upon] at h
where
 LetsOut_false:LetsOut (fun(_:Exit) (_:Act) (_:World)=>False)→False:=fun⟨_,_,h⟩=>h
theorem aad: ∀(L:List Pe) (a:Act),(xN L a).tmps.size=a.tmps.size
 |[],_=>rfl
 |p::r,a=>by show(xN r _).tmps.size=_;rw[aad r,Ni]
theorem agR {a a':Act} {d:Option Tmp} {v v':Value} (hs:a'.tmps.size=a.tmps.size) (h:a.put d v=a.put d v'):a'.put d v=a'.put d v':=by
 cases d with
 |none=>rfl
 |some d=>
  have h1:a.tmps.setIfInBounds d v=a.tmps.setIfInBounds d v':=congrArg Act.tmps h;show({a' with tmps:=a'.tmps.setIfInBounds d v}:Act)={a' with tmps:=a'.tmps.setIfInBounds d v'}
  by_cases hd:d<a.tmps.size
  ·have:v=v':=by
    have h2:=congrArg (fun x:Array Value=>x[d]?) h1;simpa [ZH,hd] using h2
   rw[this]
  ·have hle:a'.tmps.size≤d:=by rw[hs];exact Nat.le_of_not_lt hd
   rw[Array.setIfInBounds_eq_of_size_le hle,Array.setIfInBounds_eq_of_size_le hle]
theorem anr (hC:COk C) (KR:Vs C cf) (OE:LpM lp) (hb:RP n ops.toList=true) {Qc:Exit→Act→World→Prop} (hQ: ∀st a w,Inv F A w0 fx g n st a w→(K st).holds cf lp Q→Qc .normal a w):
 ∀(fuel:Nat) (listed:Array Bool) (aM:Act) (w:World) (L:List Pe) (rest:Kk) (S:List Nat),acW C F A w0 fx g n l K cf lp Q ops listed aM w L rest S→fuel=rest.len+L.length→wpAny C.P .any ops Qc fuel listed aM w:=by
 have ready0: ∀{listed:Array Bool} {j:Nat},listed.size=ops.size→j∈Region.ready .any ops listed→listed.getD j false=false∧ ∃oj,ops[j]?=some oj∧ ∀d∈uz oj,listed.getD d false=true:=fun {listed j} hsz hj=>by
  obtain⟨h1,oj,h2,h3⟩:=mem_ready.1 hj
  have hlt:j<listed.size:=by rw[hsz];exact(Array.getElem?_eq_some_iff.1 h2).1
  exact⟨by rw[af7 hlt false true];exact h1,oj,h2,acX.1 h3⟩
 have ready1: ∀{listed:Array Bool} {j:Nat} {oj:Oper},listed.size=ops.size→listed.getD j false=false→ops[j]?=some oj→(∀d∈uz oj,listed.getD d false=true)→j∈Region.ready .any ops listed:=fun {listed j oj} hsz h1 h2 h3=>by
  have hlt:j<listed.size:=by rw[hsz];exact(Array.getElem?_eq_some_iff.1 h2).1
  exact mem_ready.2 ⟨by rw[af7 hlt true false];exact h1,oj,h2,acX.2 h3⟩
 intro fuel
 induction fuel with
 |zero=>
  intro listed aM w L rest S s hf;have hL:L=[]:=DK an
  have hr:rest= .nil:=by
   have h0:rest.len=0:=by omega
   have hsc:=s.UM;clear s hf
   cases rest with
   |nil=>rfl
   |op i fl r=>simp[Kk.len] at h0
   |alt a b=>
    exfalso
    simp only[jn,fk] at hsc
    have: ∀{T:Kk} {H:List Nat} {S:List Nat},jn C ops (some H) S T=true→T.len≠0:=by
     intro T
     induction T with
     |nil=>intro _ _ h;simp[jn] at h
     |op i fl r _=>intro _ _ _;simp[Kk.len]
     |alt a b iha _=>intro _ _ h;simp only[jn,fk] at h;exact iha h.1.1
    exact this hsc.1.1 h0
  subst hL hr
  constructor
  ·cases hrd:Region.ready .any ops listed with
   |nil=>rfl
   |cons j js=>
    exfalso
    obtain⟨h1,oj,h2,_⟩:=ready0 s.sz (j:=j) (by rw[hrd];exact .head _);have hs:=s.UM;simp only[jn] at hs;have:=nD.1 (D1 hs j (Array.getElem?_eq_some_iff.1 h2).1);rcases (s.mem j).1 this with h|⟨p,hp,_⟩
    ·rw[h1] at h;cases h
    ·cases hp
  ·obtain⟨st,hinv,hk⟩:=s.go
   simp only[wM] at hk;rw[xF] at hk;obtain⟨⟨φ,h⟩,h2,h3,h4⟩:=hinv;exact hQ _ aM w ⟨⟨φ,h.keep l⟩,h2,h3,h4⟩ hk
 |succ fuel ih=>
  intro listed aM w L rest S s hf
  have up: ∀{L:List Pe} {rest:Kk} {S:List Nat},acW C F A w0 fx g n l K cf lp Q ops listed aM w L rest S→fuel+1=rest.len+L.length→ ∀p∈L,(∀d∈uz p.o,listed.getD d false=true)→wpOp C.P ops Qc p.i (wpAny C.P .any ops Qc fuel (listed.setIfInBounds p.i true)) aM w:=fun {L rest S} s hf p hp hdp=>by
   obtain⟨L1,L2,rfl⟩:=List.append_of_mem hp;obtain⟨e1,e2,e3,e4,e5⟩:=s.pe p hp;have hpw:=List.pairwise_append.1 s.pw
   have hq1: ∀q∈L1,Nj q.o=false∧af5 ops q.o p.o:=fun q hq=>by
    have:=s.pe q (mo _ hq);refine⟨this.2.2.2.1,(hpw.2.2 q hq p (.head _)).1.now e1 fun hd=> ?_⟩
    have h1:=hd.listed s.closed fun o ho=>by rw[e1] at ho;cases ho;exact hdp
    rw[this.2.2.2.2] at h1
    cases h1
   obtain⟨k1,k2,k3⟩:=acV e4 L1 aM hq1 s.pend
   have hlt:p.i<listed.size:=by rw[s.sz];exact(Array.getElem?_eq_some_iff.1 e1).1
   have hne: ∀q,q∈L1∨q∈L2→q.i≠p.i:=fun q hq=>by
    rcases hq with hq|hq
    ·exact(hpw.2.2 q hq p (.head _)).2
    ·exact fun e=>((List.pairwise_cons.1 hpw.2.1).1 q hq).2 e.symm
   have DI: ∀j,(listed.setIfInBounds p.i true).getD j false=true↔j=p.i∨listed.getD j false=true:=fun j=>by
    by_cases hj:j=p.i
    ·subst hj;simp[ze,ZH,hlt]
    ·rw[Go.getD_set_ne false (Ne.symm hj)];simp[hj]
   have hs':acW C F A w0 fx g n l K cf lp Q ops (listed.setIfInBounds p.i true) (aM.put p.o.dst p.v) w (L1++L2) rest S:=by
    refine⟨by simp[s.sz],fun j=> ?_,s.UM,k2,?_,fun q hq=> ?_,fun q hq=> ?_,fun j oj hj DH d hd=> ?_,fun M1 q M2 he d hd=> ?_,?_⟩
    ·rw[s.mem,DI]
     constructor
     ·rintro(h|⟨q,hq,e⟩)
      ·exact .inl (.inr h)
      ·rcases List.mem_append.1 hq with hq|hq
       ·exact .inr ⟨q,mo _ hq,e⟩
       ·rcases gj.1 hq with rfl|hq
        ·exact .inl (.inl e.symm)
        ·exact .inr ⟨q,r9 _ hq,e⟩
     ·rintro((rfl|h)|⟨q,hq,e⟩)
      ·exact .inr ⟨p,hp,rfl⟩
      ·exact .inl h
      ·rcases List.mem_append.1 hq with hq|hq
       ·exact .inr ⟨q,mo _ hq,e⟩
       ·exact .inr ⟨q,r9 _ (.tail _ hq),e⟩
    ·exact List.pairwise_append.2 ⟨hpw.1,(List.pairwise_cons.1 hpw.2.1).2,fun a ha b hb=>hpw.2.2 a ha b (.tail _ hb)⟩
    ·have Xe:q∈L1++p::L2:=by
      rcases List.mem_append.1 hq with hq|hq
      ·exact mo _ hq
      ·exact r9 _ (.tail _ hq)
     obtain⟨f1,f2,f3,f4,f5⟩:=s.pe q Xe;refine⟨f1,f2,f3,f4,?_⟩;rw[Go.getD_set_ne false (Ne.symm (hne q (List.mem_append.1 hq)))];exact f5
    ·have Xe:q∈L1++p::L2:=by
      rcases List.mem_append.1 hq with hq|hq
      ·exact mo _ hq
      ·exact r9 _ (.tail _ hq)
     exact s.later q Xe
    ·rcases (DI j).1 hj with rfl|hj
     ·rw[e1] at DH;cases DH
      exact(DI d).2 (.inr (hdp d hd))
     ·exact(DI d).2 (.inr (s.closed j oj hj DH d hd))
    ·have old:listed.getD d false=true∨ ∃q'∈L1++p::L2,q'.i=d∧(q'=p∨q'∈M1):=by
      rcases List.append_eq_append_iff.1 he with⟨a',x1,x2⟩|⟨c',x1,x2⟩
      ·
       have:=s.pd (L1++p::a') q M2 (by rw[x2];simp) d hd;rcases this with h|⟨q',Xe,e⟩
       ·exact .inl h
       ·refine .inr ⟨q',?_,e,?_⟩
        ·rcases List.mem_append.1 Xe with h|h
         ·exact mo _ h
         ·rcases gj.1 h with rfl|h
          ·exact r9 _ (.head _)
          ·exact r9 _ (.tail _ (by rw[x2];exact mo _ h))
        ·rcases List.mem_append.1 Xe with h|h
         ·exact .inr (by rw[x1];exact mo _ h)
         ·rcases gj.1 h with rfl|h
          ·exact .inl rfl
          ·exact .inr (by rw[x1];exact r9 _ h)
      ·cases c' with
       |nil=>
        simp only[qv,xy] at x1 x2;subst x1;have:=s.pd (L1++[p]) q M2 (by rw[←x2];simp) d hd;rcases this with h|⟨q',Xe,e⟩
        ·exact .inl h
        ·rcases List.mem_append.1 Xe with h|h
         ·exact .inr ⟨q',mo _ h,e,.inr h⟩
         ·simp only[qw] at h
          exact .inr ⟨q',by rw[h];exact hp,e,.inl h⟩
       |cons y ys=>
        simp only[Rb,List.cons.injEq] at x2;obtain⟨rfl,_⟩:=x2;have:=s.pd M1 q (ys++p::L2) (by rw[x1];simp) d hd;rcases this with h|⟨q',Xe,e⟩
        ·exact .inl h
        ·exact .inr ⟨q',by rw[x1];exact mo _ (mo _ Xe),e,.inr Xe⟩
     rcases old with h|⟨q',_,e,rfl|h⟩
     ·exact .inl ((DI d).2 (.inr h))
     ·exact .inl ((DI d).2 (.inl e.symm))
     ·exact .inr ⟨q',h,e⟩
    ·obtain⟨st,g1,g2⟩:=s.go
     exact⟨st,by rw[k3];exact g1,g2⟩
   have hnext:=ih _ _ w (L1++L2) rest S hs' (by simp only[cM,gn] at hf ⊢;omega);have hyn:=k1.yn hC.ty;unfold Go.wpOp;simp only[e1];rcases hyn with⟨hw,hv⟩|⟨hw,hv⟩
   ·rw[aJ hw]
    refine .inl ?_;unfold Oper.wp;rw[hv];exact hnext
   ·rw[aF (by rw[hw];exact Bool.false_ne_true)]
    rw[hv] at hnext;exact hnext
  constructor
  ·intro hnil
   exfalso
   cases L with
   |nil=>
    have first: ∃(i:Nat) (o:Oper),ops[i]?=some o∧i∉S∧ ∀d∈uz o,d∈S:=by
     cases rest with
     |nil=>simp[Kk.len] at hf
     |op i fl r=>
      obtain⟨o,ho,hiS,RL,_⟩:=sZ s.UM;exact⟨i,o,ho,hiS,RL⟩
     |alt a b=>
      have hs:=s.UM;simp only[jn,fk] at hs;obtain⟨j,_,oj,h1,h2,h3⟩:=Ru hs.1.1;exact⟨j,oj,h1,h2,h3⟩
    ·obtain⟨i,o,ho,hiS,RL⟩:=first
     have hi:listed.getD i false=false:=by
      cases h:listed.getD i false with
      |false=>rfl
      |true=>exact absurd ((s.mem i).2 (.inl h)) hiS
     have:=ready1 s.sz hi ho fun d hd=>by
      rcases (s.mem d).1 (RL d hd) with h|⟨p,hp,_⟩
      ·exact h
      ·cases hp
     rw[hnil] at this
     cases this
   |cons p L2=>
    obtain⟨e1,e2,e3,e4,e5⟩:=s.pe p (.head _)
    have:=ready1 s.sz e5 e1 fun d hd=>by
     rcases s.pd [] p L2 rfl d hd with h|⟨q,hq,_⟩
     ·exact h
     ·cases hq
    rw[hnil] at this
    cases this
  ·intro j hj
   obtain⟨hjl,oj,DH,hdj⟩:=ready0 s.sz hj
   have doEff: ∀{rest:Kk} {L:List Pe} {S:List Nat} {fl:List Nat} {r:Kk},acW C F A w0 fx g n l K cf lp Q ops listed aM w L rest S→fuel+1=rest.len+L.length→r.len+1=rest.len→j∉S→Nj oj=false→jn C ops none (j::S) r=true→
    (∀(k:Nat) (ok:Oper),k∈S→ops[k]?=some ok→xZ ok=true→k∈fl∨BN ops k j)→(∃st,Inv F A w0 fx g n st (xN L aM) w∧(wM C fx l ops (.op j fl r) st K).holds cf lp Q)→wpOp C.P ops Qc j (wpAny C.P .any ops Qc fuel (listed.setIfInBounds j true)) aM w:=fun {rest L S fl r} s hf hrl hjS hsel afA Xi hgo=>by
    have hpe: ∀p∈L,Nj p.o=false∧Vv ops p.o=true∧af5 ops p.o oj:=fun p hp=>by
     obtain⟨f1,f2,f3,f4,f5⟩:=s.pe p hp;refine⟨f4,f3,(s.later p hp j oj hjS DH).now DH fun hd=> ?_⟩
     have:=hd.listed s.closed fun o' ho'=>by rw[DH] at ho';cases ho';exact hdj
     rw[f5] at this;cases this
    have Bm: ∀q∈L,∀d,q.o.dst=some d→d∉oj.looksAt ops:=fun q hq=>(hpe q hq).2.2.2.2;obtain⟨x1,x2,_⟩:=O2 (ops:=ops) hsel L aM Bm;obtain⟨st,hinv,hk⟩:=hgo;simp only[wM,DH] at hk
    have hlt:j<listed.size:=by rw[s.sz];exact(Array.getElem?_eq_some_iff.1 DH).1
    have DI: ∀d,(listed.setIfInBounds j true).getD d false=true↔d=j∨listed.getD d false=true:=fun d=>by
     by_cases hd:d=j
     ·subst hd;simp[ze,ZH,hlt]
     ·rw[Go.getD_set_ne false (Ne.symm hd)];simp[hd]
    have hpp: ∀(v:Value),(F4 C ops L aM w→F4 C ops L (aM.put oj.dst v) w)∧xN L (aM.put oj.dst v)=(xN L aM).put oj.dst v:=fun v=>
     Vy L aM fun p hp=>⟨(hpe p hp).1,(hpe p hp).2.2.1,(hpe p hp).2.2.2.1⟩
    have next: ∀(v:Value) (w':World) (st':TS),Inv F A w0 fx g n st' ((xN L aM).put oj.dst v) w'→(wM C fx l ops r st' K).holds cf lp Q→(∀x∈fl,∀ox,ops[x]?=some ox→ ∀t y ad,ox.op= .load t y→(xN L aM).eval y= .pointer (some ad)→Region.wanted ox (yielded ops (xN L aM).tmps)=true→ad.block<w.heap.size→w'.heap[ad.block]?=w.heap[ad.block]?)→
     wpAny C.P .any ops Qc fuel (listed.setIfInBounds j true) (aM.put oj.dst v) w':=fun v w' st' hinv' hk' hfr=>by
     have hpw:=Vz (w':=w') hC.ty L aM s.pw (fun p hp=>⟨(hpe p hp).2.1,(hpe p hp).1⟩) (fun p hp t y ad hop hy hwp hlt'=>by
      obtain⟨f1,f2,f3,f4,f5⟩:=s.pe p hp;have hpS:p.i∈S:=(s.mem _).2 (.inr ⟨p,hp,rfl⟩);rcases Xi p.i p.o hpS f1 (by unfold xZ;rw[hop]) with hfl|hwt
      ·exact hfr p.i hfl p.o f1 t y ad hop hy hwp hlt'
      ·exfalso
       have:=hwt.listed s.closed fun o' ho'=>by rw[DH] at ho';cases ho';exact hdj
       rw[f5] at this;cases this) s.pend
     have ap1:=(Vy (C:=C) (ops:=ops) (w:=w') (dst:=oj.dst) (u:=v) L aM fun p hp=>⟨(hpe p hp).1,(hpe p hp).2.2.1,(hpe p hp).2.2.2.1⟩);refine ih _ _ w' L r (j::S) ⟨by simp[s.sz],fun d=> ?_,afA,ap1.1 hpw,s.pw,fun p hp=> ?_,fun p hp d od hd hod=>s.later p hp d od (fun hs=>hd (.tail _ hs)) hod,fun d od hd hod e he=> ?_,fun L1 p L2 he d hd=> ?_,st',by rw[ap1.2];exact hinv',hk'⟩ an
     ·rw[gj,s.mem,DI]
      constructor
      ·rintro(h|h|h)
       ·exact .inl (.inl h)
       ·exact .inl (.inr h)
       ·exact .inr h
      ·rintro((h|h)|h)
       ·exact .inl h
       ·exact .inr (.inl h)
       ·exact .inr (.inr h)
     ·obtain⟨f1,f2,f3,f4,f5⟩:=s.pe p hp
      refine⟨f1,f2,f3,f4,?_⟩;rw[Go.getD_set_ne false (fun e=>hjS ((s.mem j).2 (.inr ⟨p,hp,e.symm⟩)))];exact f5
     ·rcases (DI d).1 hd with rfl|hd
      ·rw[DH] at hod;cases hod
       exact(DI e).2 (.inr (hdj e he))
      ·exact(DI e).2 (.inr (s.closed d od hd hod e he))
     ·exact(s.pd L1 p L2 he d hd).imp (fun h=>(DI d).2 (.inr h)) id
    have akw:=acU hC KR hinv (anq hb DH) hk (Qc:=fun _ _ _=>False) (Kc:=fun a' w'=> ∃v,a'=(xN L aM).put oj.dst v∧wpAny C.P .any ops Qc fuel (listed.setIfInBounds j true) (aM.put oj.dst v) w') fun st' v w' hi' hk' hfr=>by
     rw[xF] at hk';exact⟨v,rfl,next v w' st' hi' hk' hfr⟩
    have hdv: ∀v v',(xN L aM).put oj.dst v=(xN L aM).put oj.dst v'→aM.put oj.dst v=aM.put oj.dst v':=fun v v' h=>agR (aad L aM).symm h;unfold Go.wpOp;simp only[DH];rw[x2] at akw
    by_cases hw:Region.wanted oj (yielded ops aM.tmps)=true
    ·rw[aJ hw] at akw ⊢
     exact .inl (acY (Kc':=wpAny C.P .any ops Qc fuel (listed.setIfInBounds j true)) x1.symm (fun a' w' h=>h) (fun v v' h w' hw'=>by rw[←hdv v v' h];exact hw') akw)
    ·rw[aF hw] at akw ⊢
     obtain⟨v,e,hn⟩:=akw;rw[hdv undef v e];exact hn
   have go: ∀(rest:Kk) (L:List Pe) (S:List Nat),acW C F A w0 fx g n l K cf lp Q ops listed aM w L rest S→fuel+1=rest.len+L.length→wpOp C.P ops Qc j (wpAny C.P .any ops Qc fuel (listed.setIfInBounds j true)) aM w:=by
    intro rest
    induction rest with
    |nil=>
     intro L S s hf;have hs:=s.UM;simp only[jn] at hs;have hjS:=nD.1 (D1 hs j (Array.getElem?_eq_some_iff.1 DH).1);rcases (s.mem j).1 hjS with h|⟨p,hp,rfl⟩
     ·rw[hjl] at h;cases h
     ·have e1:=(s.pe p hp).1
      rw[DH] at e1;cases e1;exact up s hf p hp hdj
    |op i fl r ihr=>
     intro L S s hf
     by_cases hjS:j∈S
     ·rcases (s.mem j).1 hjS with h|⟨p,hp,rfl⟩
      ·rw[hjl] at h;cases h
      ·have e1:=(s.pe p hp).1
       rw[DH] at e1;cases e1;exact up s hf p hp hdj
     ·obtain⟨o,ho,hiS,RL,hsel,afA,Dg⟩:=sZ s.UM
      rcases Dg with⟨hq,_,_,_⟩|⟨hq,amX,Xi⟩
      ·obtain⟨v,s'⟩:=s.advance hC hb ho hq
       exact ihr _ _ s' (by simp only[cM,gn,List.length_nil,Kk.len] at hf ⊢;omega)
      ·have hij:j=i:=by
        apply Classical.byContradiction
        intro hne;obtain⟨d,hd,hdS⟩:=amX j oj hjS hne dh DH;exact hdS ((s.mem d).2 (.inl (hdj d hd)))
       subst hij;rw[DH] at ho;cases ho;exact doEff s hf rfl hjS hsel afA Xi s.go
    |alt a b _ _=>
     intro L S s hf
     by_cases hjS:j∈S
     ·rcases (s.mem j).1 hjS with h|⟨p,hp,rfl⟩
      ·rw[hjl] at h;cases h
      ·have e1:=(s.pe p hp).1
       rw[DH] at e1;cases e1;exact up s hf p hp hdj
     ·have hjH:j∈(Kk.alt a b).BM:=by
       apply Classical.byContradiction
       intro hne;have hs:=s.UM;simp only[jn,fk] at hs;obtain⟨d,hd,hdS⟩:=VA hs.1.1 j oj hjS hne (fun e=>hne (mo _ e)) DH;exact hdS ((s.mem d).2 (.inl (hdj d hd)))
      obtain⟨st,hinv,hk⟩:=s.go;obtain⟨fl,r,hs',g1,g2,g3⟩:=O3 OE s.UM hjH hk;obtain⟨o,ho,hiS,RL,hsel,afA,Dg⟩:=sZ g1;rw[DH] at ho;cases ho;rcases Dg with⟨hq,_,amU,amV⟩|⟨hq,amX,Xi⟩
      ·exfalso
       have hs:=s.UM;exact aba hs hjH DH hq
      ·exact doEff s hf g2 hjS hsel afA Xi ⟨st,hinv,g3⟩
   exact go rest L S s hf
theorem agS (hC:COk C) (KR:Vs C cf) (OE:LpM lp) (hm:C.P.follows .mixedOrders=true) (hb:RP n ops.toList=true) {Qc:Exit→Act→World→Prop} (hQ: ∀st a w,Inv F A w0 fx g n st a w→(K st).holds cf lp Q→Qc .normal a w) {UM:Kk} (hs:jn C ops none [] UM=true) (hl:UM.len=ops.size)
 {a:Act} (hi:Inv F A w0 fx g n st a w) (hk:(wM C fx l ops UM st K).holds cf lp Q) {id:Nat}:(Code.region id ops true).wp C.P Qc a w:=by
 refine wp_region_any hm ?_;obtain⟨⟨φ,h⟩,h2,h3,h4⟩:=hi;have hi':Inv F A w0 fx g n st a {w with drawn:=w.drawn+1}:=⟨⟨φ,h.MW (pV.drew w)⟩,h2,h3,h4⟩
 have DG: ∀j,(Array.replicate ops.size false).getD j false=false:=fun j=>by
  rw[ze,Array.getElem?_replicate]
  split<;>rfl
 refine anr (l:=l) hC KR OE hb hQ ops.size _ a _ [] UM [] ⟨by simp,fun j=> ?_,hs,trivial,.nil,fun p hp=>(by cases hp),fun p hp=>(by cases hp),fun j oj hj=> ?_,fun L1 p L2 he=> ?_,st,hi',hk⟩ (by simp[hl])
 ·rw[DG];simp
 ·rw[DG] at hj;cases hj
 ·cases L1<;>cases he
end Go.T
namespace Go.T
variable {F : Nat → Prop} {A : Arg} {w0 w w' : World} {φ φ' φ1 : Fp} {st st' sta fR sK : TS} {tm Lo : Array Value} {C : pU}
variable {R : Type} {cf : Cf} {lp : Lp} {Q : R → Prop}
variable {fx : List Nat} {g : Nat → Value} {n : Nat} {f : FuncId}
def ID (C:pU) (f:FuncId):Code→Bool
 | .region id ops draw=>match draw with
   |false=>true
   |true=>match C.UM f id with
    |some l=>match Nat.beq l.len ops.size with
     |true=>jn C ops none [] l
     |false=>false
    |none=>true
 | .seq a b=>match ID C f a with|true=>ID C f b|false=>false
 | .cond _ a b=>match ID C f a with|true=>ID C f b|false=>false
 | .block _ b=>ID C f b
 | .loop b=>ID C f b
 |_=>true
structure acZ (C:pU):Prop extends COk C where
 UM: ∀(f:Nat) (fn:Func) (c:Code),C.P.funcs[f]?=some fn→fn.body=some c→ID C f c=true
 mix:C.P.follows .mixedOrders=true
 ext: ∀(f:FuncId) (p:List TV→Option (TV×List TV)) (vs:List TV) (r:TV) (fs:List TV),C.ext f=some p→p vs=some (r,fs)→OZ C f vs r fs
def QK (F:Nat→Prop) (A:Arg) (w0:World) (fx:List Nat) (g:Nat→Value) (n:Nat) (Qt:TX→TS→Prop):Exit→Act→World→Prop
 | .normal,a,w=> ∃st,Inv F A w0 fx g n st a w∧Qt .norm st
 | .exit id,a,w=> ∃st,Inv F A w0 fx g n st a w∧Qt (.ex id) st
 | .ret,a,w=> ∃st,Inv F A w0 fx g n st a w∧Qt .ret st
 |_,_,_=>False
def ans (C:pU) (F:Nat→Prop) (A:Arg) (w0:World) (fx:List Nat) (g:Nat→Value) (n:Nat) (f:FuncId) (lp:Lp):Prop:=
 ∀(i:Nat) (c:Code) (st:TS) (Qt:TX→TS→Prop) (a:Act) (w:World),yq n c=true→ID C f c=true→lp f i c st Qt→Inv F A w0 fx g n st a w→(Code.loop c).wp C.P (QK F A w0 fx g n Qt) a w
theorem ai1 (hC:acZ C) (KR:Vs C cf) (hlm:LpM lp) (OE:ans C F A w0 fx g n f lp): ∀(c:Code) (i:Nat) (st:TS) (K:TX→TS→Ev R) (a:Act) (w:World),yq n c=true→ID C f c=true→Inv F A w0 fx g n st a w→(run C fx f i c st K).holds cf lp Q→
 c.wp C.P (QK F A w0 fx g n fun x st=>(K x st).holds cf lp Q) a w:=by
 intro c
 induction c with
 |skip=>intro i st K a w _ _ hi hk;exact wp_skip ⟨st,hi,hk⟩
 |region id ops draw=>
  intro i st K a w hb hs hi hk
  cases draw with
  |false=>
   simp only[run] at hk;exact wp_region_list (aac hC.toCOk KR (K:=K .norm) (fun st a w hi hk=>⟨st,hi,hk⟩) ops.toList st a w hb hi hk)
  |true=>
   simp only[run] at hk;simp only[ID] at hs
   split at hk
   ·rename_i l hl
    rw[hl] at hs;simp only at hs
    split at hs
    ·rename_i hlen
     exact agS hC.toCOk KR hlm hC.mix hb (K:=K .norm) (fun st a w hi hk=>⟨st,hi,hk⟩) hs (kD hlen) hi hk
    ·cases hs
   ·exact hk.elim
 |seq x y ihx ihy=>
  intro i st K a w hb hs hi hk;simp only[run] at hk
  have hb':yq n x=true∧yq n y=true:=by
   simp only[yq] at hb
   split at hb
   ·exact⟨by assumption,hb⟩
   ·cases hb
  have hs':ID C f x=true∧ID C f y=true:=by
   simp only[ID] at hs
   split at hs
   ·exact⟨by assumption,hs⟩
   ·cases hs
  refine wp_seq (Code.wp_mono (fun e a w q=> ?_) (ihx i st _ a w hb'.1 hs'.1 hi hk))
  cases e with
  |normal=>obtain⟨st',hi',hk'⟩:=q;exact ihy i st' K a w hb'.2 hs'.2 hi' hk'
  |exit id=>exact q
  |ret=>exact q
  |_=>exact q.elim
 |cond c x y ihx ihy=>
  intro i st K a w hb hs hi hk;simp only[run] at hk
  have hb':yq n x=true∧yq n y=true:=by
   simp only[yq] at hb
   split at hb
   ·exact⟨by assumption,hb⟩
   ·cases hb
  have hs':ID C f x=true∧ID C f y=true:=by
   simp only[ID] at hs
   split at hs
   ·exact⟨by assumption,hs⟩
   ·cases hs
  obtain⟨φ,h⟩:=hi.rel;have hc:=gv hC.ty h 0 c
  split at hk
  ·rename_i p hp
   rw[hp] at hc;have hc:a.eval c= .bool p:=hc;refine wp_cond hc ?_
   cases p with
   |true=>exact ihx i st K a w hb'.1 hs'.1 hi hk
   |false=>exact ihy i st K a w hb'.2 hs'.2 hi hk
  ·rename_i p hp
   rw[hp] at hc;have hc:=sX hc;refine wp_cond hc ?_
   cases p with
   |true=>exact ihx i st K a w hb'.1 hs'.1 hi hk
   |false=>exact ihy i st K a w hb'.2 hs'.2 hi hk
  ·exact hk.elim
 |block id x ih=>
  intro i st K a w hb hs hi hk;simp only[run] at hk;refine wp_block (Code.wp_mono (fun e a w q=> ?_) (ih id st _ a w hb hs hi hk))
  cases e with
  |normal=>exact q
  |exit id'=>
   obtain⟨st',hi',hk'⟩:=q;simp only at hk';simp only[Exit.inBlock]
   cases hbq:Nat.beq id' id with
   |true=>
    have:=kD hbq;rw[hbq] at hk';rw[aJ this];exact⟨st',hi',hk'⟩
   |false=>
    rw[hbq] at hk';rw[aF (wJ hbq)];exact⟨st',hi',hk'⟩
  |ret=>exact q
  |_=>exact q.elim
 |loop x ih=>
  intro i st K a w hb hs hi hk;simp only[run] at hk;rw[xF] at hk;obtain⟨⟨φ,h⟩,h2,h3,h4⟩:=hi;exact OE i x _ _ a w hb hs hk ⟨h.head _,h2,h3,h4⟩
 |exit id=>intro i st K a w _ _ hi hk;exact wp_exit ⟨st,hi,hk⟩
 |ret=>intro i st K a w _ _ hi hk;exact wp_ret ⟨st,hi,hk⟩
 |_=>intro i st K a w _ _ hi hk;exact hk.elim
theorem af8 (hC:acZ C) (KR:Vs C cf) (hlm:LpM lp) (OE:ans C F A w0 fx g n f lp) {i:Nat} {c:Code} {Qt:TX→TS→Prop} (hb:yq n c=true) (hs:ID C f c=true): ∀(k:Nat) (st:TS) (a:Act) (w:World),iter C cf lp fx f i c Qt k st→Inv F A w0 fx g n st a w→Code.rounds C.P c (QK F A w0 fx g n Qt) k a w
 |0,_,_,_,h,_=>h.elim
 |k+1,st,a,w,h,hi=>by
  refine Code.wp_mono (fun e a w q=> ?_) (ai1 hC KR hlm OE c i st U2 a w hb hs hi h)
  cases e with
  |normal=>
   obtain⟨st',hi',hk'⟩:=q;simp only[U2,Ev.holds] at hk';rw[xF] at hk';obtain⟨⟨φ,h⟩,h2,h3,h4⟩:=hi';exact af8 hC KR hlm OE hb hs k _ a w hk' ⟨h.head _,h2,h3,h4⟩
  |exit id=>exact q
  |ret=>exact q
  |_=>exact q.elim
theorem af9 {k:Nat} {fx:List Nat} (d:Nat):LpM (lpN C cf k fx d):=fun f i c st Q Q' hQ h=>uS (fun _ _ _ _ h=>h) (de _) d f i c st Q Q' hQ h
theorem ai2 (hC:acZ C) (KR:Vs C cf) {k:Nat}: ∀(d:Nat),ans C F A w0 fx g n f (lpN C cf k fx d)
 |0=>fun i c st Qt a w _ _ h _=>h.elim
 |d+1=>fun i c st Qt a w hb hs h hi=>wp_loop_rounds k (af8 hC KR (af9 d) (ai2 hC KR d) hb hs k st a w h hi)
theorem aae: ∀{ps:List cz} {i j:Nat} {ms:List Mode},ps[j]?=some (.inout ms)→i+j∈yK ps i
 |[],_,_,_,h=>by simp at h
 |p::r,i,0,ms,h=>by
  simp only[gT,aY] at h;subst h;exact .head _
 |p::r,i,j+1,ms,h=>by
  have:=aae (ps:=r) (i:=i+1) (j:=j) (by simpa using h);rw[show i+(j+1)=i+1+j by omega]
  cases p with
  |inout _=>exact .tail _ this
  |borrow=>exact this
  |consume=>exact this
theorem ac0 (hC:acZ C): ∀(k:Nat),Vs C (lR C k)
 |0=>fun f vs r fs h=>h.elim
 |k+1=>fun f vs r fs h=>by
  have KR:=ac0 hC k;unfold lR at h
  cases hx:C.ext f with
  |some p=>rw[hx] at h;exact hC.ext f p vs r fs hx h
  |none=>
  rw[hx] at h;have h:(body C f vs).holds (lR C k) (lpN C (lR C k) k (yK (C.sig f).ps 0) 4) fun p=>p=(r,fs):=h;unfold body at h
  split at h
  ·exact h.elim
  ·rename_i fn hfn
   split at h
   ·exact h.elim
   ·rename_i c hc
    refine⟨⟨fn,c,hfn,hc⟩,fun w xs Rg BB X Y hin hlen=> ?_⟩;rw[xF] at h
    have Bt: ∀(i:Nat) (x:Value),xs[i]?=some x→(xs.toArray++Array.replicate (fn.ntmps-xs.toArray.size) undef).getD i undef=x:=fun i x hx=>by
     have hlt:i<xs.length:=(List.getElem?_eq_some_iff.1 hx).1;rw[ze,Array.getElem?_append_left (by simpa using hlt)];simp[hx]
    have hstart:=aiF (C.sig f) hin Bt
    have hinv:Inv (yp X Y) (KY true Rg BB) w (yK (C.sig f).ps 0) (fun i=>xs.getD i undef) fn.ntmps (IY (C.sig f) vs) {tmps:=xs.toArray++Array.replicate (fn.ntmps-xs.toArray.size) undef,defers:=[]} w:=by
     refine⟨⟨_,hstart⟩,fun i _=> ?_,rfl,?_⟩
     ·cases hx:xs[i]? with
      |some x=>rw[show xs.getD i undef=x by simp[List.getD,hx]];exact Bt i x hx
      |none=>
       have hge:xs.length≤i:=by
        rcases Nat.lt_or_ge i xs.length with h'|h'
        ·rw[cw h'] at hx;cases hx
        ·exact h'
       rw[show xs.getD i undef=undef by simp[List.getD,hx]];rw[ze,Array.getElem?_append_right (by simpa using hge),Array.getElem?_replicate]
       split<;>rfl
     ·simp;omega
    have hrun:=ai1 hC KR (af9 _) (ai2 hC KR 4) c 0 _ _ _ w (hC.dst f fn c hfn hc) (hC.UM f fn c hfn hc) hinv h;refine calls_of_wp hfn hc (Code.wp_mono (fun e a w' q=> ?_) hrun)
    have fin: ∀x st,Inv (yp X Y) (KY true Rg BB) w (yK (C.sig f).ps 0) (fun i=>xs.getD i undef) fn.ntmps st a w'→(aid C (C.sig f) fn.results.toList x st).holds (lR C k) (lpN C (lR C k) k (yK (C.sig f).ps 0) 4) (fun p=>p=(r,fs))→
     a.defers=[]∧ ∃v,(results fn a.tmps).run C.P w'= .ok v w'∧ ∃v',Ending.returned v= .returned v'∧Rj (yp X Y) (KY true Rg BB) w w' (C.sig f) xs r fs v':=fun x st hi hk=>by
     obtain⟨⟨φ,h⟩,h2,h3,h4⟩:=hi;obtain⟨v,g1,g2⟩:=ank hC.ty (C.sig f) h hlen (fun j ms hj=>h2 j (by have:=aae (i:=0) hj;rwa [nB] at this)) hk;exact⟨h3,v,g1,v,rfl,g2⟩
    cases e with
    |normal=>obtain⟨st,hi,hk⟩:=q;exact fin _ st hi hk
    |ret=>obtain⟨st,hi,hk⟩:=q;exact fin _ st hi hk
    |exit id=>obtain⟨st,hi,hk⟩:=q;exact hk.elim
    |_=>exact q.elim
end Go.T
namespace Go.T
variable {C : pU} {w w' : World}
inductive zJ (tt:TypeId→nT):TypeId→List TC→Prop
 |int {t:TypeId} {k:IntKind} {n:Int} (h:(tt t).ti= .int k) (hw:(Lit.int k n).wf=true):zJ tt t [.sc (.int k n)]
 |bool {t:TypeId} {b:Bool} (h:(tt t).ti= .bool):zJ tt t [.sc (.bool b)]
 |str {t:TypeId} {s:ByteArray} (h:(tt t).ti= .str) (hs:s.size≤reachBytes):zJ tt t [.sc (.string s)]
 |slice {t e:TypeId} (h:(tt t).ti= .slice e) (rows:List (List TC)) (hr: ∀r∈rows,zJ tt e r) (hl:rows.length*(tt e).bytes≤reachBytes):zJ tt t [.sub (tt e).size rows]
 |struct {t:TypeId} {fs:List (Nat×TypeId)} (h:(tt t).ti= .struct fs) (parts:List (List TC)) (hl:parts.length=fs.length) (hf: ∀(j:Nat) (p:Nat×TypeId) (q:List TC),fs[j]?=some p→parts[j]?=some q→zJ tt p.2 q):zJ tt t parts.flatten
def agT (tt:TypeId→nT):Nat→List (Nat×TypeId)→Nat→Bool
 |off,[],size=>Nat.beq off size
 |off,(o,t)::r,size=>match Nat.beq o off with|true=>agT tt (off+(tt t).size) r size|false=>false
def okT (tt:TypeId→nT):Nat→TypeId→Bool
 |0,_=>false
 |n+1,t=>match(tt t).ti with
  | .int _=>true
  | .bool=>true
  | .str=>true
  | .slice e=>okT tt n e
  | .struct fs=>agT tt 0 fs (tt t).size&&fs.all fun f=>okT tt n f.2
  |_=>false
def Rp (ps:List MemPlace) (k:Nat):Prop:= ∃x∈ps,x.block=k
section
variable {H : Type} {enc : TypeId × Value → H}
theorem LF (hT:iY C) {t:TypeId} (hk:known (C.tt t)=true):C.P.cellsOf t=(C.tt t).size∧C.P.bytesOf t=(C.tt t).bytes:=by
 obtain⟨i,z,h1,h2,h3,_⟩:=(hT t hk).info;unfold Program.cellsOf Program.bytesOf;rw[h1];exact⟨h2,h3⟩
theorem O4 {tt:TypeId→nT} {m:Nat} {t:TypeId} (h:okT tt m t=true):known (tt t)=true:=by
 cases m with
 |zero=>cases h
 |succ m=>
  unfold okT at h;unfold known
  split at h<;>first|(rename_i e;rw[e])|cases h
theorem zJ.len (hT:iY C): ∀(m:Nat) (t:TypeId) (cs:List TC),okT C.tt m t=true→zJ C.tt t cs→cs.length=(C.tt t).size
 |0,_,_,h,_=>by cases h
 |m+1,t,cs,h,hw=>by
  have hk:=O4 h
  cases hw with
  |int h1 _=>exact((hT t hk).one fun fs e=>by rw[h1] at e;cases e).symm
  |bool h1=>exact((hT t hk).one fun fs e=>by rw[h1] at e;cases e).symm
  |str h1 _=>exact((hT t hk).one fun fs e=>by rw[h1] at e;cases e).symm
  |slice h1 _ _ _=>exact((hT t hk).one fun fs e=>by rw[h1] at e;cases e).symm
  | @struct _ fs h1 parts hl hf=>
    unfold okT at h;rw[h1] at h;simp only[fk,List.all_eq_true] at h;obtain⟨hc,ho⟩:=h
    have key: ∀(fs:List (Nat×TypeId)) (parts:List (List TC)) (off:Nat),parts.length=fs.length→(∀(j:Nat) (p:Nat×TypeId) (q:List TC),fs[j]?=some p→parts[j]?=some q→q.length=(C.tt p.2).size)→agT C.tt off fs (C.tt t).size=true→off+parts.flatten.length=(C.tt t).size:=by
     intro fs
     induction fs with
     |nil=>
      intro parts off hl _ hc;have:parts=[]:=DK hl;subst this;exact kD hc
     |cons f r ih=>
      intro parts off hl hf hc
      cases parts with
      |nil=>cases hl
      |cons q qs=>
       obtain⟨o,ft⟩:=f;simp only[agT] at hc
       split at hc
       ·have h2:=ih qs _ (by simpa using hl) (fun j p q' h1 h2=>hf (j+1) p q' (by simpa using h1) (by simpa using h2)) hc
        have h3:=hf 0 _ q rfl rfl;simp only at h3;rw[Ae,cM,h3];omega
       ·cases hc
    have:=key fs parts 0 hl (fun j p q h1' h2=>zJ.len hT m p.2 q (ho p (iV h1')) (hf j p q h1' h2)) hc;omega
theorem O5 (hT:iY C): ∀(m:Nat) (t:TypeId) (fuel:Nat) (cs:List Value) (x:DataW H×List MemPlace),okT C.tt m t=true→DataW.trod enc C.P w 0 (fun _=>true) true fuel t cs=some x→(x.1.weights C.P t).all (· ≤reachBytes)=true→
 ∃tcs,zJ C.tt t tcs∧tcs.length=cs.length∧ ∀(j:Nat) (c:TC) (v:Value),tcs[j]?=some c→cs[j]?=some v→aB w (Rp x.2) .snap OF c v
 |0,_,_,_,_,h,_,_=>by cases h
 |m+1,t,fuel,cs,x,h,hx,hwt=>by
  have hk:=O4 h;have hd:=(hT t hk).desc
  have one: ∀{c0:TC} {v0:Value} {ps:List MemPlace},aB w (Rp ps) .snap OF c0 v0→ ∀(j:Nat) (c:TC) (v:Value),[c0][j]?=some c→[v0][j]?=some v→aB w (Rp ps) .snap OF c v:=fun {c0 v0 ps} h j c v h1 h2=>by
   cases j with
   |zero=>simp only[gT,aY] at h1 h2;subst h1 h2;exact h
   |succ j=>simp at h1
  unfold okT at h
  cases ht:(C.tt t).ti with
  |int k=>
   rw[ht] at hd;obtain⟨n,rfl,rfl,hw⟩:=DataW.trod_int hd hx;exact⟨_,.int ht hw,rfl,one (.sc _ _ _ trivial)⟩
  |bool=>
   rw[ht] at hd;obtain⟨b,rfl,rfl⟩:=DataW.trod_bool hd hx;exact⟨_,.bool ht,rfl,one (.sc _ _ _ trivial)⟩
  |str=>
   rw[ht] at hd;obtain⟨s,rfl,rfl,_⟩:=DataW.trod_string hd hx;refine⟨_,.str ht ?_,rfl,one (.sc _ _ _ trivial)⟩;simp only[DataW.weights,qu,qS,j7,decide_eq_true_eq] at hwt;simpa using hwt
  |slice e=>
   rw[ht] at hd h;simp only at h hd;obtain⟨hu,hke⟩:=hd;obtain⟨hce,hbe⟩:=LF hT hke;have hpos:=(hT e hke).pos;rcases DataW.trod_slice hu hx with⟨rfl,rfl⟩|⟨a,len,cap,elems,rest,n,rfl,rfl,rfl,hb,hl,hm,hlen,hel,hsp,_⟩
   ·exact⟨_,.slice ht [] (fun r hr=>(by cases hr)) dh,rfl,one (Fe hpos)⟩
   ·obtain⟨hrl,_⟩:=hsp rfl
    simp only[DataW.weights,hu,qu,List.all_append,fk,decide_eq_true_eq,ct] at hwt;obtain⟨hw1,Xp,_⟩:=hwt
    have ap3: ∀(i:Nat) (d:DataW H),(elems.map (·.1))[i]?=some d→(d.weights C.P e).all (· ≤reachBytes)=true:=by
     intro i d hi
     have: ∀(l:List (DataW H)),(DataW.weightsAll C.P e l).all (· ≤reachBytes)=true→ ∀d∈l,(d.weights C.P e).all (· ≤reachBytes)=true:=by
      intro l
      induction l with
      |nil=>intro _ d hd;cases hd
      |cons y r ih=>
       intro h d hd;simp only[DataW.weightsAll,List.all_append,fk] at h;rcases gj.1 hd with rfl|hd
       ·exact h.1
       ·exact ih h.2 d hd
     exact this _ Xp d (iV hi)
    have each: ∀i,i<len→ ∃row:List TC,zJ C.tt e row∧row.length=(C.tt e).size∧ ∀(f:Nat) (c:TC),row[f]?=some c→ ∃u,w.cell? (a.add (i*(C.tt e).size+f))=some u∧aB w (Rp (elems.flatMap (·.2))) .snap OF c u:=by
     intro i hi;have h1:=hel i hi
     have hie:i<elems.length:=by omega
     rw[cw hie,hce,Option.bind_eq_some_iff] at h1;obtain⟨vs,hvs,htr⟩:=h1;obtain⟨row,r1,r2,r3⟩:=O5 hT m e n vs elems[i] h htr (ap3 i _ (by rw[mm,cw hie];rfl));unfold World.cells? at hvs;rw[aJ (F1 _)] at hvs
     have hvl:vs.length=(C.tt e).size:=by simpa using mapM_some_length hvs
     refine⟨row,r1,by rw[r2,hvl],fun f c hf=> ?_⟩
     have hfl:f<(C.tt e).size:=by rw[←hvl,←r2];exact(List.getElem?_eq_some_iff.1 hf).1
     have hg:=mapM_some_get hvs f f (by simp[hfl]);rw[Addr.add_add] at hg;have hv:vs[f]?=some vs[f]:=cw (by rw[hvl];exact hfl);exact⟨vs[f],by rw[hg];exact hv,(r3 f c _ hf hv).uy fun k ⟨y,hy,hk⟩=>⟨y,List.mem_flatMap.2 ⟨_,DM hie,hy⟩,hk⟩⟩
    obtain⟨rows,aed,hrow⟩: ∃rows:List (List TC),rows.length=len∧ ∀i row,rows[i]?=some row→zJ C.tt e row∧row.length=(C.tt e).size∧ ∀(f:Nat) (c:TC),row[f]?=some c→ ∃u,w.cell? (a.add (i*(C.tt e).size+f))=some u∧aB w (Rp (elems.flatMap (·.2))) .snap OF c u:=by
     refine⟨(List.range len).map fun i=>if hi:i<len then Classical.choose (each i hi) else [],by simp,fun i row hi=> ?_⟩
     have hil:i<len:=by have:=(List.getElem?_eq_some_iff.1 hi).1;simpa using this
     simp[hil] at hi;subst hi;exact Classical.choose_spec (each i hil)
    refine⟨_,.slice ht rows (fun r hr=> ?_) ?_,rfl,one ?_⟩
    ·obtain⟨i,hi,rfl⟩:=List.mem_iff_getElem.1 hr
     exact(hrow i _ (cw hi)).1
    ·rw[aed,←hbe,←hlen]
     exact uO (qx _ (Nat.le_add_right _ _)) hw1
    ·have hmk:=aB.sub (w:=w) (R:=Rp (MemPlace.row a ((elems.length+rest.length)*C.P.cellsOf e)++(elems++rest).flatMap (·.2))) .snap OF (C.tt e).size rows (some a) cap
      (fun i f=>(w.cell? (a.add (i*(C.tt e).size+f))).getD undef) (fun _ _ _=>False) ?_ ?_
     ·rw[aed] at hmk;exact hmk
     ·refine⟨by omega,hm,hpos,fun r hr=> ?_,fun _=>⟨a,rfl⟩,fun ad ha i f tc ht'=> ?_,fun _ ad ha hne=> ?_,fun hm=>absurd rfl hm,fun hm=>absurd rfl hm,fun hm=>(by cases hm)⟩
      ·obtain⟨i,hi,rfl⟩:=List.mem_iff_getElem.1 hr
       exact(hrow i _ (cw hi)).2.1
      ·cases ha
       unfold BE at ht'
       cases hr:rows[i]? with
       |none=>rw[hr] at ht';cases ht'
       |some row=>
        rw[hr] at ht';obtain⟨u,u1,_⟩:=(hrow i row hr).2.2 f tc ht';rw[u1];rfl
      ·cases ha
       refine⟨.cell a.block (a.off+0),mo _ (List.mem_map.2 ⟨0,List.mem_range.2 ?_,rfl⟩),rfl⟩;rw[hce]
       have:0<rows.length:=by
        cases rows with
        |nil=>exact absurd rfl hne
        |cons _ _=>simp
       exact Nat.mul_pos an hpos
     ·intro i f tc ht'
      unfold BE at ht'
      cases hr:rows[i]? with
      |none=>rw[hr] at ht';cases ht'
      |some row=>
       rw[hr] at ht';obtain⟨u,u1,u2⟩:=(hrow i row hr).2.2 f tc ht';rw[u1];refine u2.uy fun k ⟨y,hy,hk⟩=>⟨y,r9 _ ?_,hk⟩;rw[List.flatMap_append];exact mo _ hy
  |struct fs=>
   rw[ht] at hd h;simp only[fk,List.all_eq_true] at h;obtain⟨hc,ho⟩:=h;obtain⟨fields,hu,hfl,hff⟩:=hd;obtain⟨xs,n,rfl,rfl,hcl,hxl,hxs⟩:=DataW.trod_struct hu hx;have hct:=(LF hT hk).1;rw[hct] at hcl;simp only[DataW.weights,hu] at hwt
   have each: ∀(j:Nat) (p:Nat×TypeId),fs[j]?=some p→ ∃q:List TC,zJ C.tt p.2 q∧q.length=(C.tt p.2).size∧ ∀(i:Nat) (c:TC),q[i]?=some c→ ∃u,cs[p.1+i]?=some u∧aB w (Rp (xs.flatMap (·.2))) .snap OF c u:=by
    intro j p hj;obtain⟨fd,f1,f2,f3,f4,f5⟩:=hff j p hj;have h1:=hxs j fd f1;rw[f2,f3,(LF hT f4).1] at h1
    have hjx:j<xs.length:=by rw[hxl,hfl];exact(List.getElem?_eq_some_iff.1 hj).1
    rw[cw hjx] at h1
    have hw:(xs[j].1.weights C.P p.2).all (· ≤reachBytes)=true:=by
     rw[←f3];have:=List.all_eq_true.1 hwt;refine List.all_eq_true.2 fun y hy=>this y (DataW.weights_mem_each (ts:=fields.toList.map (·.type)) (ds:=xs.map (·.1)) (j:=j) (by rw[mm];simp[f1]) (by rw[mm,cw hjx];rfl) y hy)
    obtain⟨q,q1,q2,q3⟩:=O5 hT m p.2 n _ xs[j] (ho p (iV hj)) h1 hw
    have hql:q.length=(C.tt p.2).size:=by rw[q2,fu,jd,hcl];omega
    refine⟨q,q1,hql,fun i c hi=> ?_⟩
    have hil:i<(C.tt p.2).size:=by rw[←hql];exact(List.getElem?_eq_some_iff.1 hi).1
    have hlt:p.1+i<cs.length:=by rw[hcl];omega
    refine⟨cs[p.1+i],cw hlt,(q3 i c _ hi ?_).uy fun k ⟨y,hy,hk⟩=>⟨y,List.mem_flatMap.2 ⟨_,DM hjx,hy⟩,hk⟩⟩;rw[DL,aJ hil,uw];exact cw hlt
   have parts: ∀(fs:List (Nat×TypeId)) (off:Nat),(∀(j:Nat) (p:Nat×TypeId),fs[j]?=some p→ ∃q:List TC,zJ C.tt p.2 q∧q.length=(C.tt p.2).size∧ ∀(i:Nat) (c:TC),q[i]?=some c→ ∃u,cs[p.1+i]?=some u∧aB w (Rp (xs.flatMap (·.2))) .snap OF c u)→
    agT C.tt off fs (C.tt t).size=true→ ∃ps:List (List TC),ps.length=fs.length∧(∀(j:Nat) (p:Nat×TypeId) (q:List TC),fs[j]?=some p→ps[j]?=some q→zJ C.tt p.2 q)∧off+ps.flatten.length=(C.tt t).size∧
     ∀(i:Nat) (c:TC),ps.flatten[i]?=some c→ ∃u,cs[off+i]?=some u∧aB w (Rp (xs.flatMap (·.2))) .snap OF c u:=by
    intro fs
    induction fs with
    |nil=>intro off _ hc;exact⟨[],rfl,fun j p q h=>by simp at h,kD hc,fun i c h=>by simp at h⟩
    |cons f r ih=>
     intro off he hc;obtain⟨o,ft⟩:=f;simp only[agT] at hc
     split at hc
     ·rename_i hoff
      have hoff:=kD hoff;subst hoff;obtain⟨q,q1,q2,q3⟩:=he 0 _ rfl;simp only at q1 q2 q3;obtain⟨ps,p1,p2,p3,p4⟩:=ih _ (fun j p hj=>he (j+1) p (by simpa using hj)) hc;refine⟨q::ps,by simp[p1],fun j p q' h1 h2=> ?_,by rw[Ae,cM,q2];omega,fun i c hi=> ?_⟩
      ·cases j with
       |zero=>simp only[gT,aY] at h1 h2;subst h1 h2;exact q1
       |succ j=>exact p2 j p q' (by simpa using h1) (by simpa using h2)
      ·rw[Ae] at hi
       by_cases hlt:i<q.length
       ·rw[nw hlt] at hi;exact q3 i c hi
       ·rw[pP an] at hi
        obtain⟨u,u1,u2⟩:=p4 _ c hi;exact⟨u,by rw[←u1];congr 1;omega,u2⟩
     ·cases hc
   obtain⟨ps,p1,p2,p3,p4⟩:=parts fs 0 each hc;refine⟨ps.flatten,.struct ht ps p1 p2,by omega,fun j c v h1 h2=> ?_⟩;obtain⟨u,u1,u2⟩:=p4 j c h1;rw[nB,h2] at u1
   cases u1
   exact u2
  |ptr e=>rw[ht] at h;cases h
  |other=>rw[ht] at h;cases h
end
end Go.T
namespace Go.T
open Go.RowKit
variable {C : pU} {w w' : World}
inductive WfV (tt:TypeId→nT) (t:TypeId):TV→Prop
 |c {c:TC} (h: ∀fs,(tt t).ti≠ .struct fs) (hw:zJ tt t [c]):WfV tt t (.c c)
 |ag {fs:List (Nat×TypeId)} {cs:List TC} (h:(tt t).ti= .struct fs) (hw:zJ tt t cs):WfV tt t (.ag cs)
inductive ac1 (tt:TypeId→nT):List TypeId→List TV→Prop
 |nil:ac1 tt [] []
 |cons {t:TypeId} {ts:List TypeId} {v:TV} {vs:List TV} (h:WfV tt t v) (hs:ac1 tt ts vs):ac1 tt (t::ts) (v::vs)
def okP (tt:TypeId→nT) (m:Nat) (t:TypeId):Bool:=okT tt m t&&Nat.ble (tt t).size 16
section
variable {H : Type} {enc : TypeId × Value → H}
theorem ai4 (hT:iY C) {m:Nat} {t:TypeId} {v:Value} {d:DataW H} {p:List MemPlace} {base:Nat} (ht:okP C.tt m t=true) (hv:Value.okWide C.P w .any base t v)
 (hd:DataW.Trod enc C.P w 0 (fun _=>true) true t v d p) (hwt:(d.weights C.P t).all (· ≤reachBytes)=true):
 ∃tv,WfV C.tt t tv∧BC tv=true∧ ∀BB:Nat→Prop,DW w .borrow (Rp p) BB (fun _ _=>False) (fun _=>False) tv v:=by
 unfold okP at ht;simp only[fk] at ht;obtain⟨hok,hsz⟩:=ht;obtain⟨fuel,hf⟩:=hd;obtain⟨tcs,h1,h2,h3⟩:=O5 hT m t fuel _ _ hok hf hwt;have hk:=O4 hok;have hlen:=zJ.len hT m t tcs hok h1;have ZF:=(hT t hk).desc
 have one:(∀fs,(C.tt t).ti≠ .struct fs)→v.cells= #[v]→ ∃tv,WfV C.tt t tv∧BC tv=true∧ ∀BB:Nat→Prop,DW w .borrow (Rp p) BB (fun _ _=>False) (fun _=>False) tv v:=by
  intro hn hc;rw[hc] at h2 h3
  match tcs,h1,h2,h3 with
  |[c],h1,h2,h3=>exact⟨.c c,.c hn h1,rfl,fun BB=>h3 0 c v rfl rfl⟩
 cases hti:(C.tt t).ti with
 |int k=>
  rw[hti] at ZF;obtain⟨n,rfl⟩:=WideShapes.okWide_int ZF hv;exact one (fun fs e=>by rw[hti] at e;cases e) rfl
 |bool=>
  rw[hti] at ZF;obtain⟨n,rfl⟩:=WideShapes.okWide_bool ZF hv;exact one (fun fs e=>by rw[hti] at e;cases e) rfl
 |str=>
  rw[hti] at ZF;obtain⟨n,rfl⟩:=WideShapes.okWide_string ZF hv;exact one (fun fs e=>by rw[hti] at e;cases e) rfl
 |slice e=>
  rw[hti] at ZF;obtain⟨a,l,c,rfl⟩:=WideShapes.okWide_slice ZF.1 hv;exact one (fun fs e=>by rw[hti] at e;cases e) rfl
 |struct fs=>
  rw[hti] at ZF;obtain⟨fields,hu,_⟩:=ZF;simp only[Value.okWide,hu] at hv;obtain⟨cs,rfl,hcs,_⟩:=hv;refine⟨.ag tcs,.ag hti h1,?_,fun BB=>⟨cs,rfl,?_,fun j c hj=> ?_⟩⟩
  ·simp only[BC,hlen];exact hsz
  ·rw[h2];simp[Value.cells]
  ·have hjl:j<cs.size:=by
    have:=(List.getElem?_eq_some_iff.1 hj).1;rw[h2] at this;simpa [Value.cells] using this
   exact⟨cs[j],zf hjl,h3 j c _ hj (by simp[Value.cells,hjl])⟩
 |ptr e=>
  cases m with
  |zero=>cases hok
  |succ m=>unfold okT at hok;rw[hti] at hok;cases hok
 |other=>
  cases m with
  |zero=>cases hok
  |succ m=>unfold okT at hok;rw[hti] at hok;cases hok
def UI (v:TV):Prop:=match v with| .c _=>True| .ag _=>True|_=>False
theorem DW.mono {w:World} {R R' BB:Nat→Prop} {v:TV} {x:Value} (hR: ∀k,R k→R' k) (h:DW w .borrow R BB (fun _ _=>False) (fun _=>False) v x) (hn:UI v):
 DW w .borrow R' BB (fun _ _=>False) (fun _=>False) v x:=by
 cases v with
 |c c=>exact aB.uy h hR
 |ag cs=>
  obtain⟨xs,h1,h2,h3⟩:=h;exact⟨xs,h1,h2,fun j c hj=>by obtain⟨u,u1,u2⟩:=h3 j c hj;exact⟨u,u1,u2.uy hR⟩⟩
 |_=>exact hn.elim
theorem WfV.plain {tt:TypeId→nT} {t:TypeId} {v:TV} (h:WfV tt t v):UI v:=by
 cases h<;>trivial
theorem aaf (hT:iY C) {m base:Nat}: ∀(ts:List TypeId) (xs:List Value) (ds:List (DataW H)) (ps:List MemPlace),DataW.TrodAll enc C.P w 0 (fun _=>true) true ts xs ds ps→ts.all (okP C.tt m)=true→
 (∀(j:Nat) (t:TypeId) (v:Value),ts[j]?=some t→xs[j]?=some v→Value.okWide C.P w .any base t v)→(DataW.weightsEach C.P ts ds).all (· ≤reachBytes)=true→
 ∃vs,ac1 C.tt ts vs∧vs.length=ts.length∧xs.length=ts.length∧uR vs=true∧ ∀(i:Nat) (v:TV),vs[i]?=some v→ ∃x,xs[i]?=some x∧ ∀BB:Nat→Prop,DW w .borrow (Rp ps) BB (fun _ _=>False) (fun _=>False) v x
 |[],xs,ds,ps,h,_,_,_=>by
  obtain⟨rfl,rfl,rfl⟩:=ChangeShapes.trodAll_nil h;exact⟨[],.nil,rfl,rfl,rfl,fun i v hi=>by simp at hi⟩
 |t::ts,xs,ds,ps,h,ho,hv,hw=>by
  obtain⟨x,xs',d,ds',p,q,rfl,rfl,rfl,h1,h2⟩:=ChangeShapes.trodAll_cons h;simp only[qu,fk] at ho;simp only[DataW.weightsEach,List.all_append,fk] at hw;obtain⟨tv,a1,a2,a3⟩:=ai4 hT ho.1 (hv 0 t x rfl rfl) h1 hw.1;obtain⟨vs,b1,b2,b3,b4,b5⟩:=aaf hT ts xs' ds' q h2 ho.2 (fun j t v hj hv'=>hv (j+1) t v (by simpa using hj) (by simpa using hv')) hw.2;refine⟨tv::vs,.cons a1 b1,by simp[b2],by simp[b3],by simp[uR,a2,b4],fun i v hi=> ?_⟩
  cases i with
  |zero=>
   simp only[gT,aY] at hi;subst hi;exact⟨x,rfl,fun BB=>(a3 BB).mono (fun k ⟨y,hy,hk⟩=>⟨y,mo _ hy,hk⟩) a1.plain⟩
  |succ i=>
   simp only[yg] at hi;obtain⟨x',c1,c2⟩:=b5 i v hi
   have hpl:UI v:=by
    have: ∀(ts:List TypeId) (vs:List TV),ac1 C.tt ts vs→ ∀(i:Nat) (v:TV),vs[i]?=some v→UI v:=by
     intro ts vs h
     induction h with
     |nil=>intro i v hi;simp at hi
     |cons h hs ih=>
      intro i v hi
      cases i with
      |zero=>simp only[gT,aY] at hi;subst hi;exact h.plain
      |succ i=>exact ih i v (by simpa using hi)
    exact this _ _ b1 i v hi
   exact⟨x',by simpa using c1,fun BB=>(c2 BB).mono (fun k ⟨y,hy,hk⟩=>⟨y,r9 _ hy,hk⟩) hpl⟩
theorem agU (hC:acZ C) {f:FuncId} {ts:List TypeId} {m base:Nat} {W:World} {args:Array Value} {ds:List (DataW H)} {ps:List MemPlace}
 (hA:DataW.TrodAll enc C.P W 0 (fun _=>true) true ts args.toList ds ps) (ho:ts.all (okP C.tt m)=true)
 (hv: ∀(j:Nat) (t:TypeId) (v:Value),ts[j]?=some t→args[j]?=some v→Value.okWide C.P W .any base t v) (hw:(DataW.weightsEach C.P ts ds).all (· ≤reachBytes)=true)
 (hps:(C.sig f).ps=ts.map fun _=> .borrow) (hn:ts.length≤50)
 (law: ∀vs,ac1 C.tt ts vs→ ∃k,lR C k f vs (.c (.sc (.bool true))) []):
 Calls C.P f args W fun e W'=>e= .returned (.bool true)∧Below W.heap.size W W':=by
 have hlt: ∀(ts:List TypeId) (xs:List Value) (ds:List (DataW H)) (ps:List MemPlace),DataW.TrodAll enc C.P W 0 (fun _=>true) true ts xs ds ps→ ∀x∈ps,x.block<W.heap.size:=by
  intro ts
  induction ts with
  |nil=>intro xs ds ps h x hx;obtain⟨_,_,rfl⟩:=ChangeShapes.trodAll_nil h;cases hx
  |cons t ts ih=>
   intro xs ds ps h x hx;obtain⟨_,_,_,_,p,q,_,_,rfl,⟨n,h1⟩,h2⟩:=ChangeShapes.trodAll_cons h;rcases List.mem_append.1 hx with hx|hx
   ·exact DataW.trod_lt n _ _ _ h1 x hx
   ·exact ih _ _ _ h2 x hx
 obtain⟨vs,v1,v2,v3,v4,v5⟩:=aaf hC.ty ts args.toList ds ps hA ho (fun j t v h1 h2=>hv j t v h1 (by simpa using h2)) hw;obtain⟨k,hk⟩:=law vs v1
 have hargs:aaY W (C.sig f).ps vs args.toList (Rp ps) (fun _=>False) (fun _ _ _=>False) (fun _ _=>False):=by
  refine⟨fun i v hi=> ?_,?_,fun i j k h=>h.elim,fun i k h=>h.elim,fun k ⟨x,hx,hk⟩=>hk▸hlt _ _ _ _ hA x hx,fun k h=>h.elim⟩
  ·obtain⟨x,x1,x2⟩:=v5 i v hi
   refine⟨x,x1,?_⟩
   have:(C.sig f).ps.getD i .borrow= .borrow:=by
    rw[hps,wG,mm]
    cases ts[i]?<;>rfl
   rw[this];exact x2 _
  ·unfold Af
   rw[show Nat.ble vs.length 50=true from UT an];exact v4
 have:=(ac0 hC k f vs _ _ hk).calls W args.toList _ _ _ _ hargs (by rw[hps];simp[v3]);refine Calls.mono this fun e W' ⟨v,he,hp⟩=> ?_;subst he;obtain⟨hf,I,X,ri,fi,hb,hr,_⟩:=hp;obtain⟨IJ,Xo⟩:=hr;refine⟨?_,hf.os,hf.tape,hf.output,hf.size,fun k hk=>hf.block k hk (by rintro(⟨_,_,h⟩|⟨_,h⟩)<;>exact h)⟩;have h1:=IJ.2.2.2 (by decide);rw[h1] at Xo;have h0:=hb.ok 0 _ (by rw[Xo];rfl)
 cases h0
 rfl
end
end Go.T
namespace Go.T
def aag (C:pU) (f:Nat) (fn:Func):Bool:= !(fn.name== "runtime.NumGoroutine")&&match fn.body with
 |none=>true
 |some c=>yq fn.ntmps c&&ID C f c
def ac2 (C:pU):Nat→List Func→Bool
 |_,[]=>true
 |f,fn::r=>aag C f fn&&ac2 C (f+1) r
theorem aah {C:pU}: ∀{f:Nat} {l:List Func},ac2 C f l=true→ ∀(i:Nat) (fn:Func),l[i]?=some fn→aag C (f+i) fn=true
 |f,[],_,i,fn,h=>by simp at h
 |f,fn'::r,h,i,fn,hi=>by
  simp only[ac2,fk] at h
  cases i with
  |zero=>simp only[gT,aY] at hi;subst hi;exact h.1
  |succ i=>have:=aah h.2 i fn (by simpa using hi);rw[show f+(i+1)=f+1+i by omega];exact this
theorem alc {C:pU} (ty:iY C) (h:ac2 C 0 C.P.funcs.toList=true) (mix:C.P.follows .mixedOrders=true)
 (ext: ∀(f:FuncId) (p:List TV→Option (TV×List TV)) (vs:List TV) (r:TV) (fs:List TV),C.ext f=some p→p vs=some (r,fs)→OZ C f vs r fs):acZ C:=by
 have key: ∀(f:Nat) (fn:Func),C.P.funcs[f]?=some fn→aag C f fn=true:=fun f fn hf=>by
  have:=aah h f fn (by simpa using hf)
  rwa [nB] at this
 refine {ty:=ty,name:=fun f fn hf=> ?_,dst:=fun f fn c hf hc=> ?_,UM:=fun f fn c hf hc=> ?_,mix:=mix,ext:=ext}
 ·have:=key f fn hf
  unfold aag at this;simp only[fk,F0] at this;exact this.1
 ·have:=key f fn hf
  unfold aag at this;rw[hc] at this;simp only[fk] at this;exact this.2.1
 ·have:=key f fn hf
  unfold aag at this;rw[hc] at this;simp only[fk] at this;exact this.2.2
end Go.T
namespace Go.T
variable {C : pU}
def au (C:pU) (f:FuncId) (vs:List TV) (r:TV) (fs:List TV):Prop:= ∃k,lR C k f vs r fs
def RQ (C:pU) (fx:List Nat):Nat→Lp
 |0=>fun _ _ _ _ _=>False
 |n+1=>fun f i c st Q=> ∃k m x st',OO C k fx n f i c m st x st'∧Q x st'
def aX (C:pU) (f:FuncId) (vs:List TV) (Q:TV→List TV→Prop):Prop:= ∃r fs,au C f vs r fs∧Q r fs
theorem Nk {R:Type} {k k':Nat} (hk:k≤k') {fx:List Nat} {n:Nat} {Q:R→Prop} {e:Ev R} (h:e.holds (lR C k) (lpN C (lR C k) k fx n) Q):e.holds (lR C k') (lpN C (lR C k') k' fx n) Q:=
 iw (fun _ _ _ _ h=>qC hk h) (uS (fun _ _ _ _ h=>qC hk h) hk n) (fun _ h=>h) e h
theorem OO.up {k k' m m':Nat} (hk:k≤k') (hm:m≤m') {fx:List Nat} {n f i:Nat} {c:Code} {st st':TS} {x:TX} (h:OO C k fx n f i c m st x st'):OO C k' fx n f i c m' st x st':=
 Ko (fun _ _ _ _ h=>qC hk h) (uS (fun _ _ _ _ h=>qC hk h) hk n) (fun _ _ h=>h) m m' hm st h
theorem rN {R:Type} {fx:List Nat} {n:Nat} {Q:R→Prop}: ∀(e:Ev R),e.holds (au C) (RQ C fx n) Q→ ∃k r,e.holds (lR C k) (lpN C (lR C k) k fx n) (fun r'=>r'=r)∧Q r
 | .fail,h=>h.elim
 | .ret r,h=>⟨0,r,rfl,h⟩
 | .test b k,h=>rN (k b) h
 | .row rows i k,⟨c,h1,h2⟩=>by
   obtain⟨k',r,h3,h4⟩:=rN (k c) h2;exact⟨k',r,⟨c,h1,h3⟩,h4⟩
 | .byte rows i k,⟨c,h1,h2⟩=>by
   obtain⟨k',r,h3,h4⟩:=rN (k c) h2;exact⟨k',r,⟨c,h1,h3⟩,h4⟩
 | .bytes rows k,⟨c,h1,h2⟩=>by
   obtain⟨k',r,h3,h4⟩:=rN (k c) h2;exact⟨k',r,⟨c,h1,h3⟩,h4⟩
 | .call f vs k,⟨r0,fs,⟨k0,h1⟩,h2⟩=>by
   obtain⟨k',r,h3,h4⟩:=rN (k r0 fs) h2;exact⟨max k0 k',r,⟨r0,fs,qC (IN _ _) h1,Nk (Nat.le_max_right _ _) h3⟩,h4⟩
 | .loop f i c st k,h=>by
   cases n with
   |zero=>exact h.elim
   |succ n=>
    obtain⟨k0,m,x,st',h1,h2⟩:=h;obtain⟨k',r,h3,h4⟩:=rN (k x st') h2;refine⟨max (max k0 m) k',r,?_,h4⟩;have h5:=(h1.up (k':=max (max k0 m) k') (m':=max (max k0 m) k') an an).ok (de _);refine uS (fun _ _ _ _ h=>h) (de _) (n+1) _ _ _ _ _ _ (fun x1 fR hh=> ?_) h5;obtain⟨rfl,rfl⟩:=hh;exact Nk (Nat.le_max_right _ _) h3
 | .both a b,⟨r,h1,h2,h3⟩=>by
   obtain⟨k1,r1,g1,e1⟩:=rN a h1;obtain⟨k2,r2,g2,e2⟩:=rN b h2;rw[e1] at g1;rw[e2] at g2;exact⟨max k1 k2,r,⟨r,Nk (IN _ _) g1,Nk (Nat.le_max_right _ _) g2,rfl⟩,h3⟩
theorem aX.ai5 {f:FuncId} {vs:List TV} {Q:TV→List TV→Prop} (h:(body C f vs).holds (au C) (RQ C (yK (C.sig f).ps 0) 4) fun p=>Q p.1 p.2) (hx:C.ext f=none:=by rfl):aX C f vs Q:=by
 obtain⟨k,⟨r,fs⟩,h1,h2⟩:=rN _ h;exact⟨r,fs,⟨k+1,aeu hx h1⟩,h2⟩
theorem au.ext {f:FuncId} {vs:List TV} {r:TV} {fs:List TV} {p:List TV→Option (TV×List TV)} (hx:C.ext f=some p) (h:p vs=some (r,fs)):au C f vs r fs:=⟨1,agA hx h⟩
theorem RQ.round {fx:List Nat} {n f i:Nat} {c:Code} {st:TS} {Q:TX→TS→Prop} (h:(run C fx f i c st U2).holds (au C) (RQ C fx n) fun p=>match p with
 |(.norm,st')=>fTS (aco (C.lb f i) st') fun st'=>RQ C fx (n+1) f i c st' Q
 |(x,st')=>Q x st'):RQ C fx (n+1) f i c st Q:=by
 obtain⟨k,⟨x,fR⟩,h1,h2⟩:=rN _ h
 cases x with
 |norm=>
  simp only at h2;rw[xF] at h2;obtain⟨k0,m,x,st',h3,h4⟩:=h2;refine⟨max k k0,m+1,x,st',?_,h4⟩;have h5:=h3.up (k':=max k k0) (m':=m) (Nat.le_max_right _ _) (de _);refine iw (fun _ _ _ _ h=>qC (IN _ _) h) (uS (fun _ _ _ _ h=>qC (IN _ _) h) (IN _ _) n) (fun r hr=> ?_) _ h1;subst hr;simp only;rw[xF];exact h5
 |ex id=>exact⟨k,1,.ex id,fR,iw (fun _ _ _ _ h=>h) (uS (fun _ _ _ _ h=>h) (de _) n) (fun r hr=>by subst hr;exact⟨rfl,rfl⟩) _ h1,h2⟩
 |ret=>exact⟨k,1,.ret,fR,iw (fun _ _ _ _ h=>h) (uS (fun _ _ _ _ h=>h) (de _) n) (fun r hr=>by subst hr;exact⟨rfl,rfl⟩) _ h1,h2⟩
theorem RQ.mono {fx:List Nat} {n f i:Nat} {c:Code} {st:TS} {Q Q':TX→TS→Prop} (hQ: ∀x s,Q x s→Q' x s) (h:RQ C fx n f i c st Q):RQ C fx n f i c st Q':=by
 cases n with
 |zero=>exact h.elim
 |succ n=>obtain⟨k,m,x,st',h1,h2⟩:=h;exact⟨k,m,x,st',h1,hQ _ _ h2⟩
inductive Sh where
 |int (k:IntKind)|bool|str|sub (z:Nat)
inductive Fq where
 |c (s:Sh)|ag (l:List Sh)|tu (l:List (Nat×List Sh))|bx (l:List Sh)
inductive Hint where
 |z|br (a b:Hint)|both (a b:Hint)|nest (a b:Hint)|row (l:List Sh) (h:Hint)|call (r:Fq) (fs:List Fq) (h:Hint)|n (h:Hint)
def exC:Sh→(TC→Prop)→Prop
 | .int k,P=> ∃n:Int,P (.sc (.int k n))
 | .bool,P=> ∃b:Bool,P (.sc (.bool b))
 | .str,P=> ∃s:ByteArray,P (.sc (.string s))
 | .sub z,P=> ∃rows:List (List TC),P (.sub z rows)
def agV:List Sh→(List TC→Prop)→Prop
 |[],P=>P []
 |s::r,P=>exC s fun c=>agV r fun cs=>P (c::cs)
def exT:List (Nat×List Sh)→(List (Nat×List TC)→Prop)→Prop
 |[],P=>P []
 |(a,s)::r,P=>agV s fun c=>exT r fun cs=>P ((a,c)::cs)
def exV:Fq→(TV→Prop)→Prop
 | .c s,P=>exC s fun c=>P (.c c)
 | .ag l,P=>agV l fun c=>P (.ag c)
 | .tu l,P=>exT l fun c=>P (.tu c)
 | .bx l,P=>agV l fun c=>P (.bx c)
def ant:List Fq→(List TV→Prop)→Prop
 |[],P=>P []
 |s::r,P=>exV s fun c=>ant r fun cs=>P (c::cs)
theorem ai6: ∀{s:Sh} {P:TC→Prop},exC s P→ ∃c,P c
 | .int _,_,⟨_,h⟩=>⟨_,h⟩
 | .bool,_,⟨_,h⟩=>⟨_,h⟩
 | .str,_,⟨_,h⟩=>⟨_,h⟩
 | .sub _,_,⟨_,h⟩=>⟨_,h⟩
theorem Nl: ∀{l:List Sh} {P:List TC→Prop},agV l P→ ∃c,P c
 |[],_,h=>⟨_,h⟩
 |_::_,_,h=>by obtain⟨c,h⟩:=ai6 h;obtain⟨cs,h⟩:=Nl h;exact⟨_,h⟩
theorem ai7: ∀{l:List (Nat×List Sh)} {P:List (Nat×List TC)→Prop},exT l P→ ∃c,P c
 |[],_,h=>⟨_,h⟩
 |(_,_)::_,_,h=>by obtain⟨c,h⟩:=Nl h;obtain⟨cs,h⟩:=ai7 h;exact⟨_,h⟩
theorem ai8: ∀{s:Fq} {P:TV→Prop},exV s P→ ∃c,P c
 | .c _,_,h=>by obtain⟨c,h⟩:=ai6 h;exact⟨_,h⟩
 | .ag _,_,h=>by obtain⟨c,h⟩:=Nl h;exact⟨_,h⟩
 | .tu _,_,h=>by obtain⟨c,h⟩:=ai7 h;exact⟨_,h⟩
 | .bx _,_,h=>by obtain⟨c,h⟩:=Nl h;exact⟨_,h⟩
theorem aga: ∀{l:List Fq} {P:List TV→Prop},ant l P→ ∃c,P c
 |[],_,h=>⟨_,h⟩
 |_::_,_,h=>by obtain⟨c,h⟩:=ai8 h;obtain⟨cs,h⟩:=aga h;exact⟨_,h⟩
def aq (b:Bool) (A B:Prop):Prop:=match b with|true=>A|false=>B
def Ev.pre {R:Type} (cf:Cf) (lp:Lp) (Q:R→Prop):Ev R→Hint→Prop
 | .fail,_=>False
 | .ret r,_=>Q r
 | .test b k,h=>match h with| .br h1 h2=>aq b ((k true).pre cf lp Q h1) ((k false).pre cf lp Q h2)|_=>False
 | .row rows i k,h=>match h with| .row l h=>agV l fun c=>rowAt rows i=some c∧(k c).pre cf lp Q h|_=>False
 | .byte s i k,h=>match h with| .n h=> ∃b,xD s i=some b∧(k b).pre cf lp Q h|_=>False
 | .bytes rows k,h=>match h with| .n h=> ∃ns,wK rows=some ns∧(k ns).pre cf lp Q h|_=>False
 | .call f vs k,h=>match h with| .call r fs h=>exV r fun r=>ant fs fun fs=>cf f vs r fs∧(k r fs).pre cf lp Q h|_=>False
 | .loop f i c st k,_=>lp f i c st fun x st'=>(k x st').holds cf lp Q
 | .both a b,h=>match h with| .both h1 h2=> ∃r,a.pre cf lp (fun r'=>r'=r) h1∧b.pre cf lp (fun r'=>r'=r) h2∧Q r| .nest h1 h2=>a.pre cf lp (fun r=>b.pre cf lp (fun r'=>r'=r) h2∧Q r) h1|_=>False
theorem xO {R:Type} {fx:List Nat} {n:Nat} {Q:R→Prop}: ∀(e:Ev R),e.holds (au C) (RQ C fx n) Q→ ∃r,e.holds (au C) (RQ C fx n) (fun r'=>r'=r)∧Q r
 | .fail,h=>h.elim
 | .ret r,h=>⟨r,rfl,h⟩
 | .test b k,h=>xO (k b) h
 | .row rows i k,⟨c,h1,h2⟩=>by obtain⟨r,h3,h4⟩:=xO (k c) h2;exact⟨r,⟨c,h1,h3⟩,h4⟩
 | .byte rows i k,⟨c,h1,h2⟩=>by obtain⟨r,h3,h4⟩:=xO (k c) h2;exact⟨r,⟨c,h1,h3⟩,h4⟩
 | .bytes rows k,⟨c,h1,h2⟩=>by obtain⟨r,h3,h4⟩:=xO (k c) h2;exact⟨r,⟨c,h1,h3⟩,h4⟩
 | .call f vs k,⟨r0,fs,h1,h2⟩=>by obtain⟨r,h3,h4⟩:=xO (k r0 fs) h2;exact⟨r,⟨r0,fs,h1,h3⟩,h4⟩
 | .loop f i c st k,h=>by
   cases n with
   |zero=>exact h.elim
   |succ n=>
    obtain⟨k0,m,x,st',h1,h2⟩:=h;obtain⟨r,h3,h4⟩:=xO (k x st') h2;exact⟨r,⟨k0,m,x,st',h1,h3⟩,h4⟩
 | .both a b,⟨r,h1,h2,h3⟩=>⟨r,⟨r,h1,h2,rfl⟩,h3⟩
theorem wP {R:Type} {fx:List Nat} {n:Nat} {Q:R→Prop}: ∀(e:Ev R) (h:Hint),e.pre (au C) (RQ C fx n) Q h→e.holds (au C) (RQ C fx n) Q
 | .fail,_,h=>h
 | .ret r,_,h=>h
 | .test b k,.br h1 h2,h=>by
   cases b
   ·exact wP (k false) h2 h
   ·exact wP (k true) h1 h
 | .row rows i k,.row l hh,h=>by obtain⟨c,h1,h2⟩:=Nl h;exact⟨c,h1,wP _ _ h2⟩
 | .byte s i k,.n hh,⟨b,h1,h2⟩=>⟨b,h1,wP _ _ h2⟩
 | .bytes s k,.n hh,⟨b,h1,h2⟩=>⟨b,h1,wP _ _ h2⟩
 | .call f vs k,.call r fs hh,h=>by obtain⟨r,h⟩:=ai8 h;obtain⟨fs,h1,h2⟩:=aga h;exact⟨r,fs,h1,wP _ _ h2⟩
 | .loop f i c st k,_,h=>h
 | .both a b,.both ha hb,⟨r,h1,h2,h3⟩=>⟨r,wP a ha h1,wP b hb h2,h3⟩
 | .both a b,.nest ha hb,h=>by
   obtain⟨r,h1,h2,h3⟩:=xO a (wP a ha h);exact⟨r,h1,wP b hb h2,h3⟩
inductive fU where
 |l|r|b
def aeZ:Code→List fU→Code
 |c,[]=>c
 | .seq a b,d::p=>match d with| .l=>aeZ a p|_=>aeZ b p
 | .cond _ a b,d::p=>match d with| .l=>aeZ a p|_=>aeZ b p
 | .block _ a,_::p=>aeZ a p
 | .loop a,_::p=>aeZ a p
 |c,_=>c
def amB (C:pU) (f:FuncId):Code:=match C.P.funcs[f]? with
 |none=> .skip
 |some fn=>match fn.body with
  |none=> .skip
  |some c=>c
def aqP (C:pU) (f:FuncId):List ResultVar:=match C.P.funcs[f]? with
 |none=>[]
 |some fn=>fn.results.toList
def abb (C:pU) (f:FuncId) (p:List fU):Code:=match aeZ (amB C f) p with
 | .loop c=>c
 |c=>c
def after (C:pU) (fx:List Nat) (f:FuncId) {R:Type}:Nat→Code→List fU→(TX→TS→Ev R)→(TX→TS→Ev R)
 |i,.seq a b,d::p,K=>match d with
  | .l=>after C fx f i a p fun x st'=>match x with
    | .norm=>run C fx f i b st' K
    |x=>K x st'
  |_=>after C fx f i b p K
 |i,.cond _ a b,d::p,K=>match d with
  | .l=>after C fx f i a p K
  |_=>after C fx f i b p K
 |_,.block id a,_::p,K=>after C fx f id a p fun x st'=>match x with
  | .ex id'=>match Nat.beq id' id with|true=>K .norm st'|false=>K (.ex id') st'
  |x=>K x st'
 |_,_,_,K=>K
abbrev fxs (C:pU) (f:FuncId):List Nat:=yK (C.sig f).ps 0
def ai9 (C:pU) (f:FuncId) (p:List fU):TX→TS→Ev (TV×List TV):=after C (fxs C f) f 0 (amB C f) p (aid C (C.sig f) (aqP C f))
def aja (C:pU) (f:FuncId) (p:List fU) (i:Nat) (q:List fU):TX→TS→Ev (TX×TS):=after C (fxs C f) f i (abb C f p) q U2
def ah (C:pU) (f:FuncId) (p:List fU) (n i:Nat) (st:TS) (Q:TX→TS→Prop):Prop:=RQ C (fxs C f) n f i (abb C f p) st Q
def ax (C:pU) (f:FuncId) (p:List fU) (x:TX) (st:TS) (Q:TV→List TV→Prop):Prop:=(ai9 C f p x st).holds (au C) (RQ C (fxs C f) 4) fun p=>Q p.1 p.2
def ajb (C:pU) (f:FuncId) (p:List fU) (n i:Nat) (Q:TX→TS→Prop):TX×TS→Prop
 |(.norm,st')=>fTS (aco (C.lb f i) st') fun st'=>ah C f p n i st' Q
 |(x,st')=>Q x st'
def qF (C:pU) (f:FuncId) (p:List fU) (n i:Nat) (q:List fU) (x:TX) (st:TS) (Q:TX→TS→Prop):Prop:=(aja C f p i q x st).holds (au C) (RQ C (fxs C f) (n-1)) (ajb C f p n i Q)
theorem api {f:FuncId} {vs:List TV} {Q:TV→List TV→Prop} {Φ:Prop} (h:Hint) (e:(body C f vs).pre (au C) (RQ C (fxs C f) 4) (fun p=>Q p.1 p.2) h=Φ) (hΦ:Φ) (hx:C.ext f=none:=by rfl):aX C f vs Q:=
 aX.ai5 (wP _ h (e▸hΦ)) hx
theorem anu {f:FuncId} {p:List fU} {x:TX} {st:TS} {Q:TV→List TV→Prop} {Φ:Prop} (h:Hint) (e:(ai9 C f p x st).pre (au C) (RQ C (fxs C f) 4) (fun p=>Q p.1 p.2) h=Φ) (hΦ:Φ):ax C f p x st Q:=
 wP _ h (e▸hΦ)
theorem ald {f:FuncId} {p q:List fU} {n i:Nat} {x:TX} {st:TS} {Q:TX→TS→Prop} {Φ:Prop} (h:Hint) (e:(aja C f p i q x st).pre (au C) (RQ C (fxs C f) (n-1)) (ajb C f p n i Q) h=Φ) (hΦ:Φ):qF C f p n i q x st Q:=
 wP _ h (e▸hΦ)
theorem anv {f:FuncId} {p:List fU} {n i:Nat} {st:TS} {Q:TX→TS→Prop} {Φ:Prop} (h:Hint) (e:(run C (fxs C f) f i (abb C f p) st U2).pre (au C) (RQ C (fxs C f) n) (ajb C f p (n+1) i Q) h=Φ) (hΦ:Φ):ah C f p (n+1) i st Q:=by
 refine RQ.round ?_;have:=wP _ h (e▸hΦ);exact iw (fun _ _ _ _ h=>h) (fun f i c st Q Q' hQ hh=>hh.mono hQ) (fun r hr=>by obtain⟨x,st'⟩:=r;cases x<;>exact hr) _ this
theorem aX.run {f:FuncId} {vs:List TV} {r:TV} {fs:List TV} (h:aX C f vs fun r' fs'=>r'=r∧fs'=fs):au C f vs r fs:=by
 obtain⟨r',fs',h1,rfl,rfl⟩:=h;exact h1
end Go.T
namespace Go.T
@[simp] theorem lE {A B:Prop}:aq true A B=A:=rfl
@[simp] theorem mw {A B:Prop}:aq false A B=B:=rfl
@[simp] theorem bY {b:Bool} {A B:Prop}:aq (!b) A B=aq b B A:=by cases b<;>rfl
@[simp] theorem fH {a b:Bool} {A B:Prop}:aq (a&&b) A B=aq a (aq b A B) B:=by cases a<;>rfl
@[simp] theorem ij {a b:Bool} {A B:Prop}:aq (a||b) A B=aq a A (aq b A B):=by cases a<;>rfl
@[simp] theorem bK {p:Prop} [Decidable p] {A B:Prop}:aq (decide p) A B=if p then A else B:=by
  by_cases h:p<;>simp[h]
theorem ai {b:Bool} {A B:Prop} (h:b=true) (hA:A):aq b A B:=by subst h;exact hA
theorem aa {b:Bool} {A B:Prop} (h:b=false) (hB:B):aq b A B:=by subst h;exact hB
theorem td {b:Bool} {A B:Prop} (hA:b=true→A) (hB:b=false→B):aq b A B:=by cases b;exact hB rfl;exact hA rfl
@[simp] theorem eX (a b:Int):bG a b=decide (a<b):=by unfold bG;rfl
@[simp] theorem gy (a b:Int):nv a b=decide (a≤b):=by unfold nv;rfl
@[simp] theorem bF (a b:Int):bO a b=decide (a=b):=by unfold bO;by_cases h:a=b<;>simp[h]
@[simp] theorem VB (a b:Bool):eqB a b=decide (a=b):=by unfold eqB;cases a<;>cases b<;>rfl
theorem agW {a b:ByteArray} (h:a.toList=b.toList):a=b:=by
 rw[ByteArray.toList_eq,ByteArray.toList_eq] at h;obtain⟨⟨x⟩⟩:=a;obtain⟨⟨y⟩⟩:=b;simp only at h;rw[h]
@[simp] theorem Fs (a b:ByteArray):uL a b=decide (a=b):=by
  unfold uL
  by_cases h:a=b
  ·subst h;simp
  ·have:a.toList≠b.toList:=fun e=>h (agW e)
   simp[h,this]
@[simp] theorem ale (n b:Nat):fits n b=decide (n*b≤140737488355328∧n≤140737488355328):=by unfold fits;rfl
@[simp] theorem Ft (n:Int):uE n=n.toNat:=by unfold uE;rfl
@[simp] theorem alf (a b:Int):RN a b=if b<a then b else a:=by unfold RN;rfl
theorem alg {a b:Int} (h: -9223372036854775808≤a+b∧a+b≤9223372036854775807):aek .i64 a b=a+b:=by unfold aek;exact IntWalk.i64_in _ h
theorem alh {a b:Int} (h: -9223372036854775808≤a-b∧a-b≤9223372036854775807):UW .i64 a b=a-b:=by unfold UW;exact IntWalk.i64_in _ h
theorem ali {a b:Int} (h: -9223372036854775808≤a*b∧a*b≤9223372036854775807):ael .i64 a b=a*b:=by unfold ael;exact IntWalk.i64_in _ h
@[simp] theorem alj (a b:Int):Dh a b=a.tmod b:=by unfold Dh;rfl
theorem aai (l:List (List TC)) (i:Nat):rowAt l (i:Int)=l[i]?:=by
 unfold rowAt;rw[aJ (Int.natCast_nonneg i),mT]
theorem ek {α:Type} {e:α→List TC} {l:List α} {i:Nat} {a:α} (h:l[i]?=some a):rowAt (l.map e) (i:Int)=some (e a):=by
 rw[aai,mm,h];rfl
theorem VC (l:List (List TC)) (i f:Nat) (cs:List TC) {r:List TC} (h:l[i]?=some r):setRow l (i:Int) f cs=l.set i (r.take f++cs++r.drop (f+cs.length)):=by
 unfold setRow;rw[mT,h]
theorem LG {α:Type} {e:α→List TC} {l:List α} {i:Nat} {a a':α} {f:Nat} {cs:List TC} (h:l[i]?=some a) (he:(e a).take f++cs++(e a).drop (f+cs.length)=e a'):setRow (l.map e) (i:Int) f cs=(l.set i a').map e:=by
 rw[VC (r:=e a) _ _ _ _ (by rw[mm,h];rfl),he,List.map_set]
theorem ac3 {α:Type} {e:α→List TC} {l:List α} {i k:Nat} {a:α} {z cs:List TC} (h:l[i]?=some a) (he:cs=e a) (hz:z.length=cs.length):setRow ((l.take i).map e++List.replicate (k+1) z) (i:Int) 0 cs=(l.take (i+1)).map e++List.replicate k z:=by
 have hi:i<l.length:=(List.getElem?_eq_some_iff.1 h).1
 have hl:((l.take i).map e).length=i:=by simp;omega
 rw[VC (r:=z) _ _ _ _ (by rw[pP an,hl];simp)];rw[List.take_zero,xy,nB,←hz,eK,qv];rw[List.set_append_right _ _ an,hl,qT,List.replicate_succ,List.set_cons_zero];rw[List.take_add_one,h];simp[he]
theorem ajc {α:Type} {e:α→List TC} {l:List α} {i k:Nat} {z:List TC} (hi:i≤l.length):rowAt ((l.take i).map e++List.replicate (k+1) z) (i:Int)=some z:=by
 rw[aai,pP fj];simp[Nat.min_eq_left hi]
section
variable {C : pU}
end
section
variable {tt : TypeId → nT} {t : TypeId} {cs : List TC}
theorem zJ.qG {k:IntKind} (ht:(tt t).ti= .int k) (h:zJ tt t cs): ∃n,cs=[.sc (.int k n)]∧(Lit.int k n).wf=true:=by
 cases h with
 |int h1 h2=>rw[ht] at h1;cases h1;exact⟨_,rfl,h2⟩
 |bool h1=>rw[ht] at h1;cases h1
 |str h1 _=>rw[ht] at h1;cases h1
 |slice h1 _ _ _=>rw[ht] at h1;cases h1
 |struct h1 _ _ _=>rw[ht] at h1;cases h1
theorem anw {n:Int} (h:(Lit.int .i64 n).wf=true): -9223372036854775808≤n∧n≤9223372036854775807:=by
 simp only[Lit.wf,fk,decide_eq_true_eq] at h;have h1:IntKind.i64.min= -9223372036854775808:=rfl;have h2:IntKind.i64.max=9223372036854775807:=rfl;omega
theorem zJ.ac4 (ht:(tt t).ti= .bool) (h:zJ tt t cs): ∃b,cs=[.sc (.bool b)]:=by
 cases h with
 |int h1 h2=>rw[ht] at h1;cases h1
 |bool h1=>exact⟨_,rfl⟩
 |str h1 _=>rw[ht] at h1;cases h1
 |slice h1 _ _ _=>rw[ht] at h1;cases h1
 |struct h1 _ _ _=>rw[ht] at h1;cases h1
theorem zJ.abc (ht:(tt t).ti= .str) (h:zJ tt t cs): ∃s,cs=[.sc (.string s)]∧s.size≤reachBytes:=by
 cases h with
 |int h1 h2=>rw[ht] at h1;cases h1
 |bool h1=>rw[ht] at h1;cases h1
 |str h1 h2=>exact⟨_,rfl,h2⟩
 |slice h1 _ _ _=>rw[ht] at h1;cases h1
 |struct h1 _ _ _=>rw[ht] at h1;cases h1
theorem zJ.xP {e:TypeId} (ht:(tt t).ti= .slice e) (h:zJ tt t cs): ∃rows,cs=[.sub (tt e).size rows]∧(∀r∈rows,zJ tt e r)∧rows.length*(tt e).bytes≤reachBytes:=by
 cases h with
 |int h1 h2=>rw[ht] at h1;cases h1
 |bool h1=>rw[ht] at h1;cases h1
 |str h1 h2=>rw[ht] at h1;cases h1
 |slice h1 rows h2 h3=>rw[ht] at h1;cases h1;exact⟨_,rfl,h2,h3⟩
 |struct h1 _ _ _=>rw[ht] at h1;cases h1
inductive zK (tt:TypeId→nT):List (Nat×TypeId)→List TC→Prop
 |nil:zK tt [] []
 |cons {p:Nat×TypeId} {fs:List (Nat×TypeId)} {q cs:List TC} (h:zJ tt p.2 q) (hs:zK tt fs cs):zK tt (p::fs) (q++cs)
theorem zJ.tf {fs:List (Nat×TypeId)} (ht:(tt t).ti= .struct fs) (h:zJ tt t cs):zK tt fs cs:=by
 cases h with
 |int h1 h2=>rw[ht] at h1;cases h1
 |bool h1=>rw[ht] at h1;cases h1
 |str h1 h2=>rw[ht] at h1;cases h1
 |slice h1 rows h2 h3=>rw[ht] at h1;cases h1
 |struct h1 parts hl hf=>
  rw[ht] at h1;cases h1;clear ht
  induction fs generalizing parts with
  |nil=>cases parts with
   |nil=>exact .nil
   |cons _ _=>cases hl
  |cons p fs ih=>cases parts with
   |nil=>cases hl
   |cons q qs=>exact .cons (hf 0 p q rfl rfl) (ih qs (by simpa using hl) fun j p q h1 h2=>hf (j+1) p q (by simpa using h1) (by simpa using h2))
theorem zK.BP (h:zK tt [] cs):cs=[]:=by cases h;rfl
theorem zK.cons_inv {p:Nat×TypeId} {fs:List (Nat×TypeId)} (h:zK tt (p::fs) cs): ∃q r,cs=q++r∧zJ tt p.2 q∧zK tt fs r:=by
 cases h with
 |cons h hs=>exact⟨_,_,rfl,h,hs⟩
theorem tg {α:Type} {e:α→List TC} {W:α→Prop}: ∀{rows:List (List TC)},(∀r∈rows,∃a,r=e a∧W a)→ ∃l:List α,rows=l.map e∧ ∀a∈l,W a
 |[],_=>⟨[],rfl,fun a h=>by cases h⟩
 |r::rows,h=>by
  obtain⟨a,rfl,ha⟩:=h r (.head _);obtain⟨l,rfl,hl⟩:=tg (rows:=rows) fun r hr=>h r (.tail _ hr);refine⟨a::l,rfl,fun b hb=> ?_⟩;rcases gj.1 hb with rfl|hb
  ·exact ha
  ·exact hl b hb
end
end Go.T
namespace Go.T
open Go.RowKit
variable {C : pU}
section
variable {H : Type} {enc : TypeId × Value → H}
theorem ac5 {P:Program} {W W':World} (hl:laidOutB P=true) (hb:Below W.heap.size W W'): ∀{ts:List TypeId} {vs:List Value} {ds:List (DataW H)} {ps:List MemPlace},ts.all (fun t=>P.readableRec t&&decide (t<P.types.size))=true→DataW.TrodAll enc P W 0 (fun _=>true) true ts vs ds ps→
 DataW.TrodAll enc P W' 0 (fun b=>decide (b<W.heap.size)) true ts vs ds ps
 |[],vs,ds,ps,_,h=>by
  obtain⟨rfl,rfl,rfl⟩:=ChangeShapes.trodAll_nil h;exact ChangeShapes.trodAll_mk0
 |t::ts,vs,ds,ps,hr,h=>by
  obtain⟨v,vs',d,ds',p,q,rfl,rfl,rfl,h1,h2⟩:=ChangeShapes.trodAll_cons h;simp only[qu,fk,decide_eq_true_eq] at hr
  have hlt: ∀x∈p,x.block<W.heap.size:=by obtain⟨n,hn⟩:=h1;exact DataW.trod_lt n _ _ _ hn
  exact trodAll_cons_mk (Below.trod hl hr.1.1 hr.1.2 h1 hb hlt) (ac5 hl hb hr.2 h2)
theorem Rv {P:Program} {W:World}: ∀{ts:List TypeId} {vs:List Value} {ds:List (DataW H)} {ps:List MemPlace},DataW.TrodAll enc P W 0 (fun _=>true) true ts vs ds ps→ds.length=ts.length
 |[],vs,ds,ps,h=>by obtain⟨rfl,rfl,rfl⟩:=ChangeShapes.trodAll_nil h;rfl
 |t::ts,vs,ds,ps,h=>by
  obtain⟨v,vs',d,ds',p,q,rfl,rfl,rfl,h1,h2⟩:=ChangeShapes.trodAll_cons h;simp[Rv h2]
theorem ajd (hC:acZ C) {f:FuncId} {fn:Func} {s:ChangeSpec} {ts:List TypeId} {tb:TypeId} {m base:Nat} {W:World} {args:Array Value} {ds gs:List (DataW H)} {before:List MemPlace} (ap4:laidOutB C.P=true)
 (hfn:fn.params.toList=ts) (hres:fn.resultTypes= #[tb]) (htb:C.P.underlying tb=some .bool) (hvars:s.vars=[]) (ap5:ts.all (fun t=>C.P.readableRec t&&decide (t<C.P.types.size))=true) (ho:ts.all (okP C.tt m)=true)
 (hps:(C.sig f).ps=ts.map fun _=> .borrow) (hn:ts.length≤50) (ap6: ∀ds:List (DataW H),ds.length=ts.length→(s.fn H ds).results=[.lit (.bool true)]∧(s.fn H ds).args=ds∧(s.fn H ds).vars=[])
 (law: ∀vs,ac1 C.tt ts vs→ ∃k,lR C k f vs (.c (.sc (.bool true))) [])
 (hval: ∀(j:Nat) t v,fn.params[j]?=some t→args[j]?=some v→Value.okWide C.P W .any base t v) (hW:DataW.Whole enc C.P fn.params.toList s.vars false W args.toList ds gs before)
 (hsz:(DataW.weightsEach C.P (fn.params.toList++s.plain.varTypes C.P) (ds++gs)).all (· ≤reachBytes)=true):
 Calls C.P f args W fun e W'=> ∃v,e= .returned v∧s.post enc C.P fn false true false false W args v W':=by
 have hW':=hW;obtain⟨p,q,hA,hV,rfl,hfz,hnd⟩:=hW;rw[hvars] at hV;obtain⟨rfl,rfl⟩:=ChangeShapes.trodVars_none hV
 have hvt:s.plain.varTypes C.P=[]:=by
  unfold ChangeSpec.plain DataSpec.varTypes;rw[hvars];rfl
 rw[hvt,qv,qv,hfn] at hsz;rw[hfn] at hA;refine(agU hC hA ho (fun j t v h1 h2=>hval j t v (by rw[←hfn] at h1;simpa using h1) h2) hsz hps hn law).mono fun e W' ⟨he,bel⟩=> ?_;subst he;obtain⟨s1,s2,s3⟩:=ap6 ds (Rv hA);refine⟨_,rfl,ds,[],_,[],p,[],hW',?_,?_,?_,bel.frame _,fun h=>by cases h⟩
 ·rw[qv,s1,hres]
  exact ChangeShapes.trodAll_mk1 (shut_bool htb _)
 ·rw[qv,s2,hfn]
  exact ac5 ap4 bel ap5 hA
 ·rw[qv,s3,hvars]
  rfl
end
end Go.T
