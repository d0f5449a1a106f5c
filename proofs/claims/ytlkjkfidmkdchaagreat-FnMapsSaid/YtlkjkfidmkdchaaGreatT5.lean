import Derived.Test.YtlkjkfidmkdchaaGreatT4
import Derived.LoopN
import Derived.ChangeArms
import Derived.ChangeSlices
import Derived.WideShapes
import Derived.SizedLaws
import Derived.RowKit
import Derived.ChangeOld
import Derived.Test.YtlkjkfidmkdchaaGreatT1
import Derived.IntWalk
import Derived.Carry
import Derived.OpenShut
set_option linter.all false
namespace Go.T
variable {F : Nat → Prop} {A : Arg} {w0 w w' : World} {φ φ' φ1 : Fp} {st st' sta eM qf : TS} {tm IF : Array Value} {C : mG}
variable {R : Type} {cf : Cf} {lp : Lp} {Q : R → Prop}
variable {fx : List Nat} {g : Nat → Value} {n : Nat}
def vJ (o:Oper):Bool:=match o.op with| .load _ _=>true|_=>false
def Km (o:Oper):Bool:=match o.op with| .select _ _=>true|_=>false
def yy (C:mG) (o:Oper):Bool:=match FX C o with|true=>true|false=>vJ o
def ru (o:Oper):List Nat:=(o.after.toList.filter (Region.binds .any)).map (·.on)
def abd:List Nat→List Nat→Bool
 |[],_=>true
 |a::r,l=>match m8 a l with|true=>abd r l|false=>false
def BA (ops:Array Oper):Nat→Nat→List Nat→List Nat
 |0,_,W=>W
 |k+1,j,W=>match ops[j]? with
  |some o=>match w9 (ru o) W with|true=>BA ops k (j+1) (j::W)|false=>BA ops k (j+1) W
  |none=>W
def afp (ops:Array Oper) (W:List Nat) (i:Nat) (oi:Oper) (j:Nat) (oj:Oper):Bool:=
 ((match oj.dst with|some d=> !m8 d (oi.looksAt ops)|none=>true)||(!vJ oi&&m8 j W))&&
 (m8 j W||((match oj.dst with|some d=>(match oi.dst with|some e=> !Nat.beq d e|none=>true)|none=>true)&&
 (m8 i (ru oj)||(match oi.dst with|some d=> !m8 d (oj.looksAt ops)|none=>true))))
def Ro (ops:Array Oper) (oi:Oper):Bool:=match oi.dst with|some d=> !m8 d (oi.looksAt ops)|none=>true
def Rq (f:Nat→Bool):Nat→Bool
 |0=>true
 |k+1=>match f k with|true=>Rq f k|false=>false
theorem BC {f:Nat→Bool}: ∀{k:Nat},Rq f k=true→ ∀j,j<k→f j=true
 |0,_,j,h=>absurd h au
 |k+1,h,j,hj=>by
  simp only[Rq] at h
  split at h
  ·by_cases e:j=k
   ·subst e;assumption
   ·exact BC h j au
  ·cases h
def G8.z6:G8→List Nat
 | .nil=>[]
 | .op i _ _=>[i]
 | .alt a b=>a.z6++b.z6
def G8.len:G8→Nat
 | .nil=>0
 | .op _ _ r=>r.len+1
 | .alt a _=>a.len
def opB (C:mG) (ops:Array Oper) (hs:Option (List Nat)) (S:List Nat) (i:Nat) (fl:List Nat) (o:Oper):Bool:=
 !m8 i S&&abd (ru o) S&& !Km o&&(match yy C o with
   |true=>hs.isNone&&Ro ops o&&fL fN (BA ops ops.size 0 [i]) fun W=>Rq (fun j=>m8 j S||Nat.beq j i||(match ops[j]? with|some oj=>afp ops W i o j oj|none=>true)) ops.size
   |false=>Rq (fun j=>m8 j S||Nat.beq j i||m8 j (hs.getD [])||(match ops[j]? with|some oj=> !abd (ru oj) S|none=>true)) ops.size&&
     Rq (fun l=> !m8 l S||m8 l fl||(match ops[l]? with|some ol=> !vJ ol|none=>true)||m8 i (BA ops ops.size 0 [l])) ops.size)
def iH (C:mG) (ops:Array Oper):Option (List Nat)→List Nat→G8→Bool
 |none,S,.nil=>Rq (fun j=>m8 j S) ops.size
 |some _,_,.nil=>false
 |hs,S,.op i fl r=>match ops[i]? with
  |none=>false
  |some o=>opB C ops hs S i fl o&&iH C ops none (i::S) r
 |hs,S,.alt a b=>iH C ops (some (hs.getD (a.z6++b.z6))) S a&&iH C ops (some (hs.getD (a.z6++b.z6))) S b&&Nat.beq a.len b.len
theorem ahL {a l:List Nat} (h:abd a l=true): ∀x∈a,x∈l:=by
 induction a with
 |nil=>intro x hx;cases hx
 |cons y r ih=>
  simp only[abd] at h
  split at h
  ·intro x hx
   rcases dJ.1 hx with rfl|hx
   ·exact mj.1 ir
   ·exact ih h x hx
  ·cases h
theorem ahM {a l:List Nat} (h: ∀x∈a,x∈l):abd a l=true:=by
 induction a with
 |nil=>rfl
 |cons y r ih=>
  simp only[abd,mj.2 (h y (.head _))];exact ih fun x hx=>h x (.tail _ hx)
def YN (P:Program) (ops:Array Oper) (o:Oper) (v:Value) (a:Act) (w:World):Prop:=
 (Region.wanted o (yielded ops a.tmps)=true∧(execOp a.eval o).run P w= .ok (.value v) w)∨(Region.wanted o (yielded ops a.tmps)=false∧v=undef)
def Kp (C:mG) (ops:Array Oper) (o:Oper) (v:Value) (a:Act) (w:World):Prop:=
 (Region.wanted o (yielded ops a.tmps)=false∧v=undef)∨(Region.wanted o (yielded ops a.tmps)=true∧
   ((∀w,(execOp a.eval o).run C.P w= .ok (.value v) w)∨ ∃t x ad vs,o.op= .load t x∧a.eval x= .pointer (some ad)∧known (C.tt t)=true∧vs.length=(C.tt t).size∧(∀(j:Nat) (u:Value),vs[j]?=some u→w.cell? (ad.add j)=some u)∧v=valOf (C.tt t) vs))
theorem Kp.yn (hT:ij C) {ops:Array Oper} {o:Oper} {v:Value} {a:Act} (h:Kp C ops o v a w):YN C.P ops o v a w:=by
 rcases h with⟨h1,h2⟩|⟨h1,h2|⟨t,x,ad,vs,ho,hx,hk,hl,hc,rfl⟩⟩
 ·exact .inr ⟨h1,h2⟩
 ·exact .inl ⟨h1,h2 w⟩
 ·refine .inl ⟨h1,?_⟩
  have:=CI (hT t hk) w ad vs hl hc;unfold execOp;rw[ho];simp only[hx,Instr.loadAt,Instr.sureAddr,Sem.run_bind,Sem.run_pure,Result.andThen];rw[this]
  rfl
theorem Kp.same {ops:Array Oper} {o:Oper} {v:Value} {a a':Act} (h:Kp C ops o v a w) (he:execOp a'.eval o=execOp a.eval o) (hx: ∀t x,o.op= .load t x→a'.eval x=a.eval x) (hw:Region.wanted o (yielded ops a'.tmps)=Region.wanted o (yielded ops a.tmps)):Kp C ops o v a' w:=by
 unfold Kp at*;rw[hw,he];rcases h with h|⟨h1,h2|⟨t,x,ad,vs,ho,hx',hr⟩⟩
 ·exact .inl h
 ·exact .inr ⟨h1,.inl h2⟩
 ·exact .inr ⟨h1,.inr ⟨t,x,ad,vs,ho,(hx t x ho).trans hx',hr⟩⟩
theorem Kp.world (hT:ij C) {ops:Array Oper} {o:Oper} {v:Value} {a:Act} (h:Kp C ops o v a w) (hw: ∀t x ad,o.op= .load t x→a.eval x= .pointer (some ad)→Region.wanted o (yielded ops a.tmps)=true→ad.block<w.heap.size→w'.heap[ad.block]?=w.heap[ad.block]?):Kp C ops o v a w':=by
 rcases h with h|⟨h1,h2|⟨t,x,ad,vs,ho,hx,hk,hl,hc,hv⟩⟩
 ·exact .inl h
 ·exact .inr ⟨h1,.inl h2⟩
 ·refine .inr ⟨h1,.inr ⟨t,x,ad,vs,ho,hx,hk,hl,fun j u hj=> ?_,hv⟩⟩
  have hcj:=hc j u hj;have hlt:=World.block_lt_of_cell? w _ hcj;rw[cR] at hlt;rw[gT (w:=w) (by rw[cR];exact hw t x ad ho hx h1 hlt)];exact hcj
theorem abe (hT:ij C) {a:Act} (h:bw F A w0 φ st a.tmps w) {t:TypeId} {x:Operand} {K:TE→Ev R} (hk:(H9 C st t (ua C st 0 x) K).holds cf lp Q):
 ∃(ad:Addr) (vs:List Value),a.eval x= .pointer (some ad)∧known (C.tt t)=true∧vs.length=(C.tt t).size∧ ∀(j:Nat) (u:Value),vs[j]?=some u→w.cell? (ad.add j)=some u:=by
 have ht:=fC hT h 0 x
 have fin: ∀(ad:Addr) (xs:List CE) (K:TE→Ev R),a.eval x= .pointer (some ad)→(∀(j:Nat) (e:CE),xs[j]?=some e→ ∃u,w.cell? (ad.add j)=some u)→(H8 C t xs K).holds cf lp Q→
  ∃(ad:Addr) (vs:List Value),a.eval x= .pointer (some ad)∧known (C.tt t)=true∧vs.length=(C.tt t).size∧ ∀(j:Nat) (u:Value),vs[j]?=some u→w.cell? (ad.add j)=some u:=by
  intro ad xs K hv hx hk;unfold H8 at hk
  split at hk
  ·rename_i hkn hl
   obtain⟨vs,h1,h2⟩:=J9 (Pr:=fun j (e:CE) u=>w.cell? (ad.add j)=some u) xs 0 (fun j e he=>by rw[lG];exact hx j e he);refine⟨ad,vs,hv,hkn,by rw[h1];exact jw hl,fun j u hj=> ?_⟩
   have hlt:j<xs.length:=by rw[←h1];exact(List.getElem?_eq_some_iff.1 hj).1
   obtain⟨u',g1,g2⟩:=h2 j xs[j] (bC hlt);rw[hj] at g1;cases g1;rw[lG] at g2;exact g2
  ·exact hk.elim
 cases he:ua C st 0 x with
 |bp b off=>
  rw[he] at ht hk;simp only[H9] at hk
  split at hk
  ·rename_i cs hb
   refine fin _ _ _ ht (fun j e he=> ?_) hk;have he:=gU he;rw[o5] at he;obtain⟨u,g1,g2⟩:=h.box b cs hb _ e he;exact⟨u,by rw[Addr.add_add];exact g1⟩
  ·exact hk.elim
 |ep ds cells=>
  rw[he] at ht hk;simp only[H9] at hk;obtain⟨hd,ad,hv,hr,hc⟩:=ht;refine fin ad _ _ hv (fun j e he=> ?_) hk;obtain⟨tc,g1,rfl⟩:=vZ _ _ _ _ _ _ he;obtain⟨u,g2,g3⟩:=hc j tc (gU g1);exact⟨u,g2⟩
 |er o path i f=>
  rw[he] at ht hk;simp only[H9] at hk;obtain⟨ad,cells,hv,hr,hc,hk,hl⟩:=Q1 h.obj ht hk;refine fin ad _ _ hv (fun j e he=> ?_) hk;obtain⟨tc,g1,rfl⟩:=vZ _ _ _ _ _ _ he;obtain⟨u,g2,g3⟩:=hc j tc (gU g1);exact⟨u,g2⟩
 |_=>rw[he] at hk;exact hk.elim
theorem LY (hT:ij C) {a:Act} (h:bw F A w0 φ st a.tmps w) {ops:Array Oper} {o:Oper}: ∀{fl:List Nat},FO C ops st o fl=true→ ∀l∈fl,∀ol,ops[l]?=some ol→ ∀t x ad,ol.op= .load t x→a.eval x= .pointer (some ad)→Region.wanted ol (yielded ops a.tmps)=true→
 ¬Wr st φ (writes C st o) ad.block
 |[],_,l,hl,_,_,_,_,_,_,_,_=>by cases hl
 |l0::r,hf,l,hl,ol,hol,t,x,ad,ho,hx,hw=>by
  simp only[FO] at hf
  split at hf
  ·rename_i ol0 aiP
   split at hf
   ·rename_i G7
    rcases dJ.1 hl with rfl|hl
    ·exfalso
     rw[hol] at aiP;cases aiP;unfold aiX at G7
     split at G7
     ·cases G7
     ·rename_i j want hg
      split at G7
      ·rename_i oj hj
       split at G7
       ·rename_i tt ht
        split at G7
        ·rename_i b hb
         have hv:=h.tmp tt;rw[hb] at hv;have hy:=IX hj ht hv;unfold Region.wanted at hw;rw[hg] at hw;simp only[hy] at hw
         split at G7
         ·cases hw
         ·cases hw
         ·cases G7
        ·rename_i hb
         have hv:=h.tmp tt;rw[hb] at hv;have hy:=Rn hj ht (acz hv);unfold Region.wanted at hw;rw[hg] at hw;simp only[hy] at hw
         cases hw
        ·cases G7
       ·cases G7
      ·cases G7
    ·exact LY hT h hf l hl ol hol t x ad ho hx hw
   ·split at hf
    ·rename_i rdl hrd
     split at hf
     ·cases hf
     ·rename_i ac2
      rcases dJ.1 hl with rfl|hl
      ·rw[hol] at aiP;cases aiP
       have ac2:=fun {y} (hy:y∈rdl)=>tw ac2 hy;have ht:=fC hT h 0 x
       have obj: ∀{oo k},2*oo∈rdl→aT st.ob oo→φ.S oo k→ ¬Wr st φ (writes C st o) k:=fun {oo k} hm hd hS hwr=>by
        rcases hwr with⟨b,cs,b1,b2,b3,b4⟩|⟨o2,o1,o3,o4⟩
        ·exact h.pW hd hS b2 b4.symm
        ·have:=h.sep.apart oo o2 k hd o3 hS o4
         subst this;exact ac2 hm o1
       have roI: ∀{k},φ.I k→ ¬Wr st φ (writes C st o) k:=fun {k} hI hwr=>by
        rcases hwr with⟨b,cs,b1,b2,b3,b4⟩|⟨o2,o1,o3,o4⟩
        ·subst b4;exact(h.sep.box b cs b2 b3).1 hI
        ·exact h.sep.read o2 k o3 o4 hI
       have arg: ∀{k},φ.S 0 k→ ¬Wr st φ (writes C st o) k:=fun {k} hS hwr=>by
        rw[h.sep.arg] at hS;have hc:=h.sep.oY k hS;rcases hwr with⟨b,cs,b1,b2,b3,b4⟩|⟨o2,o1,o3,o4⟩
        ·subst b4
         rcases (h.sep.box b cs b2 b3).2.2.1 with h3|h3
         ·omega
         ·exact hc.2 h3
        ·rcases (h.sep.fresh o2 k o3 o4).2 with h3|h3
         ·omega
         ·exact hc.2 h3
       unfold aeA at hrd;rw[ho] at hrd;simp only at hrd
       split at hrd
       ·rename_i b off he
        rw[he] at ht
        split at hrd
        ·rename_i cs hb
         cases hrd
         have ht:a.eval x= .pointer (some ((φ.β b).add off)):=ht;rw[hx] at ht
         cases ht
         rw[cR];intro hwr;rcases hwr with⟨b',cs',b1,b2,b3,b4⟩|⟨o2,o1,o3,o4⟩
         ·by_cases TF:b=b'
          ·subst TF;exact ac2 (.head _) b1
          ·exact(h.sep.box b' cs' b2 b3).2.2.2 b cs hb TF b4
         ·exact h.pW o3 o4 hb rfl
        ·cases hrd
       ·rename_i ds c0 cells he
        rw[he] at ht
        cases hrd
        obtain⟨hd,ad',hv,hr,_⟩:=ht;rw[hx] at hv
        cases hv
        rcases hr bZ with hI|⟨d,hm,hS⟩
        ·exact roI hI
        ·rcases hd d hm with rfl|hdd
         ·exact arg hS
         ·exact obj (List.mem_map.2 ⟨d,hm,rfl⟩) hdd hS
       ·rename_i oo i f he
        rw[he] at ht
        cases hrd
        obtain⟨b,hb,_,ad0,n0,c0,hV,hp⟩:=ht;have hp:a.eval x= .pointer (some (ad0.add (i.toNat*b.z+f))):=hp;rw[hx] at hp
        cases hp
        rw[cR];have hO:=h.obj oo b hb;unfold o7 at hO;rw[hV] at hO;refine obj (.head _) ⟨b,hb⟩ ?_
        cases hO with
        |sub _ _ _ _ _ _ u T k hn=>exact(k.own (by unfold OB.m;split<;>simp)).2 ad0 rfl|>.1
       ·rename_i oo q i f he
        rw[he] at ht
        split at hrd
        ·rename_i z rows hb
         cases hrd
         obtain⟨b,hb',_,ad0,n0,c0,hV,hp⟩:=ht;rw[hb] at hb';cases hb';obtain⟨i0,f0⟩:=q;obtain⟨_,z1,r5,hat,ad1,n1,c1,hcell,hp⟩:=hp;rw[hx] at hp
         cases hp
         rw[cR];have hO:=h.obj oo _ hb;unfold o7 at hO;rw[hV] at hO;refine obj (.head _) ⟨_,hb⟩ ?_
         cases hO with
         |sub _ _ _ _ _ _ u T k hn=>
          have hin:=hn _ _ _ hat;have hu:=k.cell ad0 rfl _ _ _ hat;rw[hcell] at hu;simp only[bq] at hu;rw[←hu] at hin
          have:T i0.toNat f0 ad1.block:=by
           cases hin with
           |sub _ _ _ _ _ _ u' T' k' hn'=>exact(k'.own (by simp[OB.m,Mode.nx])).2 ad1 rfl|>.1
          exact(k.qh rfl _ _ _ this).1
        ·cases hrd
       ·cases hrd
      ·exact LY hT h hf l hl ol hol t x ad ho hx hw
    ·cases hf
  ·cases hf
theorem abf (hC:COk C) {fl:List Nat} {ops:Array Oper} {a:Act} (hi:Inv F A w0 fx g n st a w) {o:Oper} (Yb:Rk n o=true) (hq:yy C o=true) {K:TS→Ev R} (hk:(guarded C fx fl ops st o K).holds cf lp Q):
 ∃v st',Kp C ops o v a w∧Inv F A w0 fx g n st' (a.put o.dst v) w∧(K st').holds cf lp Q:=by
 obtain⟨⟨φ,h⟩,agY,agZ,hsz⟩:=hi;obtain⟨hok,hc⟩:=A8 h hk;have mk: ∀{st' v},Rel F A w0 st' (a.put o.dst v).tmps w→Inv F A w0 fx g n st' (a.put o.dst v) w:=fun hr=>⟨hr,W0 hok agY _,by rw[put_defers];exact agZ,by rw[Kl];exact hsz⟩;rcases hc with⟨hw,eM,φ1,h1,_,Cu⟩|⟨hw,eM,h1,Cu⟩
 ·have hpure:(Vt C eM o K).holds cf lp Q:=by
   unfold yy FX vJ at hq;unfold ql at Cu
   split at Cu
   ·rename_i e;rw[e] at hq;cases hq
   ·rename_i e;rw[e] at hq;cases hq
   ·rename_i e;rw[e] at hq;cases hq
   ·rename_i e;rw[e] at hq;cases hq
   ·rename_i e;rw[e] at hq;cases hq
   ·rename_i src dst x e
    rw[e] at hq;simp only at hq
    split at Cu
    ·rename_i et h1 h2
     rw[h1,h2] at hq
     cases hq
    ·exact Cu
   ·rename_i e;rw[e] at hq;cases hq
   ·rename_i e;rw[e] at hq;cases hq
   ·rename_i e;rw[e] at hq;cases hq
   ·rename_i e;rw[e] at hq;cases hq
   ·exact Cu
  unfold Vt at hpure
  split at hpure
  ·rename_i d hd
   obtain⟨v,e,g1,g2,g3,g4⟩:=YJ hC.ty h1 hpure;refine⟨v,_,.inr ⟨hw,?_⟩,mk ⟨φ1,?_⟩,g3⟩
   ·cases hb:FX C o with
    |true=>exact .inl (g4 hb)
    |false=>
     right;unfold yy at hq;rw[hb] at hq;unfold vJ at hq;simp only at hq
     split at hq
     ·rename_i t x ho
      unfold jx at hpure;rw[ho] at hpure;obtain⟨ad,vs,l1,l2,l3,l4⟩:=abe hC.ty h1 hpure;refine⟨t,x,ad,vs,ho,l1,l2,l3,l4,?_⟩;have hr:=CI (hC.ty t l2) w ad vs l3 l4
      have:(execOp a.eval o).run C.P w= .ok (.value (valOf (C.tt t) vs)) w:=by
       unfold execOp;rw[ho];simp only[l1,Instr.loadAt,Instr.sureAddr,Sem.run_bind,Sem.run_pure,Result.andThen];rw[hr]
       rfl
      rw[g1] at this
      cases this
      rfl
     ·cases hq
   ·rw[hd]
    refine h1.TM ?_ g2;unfold Rk at Yb;rw[hd] at Yb;have Yb:Nat.ble (d+1) n=true:=Yb;exact kE (show d<n from tX Yb) hsz
  ·exact hpure.elim
 ·exact⟨undef,eM,.inl ⟨hw,rfl⟩,mk ⟨φ,h1⟩,Cu⟩
theorem YZ (hC:COk C) (HY:Rl C cf) {fl:List Nat} {ops:Array Oper} {a:Act} (hi:Inv F A w0 fx g n st a w) {o:Oper} (Yb:Rk n o=true) {K:TS→Ev R} (hk:(guarded C fx fl ops st o K).holds cf lp Q) {Kc:Act→World→Prop} {Qc:Exit→Act→World→Prop}
 (hK: ∀st' v w',Inv F A w0 fx g n st' (a.put o.dst v) w'→(K st').holds cf lp Q→(∀l∈fl,∀ol,ops[l]?=some ol→ ∀t x ad,ol.op= .load t x→a.eval x= .pointer (some ad)→Region.wanted ol (yielded ops a.tmps)=true→ad.block<w.heap.size→w'.heap[ad.block]?=w.heap[ad.block]?)→Kc (a.put o.dst v) w'):
 if Region.wanted o (yielded ops a.tmps) then o.wp C.P a w Kc Qc else Kc (a.put o.dst undef) w:=by
 obtain⟨⟨φ,h⟩,agY,agZ,hsz⟩:=hi;obtain⟨hok,hc⟩:=A8 h hk;have mk: ∀{st' v w'},Rel F A w0 st' (a.put o.dst v).tmps w'→Inv F A w0 fx g n st' (a.put o.dst v) w':=fun hr=>⟨hr,W0 hok agY _,by rw[put_defers];exact agZ,by rw[Kl];exact hsz⟩;rcases hc with⟨hw,eM,φ1,h1,hfl,Cu⟩|⟨hw,eM,h1,Cu⟩
 ·rw[aR hw]
  exact YY hC HY h1 (fun d hd=>by
   unfold Rk at Yb;rw[hd] at Yb;have Yb:Nat.ble (d+1) n=true:=Yb
   exact kE (show d<n from tX Yb) hsz) Cu fun st' v w' hr hk' _ hfr=>hK st' v w' (mk hr) hk' fun l hl ol hol t x ad ho hx hwo hlt=>hfr _ hlt (LY hC.ty h1 hfl l hl ol hol t x ad ho hx hwo)
 ·rw[aJ (by rw[hw];exact Bool.false_ne_true)]
  exact hK eM undef w (mk ⟨φ,h1⟩) Cu fun _ _ _ _ _ _ _ _ _ _ _=>rfl
end Go.T
namespace Go.T
variable {F : Nat → Prop} {A : Arg} {w0 w w' : World} {φ φ' φ1 : Fp} {st st' sta eM qf : TS} {tm IF : Array Value} {C : mG}
variable {R : Type} {cf : Cf} {lp : Lp} {Q : R → Prop}
variable {fx : List Nat} {g : Nat → Value} {n : Nat} {ops : Array Oper}
structure Pe where
 i:Nat
 o:Oper
 v:Value
def vn:List Pe→Act→Act
 |[],a=>a
 |p::r,a=>vn r (a.put p.o.dst p.v)
def Dy (C:mG) (ops:Array Oper):List Pe→Act→World→Prop
 |[],_,_=>True
 |p::r,a,w=>Kp C ops p.o p.v a w∧Dy C ops r (a.put p.o.dst p.v) w
inductive z7 (ops:Array Oper) (i:Nat):Nat→Prop
 |base {j:Nat} {o:Oper} (h:ops[j]?=some o) (hd:i∈ru o):z7 ops i j
 |step {j d:Nat} {o:Oper} (h:ops[j]?=some o) (hd:d∈ru o) (hw:z7 ops i d):z7 ops i j
theorem z8 {i:Nat}: ∀(k j:Nat) (W:List Nat),(∀x∈W,x=i∨z7 ops i x)→ ∀x∈BA ops k j W,x=i∨z7 ops i x
 |0,_,W,h=>h
 |k+1,j,W,h=>by
  simp only[BA]
  split
  ·rename_i o ho
   split
   ·rename_i hm
    refine z8 k (j+1) _ fun x hx=> ?_;rcases dJ.1 hx with rfl|hx
    ·obtain⟨d,h1,h2⟩:=IS hm
     rcases h d h2 with rfl|hw
     ·exact .inr (.base ho h1)
     ·exact .inr (.step ho h1 hw)
    ·exact h x hx
   ·exact z8 k (j+1) W h
  ·exact h
theorem z7.listed {listed:Array Bool} (hcl: ∀(j:Nat) (oj:Oper),listed.getD j false=true→ops[j]?=some oj→ ∀d∈ru oj,listed.getD d false=true) {i j:Nat} (h:z7 ops i j):(∀o,ops[j]?=some o→ ∀d∈ru o,listed.getD d false=true)→listed.getD i false=true:=by
 induction h with
 |base h hd=>exact fun hh=>hh _ h _ hd
 |step h hd hw ih=>exact fun hh=>ih fun o ho d hdd=>hcl _ o (hh _ h _ hd) ho d hdd
def acA (ops:Array Oper) (oi oj:Oper):Prop:=(∀d,oj.dst=some d→d∉oi.looksAt ops)∧(∀d,oi.dst=some d→oj.dst≠some d)∧ ∀d,oi.dst=some d→d∉oj.looksAt ops
def Rr (ops:Array Oper) (i:Nat) (oi:Oper) (j:Nat) (oj:Oper):Prop:=((∀d,oj.dst=some d→d∉oi.looksAt ops)∨(vJ oi=false∧z7 ops i j))∧
 (z7 ops i j∨((∀d,oi.dst=some d→oj.dst≠some d)∧(i∈ru oj∨ ∀d,oi.dst=some d→d∉oj.looksAt ops)))
theorem Rr.now {i j:Nat} {oi oj:Oper} (h:Rr ops i oi j oj) (hj:ops[j]?=some oj) (hn: ¬z7 ops i j):acA ops oi oj:=by
 obtain⟨h1,h2⟩:=h;obtain⟨h3,h4⟩:=h2.resolve_left hn;exact⟨h1.resolve_right fun h=>hn h.2,h3,h4.resolve_left fun h=>hn (.base hj h)⟩
theorem afq {i j:Nat} {oi oj:Oper} {W:List Nat} (hne:j≠i) (hW: ∀x∈W,x=i∨z7 ops i x) (h:afp ops W i oi j oj=true):Rr ops i oi j oj:=by
 unfold afp at h;simp only[dY,Bool.or_eq_true] at h;obtain⟨h1,h2⟩:=h;have hw:m8 j W=true→z7 ops i j:=fun h=>(hW j (mj.1 h)).resolve_left hne;refine⟨h1.imp (fun h1 d hd=> ?_) (fun h=>⟨by simpa using h.1,hw h.2⟩),h2.imp hw fun⟨h2,h3⟩=>⟨fun d hd hd'=> ?_,h3.imp mj.1 fun h3 d hd=> ?_⟩⟩
 ·rw[hd] at h1
  simp only[yg] at h1;exact fk.1 h1
 ·rw[hd',hd] at h2
  simp only[yg] at h2;exact absurd rfl (tY h2)
 ·rw[hd] at h3
  simp only[yg] at h3;exact fk.1 h3
theorem afr {o:Oper} (h:Ro ops o=true): ∀d,o.dst=some d→d∉o.looksAt ops:=fun d hd=>by
 unfold Ro at h;rw[hd] at h;simp only[yg] at h;exact fk.1 h
theorem acB {o:Oper} (h:Km o=false): ∀cs b,o.op≠ .select cs b:=fun cs b e=>by
 unfold Km at h;rw[e] at h
 cases h
theorem LZ {o:Oper} {t:TypeId} {x:Operand} (ho:o.op= .load t x) {a:Act} {dst:Option Tmp} {v:Value} (h: ∀d,dst=some d→d∉o.looksAt ops):(a.put dst v).eval x=a.eval x:=
 Act.eval_put fun d hd hx=>h d hd (by
  subst hx;refine kD _ (List.mem_filterMap.2 ⟨.tmp d,?_,rfl⟩);rw[ho]
  simp[Op.operands])
theorem Kp.put {o:Oper} {v u:Value} {a:Act} {dst:Option Tmp} (hs:Km o=false) (hl: ∀d,dst=some d→d∉o.looksAt ops):Kp C ops o v (a.put dst u) w↔Kp C ops o v a w:=by
 have e1:=execOp_put (ops:=ops) o (acB hs) a dst u hl;have e2:=wanted_put (ops:=ops) o a dst u hl;exact⟨fun h=>h.same e1.symm (fun t x ho=>(LZ ho hl).symm) e2.symm,fun h=>h.same e1 (fun t x ho=>LZ ho hl) e2⟩
theorem Rs {dst:Option Tmp} {u:Value}: ∀(L:List Pe) (a:Act),(∀p∈L,Km p.o=false∧(∀d,dst=some d→d∉p.o.looksAt ops)∧ ∀d,p.o.dst=some d→dst≠some d)→(Dy C ops L a w→Dy C ops L (a.put dst u) w)∧vn L (a.put dst u)=(vn L a).put dst u
 |[],a,_=>⟨id,rfl⟩
 |p::r,a,h=>by
  obtain⟨h1,h2,h3⟩:=h p (.head _);have hc:(a.put dst u).put p.o.dst p.v=(a.put p.o.dst p.v).put dst u:=(Act.put_comm a p.v u h3).symm;obtain⟨i1,i2⟩:=Rs r (a.put p.o.dst p.v) fun q hq=>h q (.tail _ hq);refine⟨fun⟨k1,k2⟩=>⟨(Kp.put h1 h2).2 k1,?_⟩,?_⟩
  ·rw[hc];exact i1 k2
  ·show vn r ((a.put dst u).put p.o.dst p.v)=_
   rw[hc];exact i2
theorem Y0 {p:Pe} {L2:List Pe} (hsp:Km p.o=false): ∀(L1:List Pe) (a:Act),(∀q∈L1,Km q.o=false∧acA ops q.o p.o)→Dy C ops (L1++p::L2) a w→Kp C ops p.o p.v a w∧Dy C ops (L1++L2) (a.put p.o.dst p.v) w∧vn (L1++L2) (a.put p.o.dst p.v)=vn (L1++p::L2) a
 |[],a,_,⟨h1,h2⟩=>⟨h1,h2,rfl⟩
 |q::L1,a,h,⟨h1,h2⟩=>by
  obtain⟨hs,p1,p2,p3⟩:=h q (.head _);obtain⟨i1,i2,i3⟩:=Y0 hsp L1 (a.put q.o.dst q.v) (fun q' hq=>h q' (.tail _ hq)) h2;have hc:(a.put p.o.dst p.v).put q.o.dst q.v=(a.put q.o.dst q.v).put p.o.dst p.v:=(Act.put_comm a q.v p.v p2).symm;refine⟨(Kp.put hsp p3).1 i1,⟨(Kp.put hs p1).2 h1,?_⟩,?_⟩
  ·rw[hc];exact i2
  ·show vn (L1++L2) ((a.put p.o.dst p.v).put q.o.dst q.v)=_
   rw[hc];exact i3
theorem L0 {o:Oper} (hs:Km o=false): ∀(L:List Pe) (a:Act),(∀q∈L,∀d,q.o.dst=some d→d∉o.looksAt ops)→execOp (vn L a).eval o=execOp a.eval o∧Region.wanted o (yielded ops (vn L a).tmps)=Region.wanted o (yielded ops a.tmps)∧ ∀t x,o.op= .load t x→(vn L a).eval x=a.eval x
 |[],a,_=>⟨rfl,rfl,fun _ _ _=>rfl⟩
 |q::r,a,h=>by
  obtain⟨i1,i2,i3⟩:=L0 hs r (a.put q.o.dst q.v) fun q' hq=>h q' (.tail _ hq);have hq:=h q (.head _);exact⟨i1.trans (execOp_put (ops:=ops) o (acB hs) a _ _ hq),i2.trans (wanted_put (ops:=ops) o a _ _ hq),fun t x ho=>(i3 t x ho).trans (LZ ho hq)⟩
theorem Rt (hT:ij C): ∀(L:List Pe) (a:Act),(L.Pairwise fun p q=>Rr ops p.i p.o q.i q.o∧p.i≠q.i)→(∀p∈L,Ro ops p.o=true∧Km p.o=false)→
 (∀p∈L,∀t x ad,p.o.op= .load t x→(vn L a).eval x= .pointer (some ad)→Region.wanted p.o (yielded ops (vn L a).tmps)=true→ad.block<w.heap.size→w'.heap[ad.block]?=w.heap[ad.block]?)→Dy C ops L a w→Dy C ops L a w'
 |[],a,_,_,_,_=>trivial
 |p::r,a,hp,hs,hf,⟨h1,h2⟩=>by
  have hpr:=List.pairwise_cons.1 hp;obtain⟨s1,s2⟩:=hs p (.head _);refine⟨h1.world hT fun t x ad ho hx hw hlt=> ?_,?_⟩
  ·have h3:=L0 (ops:=ops) s2 (p::r) a fun q hq d hd=>by
    rcases dJ.1 hq with rfl|hq
    ·exact afr s1 d hd
    ·exact(hpr.1 q hq).1.1.resolve_right (fun h=>by have:=h.1;unfold vJ at this;rw[ho] at this;cases this) d hd
   exact hf p (.head _) t x ad ho (by rw[h3.2.2 t x ho];exact hx) (by rw[h3.2.1];exact hw) hlt
  exact Rt hT r _ hpr.2 (fun q hq=>hs q (.tail _ hq)) (fun q hq=>hf q (.tail _ hq)) h2
variable {l : List Nat} {K : TS → Ev R}
structure Y1 (C:mG) (F:Nat→Prop) (A:Arg) (w0:World) (fx:List Nat) (g:Nat→Value) (n:Nat) (l:List Nat) (K:TS→Ev R) (cf:Cf) (lp:Lp) (Q:R→Prop) (ops:Array Oper) (listed:Array Bool) (aM:Act) (w:World) (L:List Pe) (rest:G8) (S:List Nat):Prop where
 sz:listed.size=ops.size
 mem: ∀j,j∈S↔(listed.getD j false=true∨ ∃p∈L,p.i=j)
 N8:iH C ops none S rest=true
 pend:Dy C ops L aM w
 pw:L.Pairwise fun p q=>Rr ops p.i p.o q.i q.o∧p.i≠q.i
 pe: ∀p∈L,ops[p.i]?=some p.o∧yy C p.o=true∧Ro ops p.o=true∧Km p.o=false∧listed.getD p.i false=false
 later: ∀p∈L,∀(j:Nat) (oj:Oper),j∉S→ops[j]?=some oj→Rr ops p.i p.o j oj
 closed: ∀(j:Nat) (oj:Oper),listed.getD j false=true→ops[j]?=some oj→ ∀d∈ru oj,listed.getD d false=true
 pd: ∀L1 p L2,L=L1++p::L2→ ∀d∈ru p.o,listed.getD d false=true∨ ∃q∈L1,q.i=d
 go: ∃st,Inv F A w0 fx g n st (vn L aM) w∧(ue C fx l ops rest st K).holds cf lp Q
theorem Y2 {o:Oper} {listed:Array Bool}:(∀e∈o.after,Region.binds .any e=true→listed.getD e.on false=true)↔ ∀d∈ru o,listed.getD d false=true:=by
 unfold ru
 constructor
 ·intro h d hd
  obtain⟨e,he,rfl⟩:=List.mem_map.1 hd;obtain⟨h1,h2⟩:=List.mem_filter.1 he;exact h e (by simpa using h1) h2
 ·intro h e he hb
  exact h _ (List.mem_map.2 ⟨e,List.mem_filter.2 ⟨by simpa using he,hb⟩,rfl⟩)
theorem acC {listed:Array Bool} {j:Nat} (h:j<listed.size) (a b:Bool):listed.getD j a=listed.getD j b:=by
 simp[w7,w8 h]
theorem qp {hs:Option (List Nat)} {S:List Nat} {i:Nat} {fl:List Nat} {r:G8} (h:iH C ops hs S (.op i fl r)=true): ∃o,ops[i]?=some o∧i∉S∧(∀d∈ru o,d∈S)∧Km o=false∧iH C ops none (i::S) r=true∧
 ((yy C o=true∧hs=none∧Ro ops o=true∧ ∀(j:Nat) (oj:Oper),j∉S→j≠i→ops[j]?=some oj→Rr ops i o j oj)∨
  (yy C o=false∧(∀(j:Nat) (oj:Oper),j∉S→j≠i→j∉hs.getD []→ops[j]?=some oj→ ∃d∈ru oj,d∉S)∧ ∀(k:Nat) (ok:Oper),k∈S→ops[k]?=some ok→vJ ok=true→k∈fl∨z7 ops k i)):=by
 simp only[iH] at h
 split at h
 ·cases h
 ·rename_i o ho
  unfold opB at h;simp only[dY,yg] at h;obtain⟨⟨⟨⟨h1,h2⟩,h3⟩,h4⟩,h5⟩:=h;refine⟨o,ho,fk.1 h1,ahL h2,h3,h5,?_⟩
  cases hq:yy C o with
  |true=>
   rw[hq] at h4;simp only[dY] at h4;refine .inl ⟨rfl,by simpa using h4.1.1,h4.1.2,fun j oj hj hne Bk=> ?_⟩;have h42:=h4.2;rw[yl aeF] at h42;have:=BC h42 j (Array.getElem?_eq_some_iff.1 Bk).1;rw[Bk,fk.2 hj,beq_false hne] at this;exact afq hne (z8 ops.size 0 [i] fun x hx=> .inl (by simpa using hx)) (by simpa using this)
  |false=>
   rw[hq] at h4;simp only[dY] at h4;refine .inr ⟨rfl,fun j oj hj hne hh Bk=> ?_,fun k ok hk hok hld=> ?_⟩
   ·have:=BC h4.1 j (Array.getElem?_eq_some_iff.1 Bk).1
    rw[Bk,fk.2 hj,beq_false hne,fk.2 hh] at this;simp only[HZ,yg] at this
    apply Classical.byContradiction
    intro hno;have:=ahM (a:=ru oj) (l:=S) fun d hd=>Classical.byContradiction fun hn=>hno ⟨d,hd,hn⟩;simp_all
   ·have:=BC h4.2 k (Array.getElem?_eq_some_iff.1 hok).1
    rw[hok,mj.2 hk] at this;simp only[hld] at this;simp only[QC,HZ,Bool.or_false,Bool.or_eq_true] at this;exact this.imp mj.1 fun h=>(z8 ops.size 0 [k] (fun x hx=> .inl (by simpa using hx)) i (mj.1 h)).resolve_left fun e=>fk.1 h1 (e▸hk)
def LpM (lp:Lp):Prop:= ∀f i c st (Q Q':TX→TS→Prop),(∀x s,Q x s→Q' x s)→lp f i c st Q→lp f i c st Q'
theorem L3 (Lv:LpM lp) {j:Nat}: ∀{T:G8} {hs:Option (List Nat)} {S:List Nat},iH C ops hs S T=true→j∈T.z6→(ue C fx l ops T st K).holds cf lp Q→
 ∃fl r hs',iH C ops hs' S (.op j fl r)=true∧r.len+1=T.len∧(ue C fx l ops (.op j fl r) st K).holds cf lp Q
 | .nil,_,_,_,hj,_=>by cases hj
 | .op i fl r,hs,S,h,hj,hk=>by
   simp only[G8.z6,j6] at hj;subst hj;exact⟨fl,r,hs,h,rfl,hk⟩
 | .alt a b,hs,S,h,hj,hk=>by
   simp only[iH,dY] at h;obtain⟨⟨h1,h2⟩,h3⟩:=h;have h3:=jw h3;simp only[ue] at hk;obtain⟨r,k1,k2,k3⟩:=hk;rcases List.mem_append.1 hj with hj|hj
   ·obtain⟨fl,r',hs',g1,g2,g3⟩:=L3 Lv h1 hj (gR (fun _ _ _ _ h=>h) Lv (fun r' e=>by subst e;exact k3) _ k1)
    exact⟨fl,r',hs',g1,g2,g3⟩
   ·obtain⟨fl,r',hs',g1,g2,g3⟩:=L3 Lv h2 hj (gR (fun _ _ _ _ h=>h) Lv (fun r' e=>by subst e;exact k3) _ k2)
    exact⟨fl,r',hs',g1,by rw[g2];exact h3.symm,g3⟩
theorem Ru: ∀{T:G8} {H:List Nat} {S:List Nat},iH C ops (some H) S T=true→ ∀(j:Nat) (oj:Oper),j∉S→j∉H→j∉T.z6→ops[j]?=some oj→ ∃d∈ru oj,d∉S
 | .nil,_,_,h,_,_,_,_,_,_=>by simp[iH] at h
 | .op i fl r,H,S,h,j,oj,hj,hH,hh,Bk=>by
   obtain⟨o,_,_,_,_,_,hc⟩:=qp h;rcases hc with⟨_,e,_⟩|⟨_,h1,_⟩
   ·cases e
   ·exact h1 j oj hj (fun e=>hh (by rw[e];exact .head _)) hH Bk
 | .alt a b,H,S,h,j,oj,hj,hH,hh,Bk=>by
   simp only[iH,dY] at h;exact Ru h.1.1 j oj hj hH (fun e=>hh (kD _ e)) Bk
theorem Hr: ∀{T:G8} {H:List Nat} {S:List Nat},iH C ops (some H) S T=true→ ∀{j oj},j∈T.z6→ops[j]?=some oj→yy C oj=true→False
 | .nil,_,_,h,_,_,_,_,_=>by simp[iH] at h
 | .op i fl r,H,S,h,j,oj,hj,Bk,hq=>by
   simp only[G8.z6,j6] at hj;subst hj;obtain⟨o,ho,_,_,_,_,hc⟩:=qp h;rw[Bk] at ho;cases ho;rcases hc with⟨_,e,_⟩|⟨Tt,_⟩
   ·cases e
   ·rw[hq] at Tt;cases Tt
 | .alt a b,H,S,h,j,oj,hj,Bk,hq=>by
   simp only[iH,dY] at h;rcases List.mem_append.1 hj with hj|hj
   ·exact Hr h.1.1 hj Bk hq
   ·exact Hr h.1.2 hj Bk hq
theorem W2 {a b:G8} {S:List Nat} (h:iH C ops none S (.alt a b)=true) {j:Nat} {oj:Oper} (hj:j∈(G8.alt a b).z6) (Bk:ops[j]?=some oj) (hq:yy C oj=true):False:=by
 simp only[iH,dY] at h;rcases List.mem_append.1 hj with hj|hj
 ·exact Hr h.1.1 hj Bk hq
 ·exact Hr h.1.2 hj Bk hq
theorem NQ: ∀{T:G8} {H:List Nat} {S:List Nat},iH C ops (some H) S T=true→ ∃j∈T.z6,∃oj,ops[j]?=some oj∧j∉S∧ ∀d∈ru oj,d∈S
 | .nil,_,_,h=>by simp[iH] at h
 | .op i fl r,H,S,h=>by
   obtain⟨o,h1,h2,h3,_⟩:=qp h;exact⟨i,.head _,o,h1,h2,h3⟩
 | .alt a b,H,S,h=>by
   simp only[iH,dY] at h;obtain⟨j,h1,h2⟩:=NQ h.1.1;exact⟨j,kD _ h1,h2⟩
theorem Y1.advance (hC:COk C) (hb:Od n ops.toList=true) {listed:Array Bool} {aM:Act} {L:List Pe} {i:Nat} {fl:List Nat} {r:G8} {S:List Nat} (s:Y1 C F A w0 fx g n l K cf lp Q ops listed aM w L (.op i fl r) S) {o:Oper} (ho:ops[i]?=some o) (hq:yy C o=true):
 ∃v,Y1 C F A w0 fx g n l K cf lp Q ops listed aM w (L++[⟨i,o,v⟩]) r (i::S):=by
 obtain⟨o',ho',hiS,Ob,hsel,ab0,AV⟩:=qp s.N8;rw[ho] at ho';cases ho';rcases AV with⟨_,_,ajk,ajl⟩|⟨Tt,_⟩
 ·obtain⟨st,hinv,hk⟩:=s.go
  simp only[ue,ho] at hk
  have Yb:Rk n o=true:=by
   have: ∀(os:List Oper),Od n os=true→ ∀x∈os,Rk n x=true:=by
    intro os
    induction os with
    |nil=>intro _ x hx;cases hx
    |cons y q ih=>
     intro h x hx;simp only[Od] at h
     split at h
     ·rcases dJ.1 hx with rfl|hx
      ·assumption
      ·exact ih h x hx
     ·cases h
   exact this _ hb o (iV (by rw[QB];exact ho))
  obtain⟨v,st',k1,k2,k3⟩:=abf hC hinv Yb hq hk;rw[uf] at k3
  have al0: ∀(L:List Pe) (a:Act),Dy C ops L a w→Kp C ops o v (vn L a) w→Dy C ops (L++[⟨i,o,v⟩]) a w:=by
   intro L
   induction L with
   |nil=>intro a _ h;exact⟨h,trivial⟩
   |cons p q ih=>intro a h h2;exact⟨h.1,ih _ h.2 h2⟩
  have al1: ∀(L:List Pe) (a:Act),vn (L++[⟨i,o,v⟩]) a=(vn L a).put o.dst v:=by
   intro L
   induction L with
   |nil=>intro a;rfl
   |cons p q ih=>intro a;exact ih _
  have hiL:listed.getD i false=false:=by
   cases h:listed.getD i false with
   |false=>rfl
   |true=>exact absurd ((s.mem i).2 (.inl h)) hiS
  refine⟨v,s.sz,fun j=> ?_,ab0,al0 L aM s.pend k1,?_,fun p hp=> ?_,fun p hp j oj hj Bk=> ?_,s.closed,fun L1 p L2 he d hd=> ?_,st',by rw[al1];exact k2,k3⟩
  ·rw[dJ,s.mem]
   constructor
   ·rintro(rfl|h|⟨p,hp,e⟩)
    ·exact .inr ⟨_,p6 _ (.head _),rfl⟩
    ·exact .inl h
    ·exact .inr ⟨p,kD _ hp,e⟩
   ·rintro(h|⟨p,hp,e⟩)
    ·exact .inr (.inl h)
    ·rcases List.mem_append.1 hp with hp|hp
     ·exact .inr (.inr ⟨p,hp,e⟩)
     ·simp only[j6] at hp
      subst hp;exact .inl e.symm
  ·refine List.pairwise_append.2 ⟨s.pw,List.pairwise_singleton _ _,fun p hp q hq=> ?_⟩
   simp only[j6] at hq;subst hq;exact⟨s.later p hp i o hiS ho,fun e=>hiS ((s.mem i).2 (.inr ⟨p,hp,e⟩))⟩
  ·rcases List.mem_append.1 hp with hp|hp
   ·exact s.pe p hp
   ·simp only[j6] at hp
    subst hp;exact⟨ho,hq,ajk,hsel,hiL⟩
  ·have hj:j≠i∧j∉S:=by simpa using hj
   rcases List.mem_append.1 hp with hp|hp
   ·exact s.later p hp j oj hj.2 Bk
   ·simp only[j6] at hp
    subst hp;exact ajl j oj hj.2 hj.1 Bk
  ·rcases List.append_eq_append_iff.1 he with⟨a',e1,e2⟩|⟨c',e1,e2⟩
   ·
    cases a' with
    |nil=>
     simp only[m0,tg] at e1 e2
     cases e2
     subst e1;rcases (s.mem d).1 (Ob d hd) with h|h
     ·exact .inl h
     ·exact .inr h
    |cons x xs=>simp at e2
   ·cases c' with
    |nil=>
     simp only[m0,tg] at e1 e2
     cases e2
     subst e1;rcases (s.mem d).1 (Ob d hd) with h|h
     ·exact .inl h
     ·exact .inr h
    |cons x xs=>
     simp only[FG,List.cons.injEq] at e2;obtain⟨rfl,_⟩:=e2;exact s.pd L1 p xs e1 d hd
 ·rw[hq] at Tt;cases Tt
theorem ajR (hb:Od n ops.toList=true) {i:Nat} {o:Oper} (ho:ops[i]?=some o):Rk n o=true:=by
 have: ∀(os:List Oper),Od n os=true→ ∀x∈os,Rk n x=true:=by
  intro os
  induction os with
  |nil=>intro _ x hx;cases hx
  |cons y q ih=>
   intro h x hx;simp only[Od] at h
   split at h
   ·rcases dJ.1 hx with rfl|hx
    ·assumption
    ·exact ih h x hx
   ·cases h
 exact this _ hb o (iV (by rw[QB];exact ho))
theorem Y3 {P:Program} {o:Oper} {aS aM:Act} {w:World} {Kc Kc':Act→World→Prop} {Qc:Exit→Act→World→Prop} (he:execOp aM.eval o=execOp aS.eval o) (hk: ∀a' w',Kc a' w'→ ∃v,a'=aS.put o.dst v∧Kc' (aM.put o.dst v) w') (hd: ∀v v',aS.put o.dst v=aS.put o.dst v'→ ∀w',Kc' (aM.put o.dst v) w'→Kc' (aM.put o.dst v') w')
 (h:o.wp P aS w Kc fun _ _ _=>False):o.wp P aM w Kc' Qc:=by
 unfold Oper.wp at*;rw[he];generalize (execOp aS.eval o).run P w=r at*
 have use: ∀v w',Kc (aS.put o.dst v) w'→Kc' (aM.put o.dst v) w':=fun v w' h=>by
  obtain⟨v',e,hk'⟩:=hk _ _ h;exact hd v' v e.symm w' hk'
 cases r with
 |ok nx w'=>
  cases nx<;>simp only[Oper.upon] at h ⊢
  case value u=>exact use u w' h
  case skip=>exact use undef w' h
  case defer d=>
   exfalso
   obtain⟨v,e,_⟩:=hk _ _ h;have:=congrArg Act.defers e;rw[put_defers,put_defers] at this;have h2:=congrArg List.length this;simp at h2
  case enter f args=>
   refine Calls.mono h fun e w'' he=> ?_
   cases e with
   |returned u=>exact use u w'' he
   |panicked c=>exact he.elim
   |outgrown=>exact(LetsOut_false he).elim
  case row row args=>exact Rows.mono h fun u w'' he=>use u w'' he
 |halt x w'=>
  cases x<;>simp only[Oper.upon] at h
where
 LetsOut_false:LetsOut (fun(_:Exit) (_:Act) (_:World)=>False)→False:=fun⟨_,_,h⟩=>h
theorem VR: ∀(L:List Pe) (a:Act),(vn L a).tmps.size=a.tmps.size
 |[],_=>rfl
 |p::r,a=>by show(vn r _).tmps.size=_;rw[VR r,Kl]
theorem adu {a a':Act} {d:Option Tmp} {v v':Value} (hs:a'.tmps.size=a.tmps.size) (h:a.put d v=a.put d v'):a'.put d v=a'.put d v':=by
 cases d with
 |none=>rfl
 |some d=>
  have h1:a.tmps.setIfInBounds d v=a.tmps.setIfInBounds d v':=congrArg Act.tmps h;show({a' with tmps:=a'.tmps.setIfInBounds d v}:Act)={a' with tmps:=a'.tmps.setIfInBounds d v'}
  by_cases hd:d<a.tmps.size
  ·have:v=v':=by
    have h2:=congrArg (fun x:Array Value=>x[d]?) h1;simpa [Vo,hd] using h2
   rw[this]
  ·have hle:a'.tmps.size≤d:=by rw[hs];exact Nat.le_of_not_lt hd
   rw[Array.setIfInBounds_eq_of_size_le hle,Array.setIfInBounds_eq_of_size_le hle]
theorem ajS (hC:COk C) (HY:Rl C cf) (Lv:LpM lp) (hb:Od n ops.toList=true) {Qc:Exit→Act→World→Prop} (hQ: ∀st a w,Inv F A w0 fx g n st a w→(K st).holds cf lp Q→Qc .normal a w):
 ∀(fuel:Nat) (listed:Array Bool) (aM:Act) (w:World) (L:List Pe) (rest:G8) (S:List Nat),Y1 C F A w0 fx g n l K cf lp Q ops listed aM w L rest S→fuel=rest.len+L.length→wpAny C.P .any ops Qc fuel listed aM w:=by
 have ready0: ∀{listed:Array Bool} {j:Nat},listed.size=ops.size→j∈Region.ready .any ops listed→listed.getD j false=false∧ ∃oj,ops[j]?=some oj∧ ∀d∈ru oj,listed.getD d false=true:=fun {listed j} hsz hj=>by
  obtain⟨h1,oj,h2,h3⟩:=mem_ready.1 hj
  have hlt:j<listed.size:=by rw[hsz];exact(Array.getElem?_eq_some_iff.1 h2).1
  exact⟨by rw[acC hlt false true];exact h1,oj,h2,Y2.1 h3⟩
 have ready1: ∀{listed:Array Bool} {j:Nat} {oj:Oper},listed.size=ops.size→listed.getD j false=false→ops[j]?=some oj→(∀d∈ru oj,listed.getD d false=true)→j∈Region.ready .any ops listed:=fun {listed j oj} hsz h1 h2 h3=>by
  have hlt:j<listed.size:=by rw[hsz];exact(Array.getElem?_eq_some_iff.1 h2).1
  exact mem_ready.2 ⟨by rw[acC hlt true false];exact h1,oj,h2,Y2.2 h3⟩
 intro fuel
 induction fuel with
 |zero=>
  intro listed aM w L rest S s hf;have hL:L=[]:=Dt au
  have hr:rest= .nil:=by
   have h0:rest.len=0:=by omega
   have hsc:=s.N8;clear s hf
   cases rest with
   |nil=>rfl
   |op i fl r=>simp[G8.len] at h0
   |alt a b=>
    exfalso
    simp only[iH,dY] at hsc
    have: ∀{T:G8} {H:List Nat} {S:List Nat},iH C ops (some H) S T=true→T.len≠0:=by
     intro T
     induction T with
     |nil=>intro _ _ h;simp[iH] at h
     |op i fl r _=>intro _ _ _;simp[G8.len]
     |alt a b iha _=>intro _ _ h;simp only[iH,dY] at h;exact iha h.1.1
    exact this hsc.1.1 h0
  subst hL hr
  constructor
  ·cases hrd:Region.ready .any ops listed with
   |nil=>rfl
   |cons j js=>
    exfalso
    obtain⟨h1,oj,h2,_⟩:=ready0 s.sz (j:=j) (by rw[hrd];exact .head _);have hs:=s.N8;simp only[iH] at hs;have:=mj.1 (BC hs j (Array.getElem?_eq_some_iff.1 h2).1);rcases (s.mem j).1 this with h|⟨p,hp,_⟩
    ·rw[h1] at h;cases h
    ·cases hp
  ·obtain⟨st,hinv,hk⟩:=s.go
   simp only[ue] at hk;rw[uf] at hk;obtain⟨⟨φ,h⟩,h2,h3,h4⟩:=hinv;exact hQ _ aM w ⟨⟨φ,h.keep l⟩,h2,h3,h4⟩ hk
 |succ fuel ih=>
  intro listed aM w L rest S s hf
  have up: ∀{L:List Pe} {rest:G8} {S:List Nat},Y1 C F A w0 fx g n l K cf lp Q ops listed aM w L rest S→fuel+1=rest.len+L.length→ ∀p∈L,(∀d∈ru p.o,listed.getD d false=true)→wpOp C.P ops Qc p.i (wpAny C.P .any ops Qc fuel (listed.setIfInBounds p.i true)) aM w:=fun {L rest S} s hf p hp hdp=>by
   obtain⟨L1,L2,rfl⟩:=List.append_of_mem hp;obtain⟨e1,e2,e3,e4,e5⟩:=s.pe p hp;have hpw:=List.pairwise_append.1 s.pw
   have hq1: ∀q∈L1,Km q.o=false∧acA ops q.o p.o:=fun q hq=>by
    have:=s.pe q (kD _ hq);refine⟨this.2.2.2.1,(hpw.2.2 q hq p (.head _)).1.now e1 fun hd=> ?_⟩
    have h1:=hd.listed s.closed fun o ho=>by rw[e1] at ho;cases ho;exact hdp
    rw[this.2.2.2.2] at h1
    cases h1
   obtain⟨k1,k2,k3⟩:=Y0 e4 L1 aM hq1 s.pend
   have hlt:p.i<listed.size:=by rw[s.sz];exact(Array.getElem?_eq_some_iff.1 e1).1
   have hne: ∀q,q∈L1∨q∈L2→q.i≠p.i:=fun q hq=>by
    rcases hq with hq|hq
    ·exact(hpw.2.2 q hq p (.head _)).2
    ·exact fun e=>((List.pairwise_cons.1 hpw.2.1).1 q hq).2 e.symm
   have sZ: ∀j,(listed.setIfInBounds p.i true).getD j false=true↔j=p.i∨listed.getD j false=true:=fun j=>by
    by_cases hj:j=p.i
    ·subst hj;simp[w7,Vo,hlt]
    ·rw[Go.getD_set_ne false (Ne.symm hj)];simp[hj]
   have hs':Y1 C F A w0 fx g n l K cf lp Q ops (listed.setIfInBounds p.i true) (aM.put p.o.dst p.v) w (L1++L2) rest S:=by
    refine⟨by simp[s.sz],fun j=> ?_,s.N8,k2,?_,fun q hq=> ?_,fun q hq=> ?_,fun j oj hj Bk d hd=> ?_,fun M1 q M2 he d hd=> ?_,?_⟩
    ·rw[s.mem,sZ]
     constructor
     ·rintro(h|⟨q,hq,e⟩)
      ·exact .inl (.inr h)
      ·rcases List.mem_append.1 hq with hq|hq
       ·exact .inr ⟨q,kD _ hq,e⟩
       ·rcases dJ.1 hq with rfl|hq
        ·exact .inl (.inl e.symm)
        ·exact .inr ⟨q,p6 _ hq,e⟩
     ·rintro((rfl|h)|⟨q,hq,e⟩)
      ·exact .inr ⟨p,hp,rfl⟩
      ·exact .inl h
      ·rcases List.mem_append.1 hq with hq|hq
       ·exact .inr ⟨q,kD _ hq,e⟩
       ·exact .inr ⟨q,p6 _ (.tail _ hq),e⟩
    ·exact List.pairwise_append.2 ⟨hpw.1,(List.pairwise_cons.1 hpw.2.1).2,fun a ha b hb=>hpw.2.2 a ha b (.tail _ hb)⟩
    ·have Tt:q∈L1++p::L2:=by
      rcases List.mem_append.1 hq with hq|hq
      ·exact kD _ hq
      ·exact p6 _ (.tail _ hq)
     obtain⟨f1,f2,f3,f4,f5⟩:=s.pe q Tt;refine⟨f1,f2,f3,f4,?_⟩;rw[Go.getD_set_ne false (Ne.symm (hne q (List.mem_append.1 hq)))];exact f5
    ·have Tt:q∈L1++p::L2:=by
      rcases List.mem_append.1 hq with hq|hq
      ·exact kD _ hq
      ·exact p6 _ (.tail _ hq)
     exact s.later q Tt
    ·rcases (sZ j).1 hj with rfl|hj
     ·rw[e1] at Bk;cases Bk
      exact(sZ d).2 (.inr (hdp d hd))
     ·exact(sZ d).2 (.inr (s.closed j oj hj Bk d hd))
    ·have old:listed.getD d false=true∨ ∃q'∈L1++p::L2,q'.i=d∧(q'=p∨q'∈M1):=by
      rcases List.append_eq_append_iff.1 he with⟨a',x1,x2⟩|⟨c',x1,x2⟩
      ·
       have:=s.pd (L1++p::a') q M2 (by rw[x2];simp) d hd;rcases this with h|⟨q',Tt,e⟩
       ·exact .inl h
       ·refine .inr ⟨q',?_,e,?_⟩
        ·rcases List.mem_append.1 Tt with h|h
         ·exact kD _ h
         ·rcases dJ.1 h with rfl|h
          ·exact p6 _ (.head _)
          ·exact p6 _ (.tail _ (by rw[x2];exact kD _ h))
        ·rcases List.mem_append.1 Tt with h|h
         ·exact .inr (by rw[x1];exact kD _ h)
         ·rcases dJ.1 h with rfl|h
          ·exact .inl rfl
          ·exact .inr (by rw[x1];exact p6 _ h)
      ·cases c' with
       |nil=>
        simp only[m0,tg] at x1 x2;subst x1;have:=s.pd (L1++[p]) q M2 (by rw[←x2];simp) d hd;rcases this with h|⟨q',Tt,e⟩
        ·exact .inl h
        ·rcases List.mem_append.1 Tt with h|h
         ·exact .inr ⟨q',kD _ h,e,.inr h⟩
         ·simp only[j6] at h
          exact .inr ⟨q',by rw[h];exact hp,e,.inl h⟩
       |cons y ys=>
        simp only[FG,List.cons.injEq] at x2;obtain⟨rfl,_⟩:=x2;have:=s.pd M1 q (ys++p::L2) (by rw[x1];simp) d hd;rcases this with h|⟨q',Tt,e⟩
        ·exact .inl h
        ·exact .inr ⟨q',by rw[x1];exact kD _ (kD _ Tt),e,.inr Tt⟩
     rcases old with h|⟨q',_,e,rfl|h⟩
     ·exact .inl ((sZ d).2 (.inr h))
     ·exact .inl ((sZ d).2 (.inl e.symm))
     ·exact .inr ⟨q',h,e⟩
    ·obtain⟨st,g1,g2⟩:=s.go
     exact⟨st,by rw[k3];exact g1,g2⟩
   have hnext:=ih _ _ w (L1++L2) rest S hs' (by simp only[ct,gG] at hf ⊢;omega);have hyn:=k1.yn hC.ty;unfold Go.wpOp;simp only[e1];rcases hyn with⟨hw,hv⟩|⟨hw,hv⟩
   ·rw[aR hw]
    refine .inl ?_;unfold Oper.wp;rw[hv];exact hnext
   ·rw[aJ (by rw[hw];exact Bool.false_ne_true)]
    rw[hv] at hnext;exact hnext
  constructor
  ·intro hnil
   exfalso
   cases L with
   |nil=>
    have first: ∃(i:Nat) (o:Oper),ops[i]?=some o∧i∉S∧ ∀d∈ru o,d∈S:=by
     cases rest with
     |nil=>simp[G8.len] at hf
     |op i fl r=>
      obtain⟨o,ho,hiS,Ob,_⟩:=qp s.N8;exact⟨i,o,ho,hiS,Ob⟩
     |alt a b=>
      have hs:=s.N8;simp only[iH,dY] at hs;obtain⟨j,_,oj,h1,h2,h3⟩:=NQ hs.1.1;exact⟨j,oj,h1,h2,h3⟩
    ·obtain⟨i,o,ho,hiS,Ob⟩:=first
     have hi:listed.getD i false=false:=by
      cases h:listed.getD i false with
      |false=>rfl
      |true=>exact absurd ((s.mem i).2 (.inl h)) hiS
     have:=ready1 s.sz hi ho fun d hd=>by
      rcases (s.mem d).1 (Ob d hd) with h|⟨p,hp,_⟩
      ·exact h
      ·cases hp
     rw[hnil] at this
     cases this
   |cons p L2=>
    obtain⟨e1,e2,e3,e4,e5⟩:=s.pe p (.head _)
    have:=ready1 s.sz e5 e1 fun d hd=>by
     rcases s.pd [] p L2 rfl d hd with h|⟨q,hq,_⟩
     ·exact h
     ·cases hq
    rw[hnil] at this
    cases this
  ·intro j hj
   obtain⟨hjl,oj,Bk,hdj⟩:=ready0 s.sz hj
   have doEff: ∀{rest:G8} {L:List Pe} {S:List Nat} {fl:List Nat} {r:G8},Y1 C F A w0 fx g n l K cf lp Q ops listed aM w L rest S→fuel+1=rest.len+L.length→r.len+1=rest.len→j∉S→Km oj=false→iH C ops none (j::S) r=true→
    (∀(k:Nat) (ok:Oper),k∈S→ops[k]?=some ok→vJ ok=true→k∈fl∨z7 ops k j)→(∃st,Inv F A w0 fx g n st (vn L aM) w∧(ue C fx l ops (.op j fl r) st K).holds cf lp Q)→wpOp C.P ops Qc j (wpAny C.P .any ops Qc fuel (listed.setIfInBounds j true)) aM w:=fun {rest L S fl r} s hf hrl hjS hsel ab0 Tx hgo=>by
    have hpe: ∀p∈L,Km p.o=false∧Ro ops p.o=true∧acA ops p.o oj:=fun p hp=>by
     obtain⟨f1,f2,f3,f4,f5⟩:=s.pe p hp;refine⟨f4,f3,(s.later p hp j oj hjS Bk).now Bk fun hd=> ?_⟩
     have:=hd.listed s.closed fun o' ho'=>by rw[Bk] at ho';cases ho';exact hdj
     rw[f5] at this;cases this
    have zo: ∀q∈L,∀d,q.o.dst=some d→d∉oj.looksAt ops:=fun q hq=>(hpe q hq).2.2.2.2;obtain⟨x1,x2,_⟩:=L0 (ops:=ops) hsel L aM zo;obtain⟨st,hinv,hk⟩:=hgo;simp only[ue,Bk] at hk
    have hlt:j<listed.size:=by rw[s.sz];exact(Array.getElem?_eq_some_iff.1 Bk).1
    have sZ: ∀d,(listed.setIfInBounds j true).getD d false=true↔d=j∨listed.getD d false=true:=fun d=>by
     by_cases hd:d=j
     ·subst hd;simp[w7,Vo,hlt]
     ·rw[Go.getD_set_ne false (Ne.symm hd)];simp[hd]
    have hpp: ∀(v:Value),(Dy C ops L aM w→Dy C ops L (aM.put oj.dst v) w)∧vn L (aM.put oj.dst v)=(vn L aM).put oj.dst v:=fun v=>
     Rs L aM fun p hp=>⟨(hpe p hp).1,(hpe p hp).2.2.1,(hpe p hp).2.2.2.1⟩
    have next: ∀(v:Value) (w':World) (st':TS),Inv F A w0 fx g n st' ((vn L aM).put oj.dst v) w'→(ue C fx l ops r st' K).holds cf lp Q→(∀x∈fl,∀ox,ops[x]?=some ox→ ∀t y ad,ox.op= .load t y→(vn L aM).eval y= .pointer (some ad)→Region.wanted ox (yielded ops (vn L aM).tmps)=true→ad.block<w.heap.size→w'.heap[ad.block]?=w.heap[ad.block]?)→
     wpAny C.P .any ops Qc fuel (listed.setIfInBounds j true) (aM.put oj.dst v) w':=fun v w' st' hinv' hk' hfr=>by
     have hpw:=Rt (w':=w') hC.ty L aM s.pw (fun p hp=>⟨(hpe p hp).2.1,(hpe p hp).1⟩) (fun p hp t y ad hop hy hwp hlt'=>by
      obtain⟨f1,f2,f3,f4,f5⟩:=s.pe p hp;have hpS:p.i∈S:=(s.mem _).2 (.inr ⟨p,hp,rfl⟩);rcases Tx p.i p.o hpS f1 (by unfold vJ;rw[hop]) with hfl|hwt
      ·exact hfr p.i hfl p.o f1 t y ad hop hy hwp hlt'
      ·exfalso
       have:=hwt.listed s.closed fun o' ho'=>by rw[Bk] at ho';cases ho';exact hdj
       rw[f5] at this;cases this) s.pend
     have al2:=(Rs (C:=C) (ops:=ops) (w:=w') (dst:=oj.dst) (u:=v) L aM fun p hp=>⟨(hpe p hp).1,(hpe p hp).2.2.1,(hpe p hp).2.2.2.1⟩);refine ih _ _ w' L r (j::S) ⟨by simp[s.sz],fun d=> ?_,ab0,al2.1 hpw,s.pw,fun p hp=> ?_,fun p hp d od hd hod=>s.later p hp d od (fun hs=>hd (.tail _ hs)) hod,fun d od hd hod e he=> ?_,fun L1 p L2 he d hd=> ?_,st',by rw[al2.2];exact hinv',hk'⟩ au
     ·rw[dJ,s.mem,sZ]
      constructor
      ·rintro(h|h|h)
       ·exact .inl (.inl h)
       ·exact .inl (.inr h)
       ·exact .inr h
      ·rintro((h|h)|h)
       ·exact .inl h
       ·exact .inr (.inl h)
       ·exact .inr (.inr h)
     ·obtain⟨f1,f2,f3,f4,f5⟩:=s.pe p hp
      refine⟨f1,f2,f3,f4,?_⟩;rw[Go.getD_set_ne false (fun e=>hjS ((s.mem j).2 (.inr ⟨p,hp,e.symm⟩)))];exact f5
     ·rcases (sZ d).1 hd with rfl|hd
      ·rw[Bk] at hod;cases hod
       exact(sZ e).2 (.inr (hdj e he))
      ·exact(sZ e).2 (.inr (s.closed d od hd hod e he))
     ·exact(s.pd L1 p L2 he d hd).imp (fun h=>(sZ d).2 (.inr h)) id
    have ag0:=YZ hC HY hinv (ajR hb Bk) hk (Qc:=fun _ _ _=>False) (Kc:=fun a' w'=> ∃v,a'=(vn L aM).put oj.dst v∧wpAny C.P .any ops Qc fuel (listed.setIfInBounds j true) (aM.put oj.dst v) w') fun st' v w' hi' hk' hfr=>by
     rw[uf] at hk';exact⟨v,rfl,next v w' st' hi' hk' hfr⟩
    have hdv: ∀v v',(vn L aM).put oj.dst v=(vn L aM).put oj.dst v'→aM.put oj.dst v=aM.put oj.dst v':=fun v v' h=>adu (VR L aM).symm h;unfold Go.wpOp;simp only[Bk];rw[x2] at ag0
    by_cases hw:Region.wanted oj (yielded ops aM.tmps)=true
    ·rw[aR hw] at ag0 ⊢
     exact .inl (Y3 (Kc':=wpAny C.P .any ops Qc fuel (listed.setIfInBounds j true)) x1.symm (fun a' w' h=>h) (fun v v' h w' hw'=>by rw[←hdv v v' h];exact hw') ag0)
    ·rw[aJ hw] at ag0 ⊢
     obtain⟨v,e,hn⟩:=ag0;rw[hdv undef v e];exact hn
   have go: ∀(rest:G8) (L:List Pe) (S:List Nat),Y1 C F A w0 fx g n l K cf lp Q ops listed aM w L rest S→fuel+1=rest.len+L.length→wpOp C.P ops Qc j (wpAny C.P .any ops Qc fuel (listed.setIfInBounds j true)) aM w:=by
    intro rest
    induction rest with
    |nil=>
     intro L S s hf;have hs:=s.N8;simp only[iH] at hs;have hjS:=mj.1 (BC hs j (Array.getElem?_eq_some_iff.1 Bk).1);rcases (s.mem j).1 hjS with h|⟨p,hp,rfl⟩
     ·rw[hjl] at h;cases h
     ·have e1:=(s.pe p hp).1
      rw[Bk] at e1;cases e1;exact up s hf p hp hdj
    |op i fl r ihr=>
     intro L S s hf
     by_cases hjS:j∈S
     ·rcases (s.mem j).1 hjS with h|⟨p,hp,rfl⟩
      ·rw[hjl] at h;cases h
      ·have e1:=(s.pe p hp).1
       rw[Bk] at e1;cases e1;exact up s hf p hp hdj
     ·obtain⟨o,ho,hiS,Ob,hsel,ab0,AV⟩:=qp s.N8
      rcases AV with⟨hq,_,_,_⟩|⟨hq,ajm,Tx⟩
      ·obtain⟨v,s'⟩:=s.advance hC hb ho hq
       exact ihr _ _ s' (by simp only[ct,gG,List.length_nil,G8.len] at hf ⊢;omega)
      ·have hij:j=i:=by
        apply Classical.byContradiction
        intro hne;obtain⟨d,hd,hdS⟩:=ajm j oj hjS hne bZ Bk;exact hdS ((s.mem d).2 (.inl (hdj d hd)))
       subst hij;rw[Bk] at ho;cases ho;exact doEff s hf rfl hjS hsel ab0 Tx s.go
    |alt a b _ _=>
     intro L S s hf
     by_cases hjS:j∈S
     ·rcases (s.mem j).1 hjS with h|⟨p,hp,rfl⟩
      ·rw[hjl] at h;cases h
      ·have e1:=(s.pe p hp).1
       rw[Bk] at e1;cases e1;exact up s hf p hp hdj
     ·have hjH:j∈(G8.alt a b).z6:=by
       apply Classical.byContradiction
       intro hne;have hs:=s.N8;simp only[iH,dY] at hs;obtain⟨d,hd,hdS⟩:=Ru hs.1.1 j oj hjS hne (fun e=>hne (kD _ e)) Bk;exact hdS ((s.mem d).2 (.inl (hdj d hd)))
      obtain⟨st,hinv,hk⟩:=s.go;obtain⟨fl,r,hs',g1,g2,g3⟩:=L3 Lv s.N8 hjH hk;obtain⟨o,ho,hiS,Ob,hsel,ab0,AV⟩:=qp g1;rw[Bk] at ho;cases ho;rcases AV with⟨hq,_,ajk,ajl⟩|⟨hq,ajm,Tx⟩
      ·exfalso
       have hs:=s.N8;exact W2 hs hjH Bk hq
      ·exact doEff s hf g2 hjS hsel ab0 Tx ⟨st,hinv,g3⟩
   exact go rest L S s hf
theorem adv (hC:COk C) (HY:Rl C cf) (Lv:LpM lp) (hm:C.P.follows .mixedOrders=true) (hb:Od n ops.toList=true) {Qc:Exit→Act→World→Prop} (hQ: ∀st a w,Inv F A w0 fx g n st a w→(K st).holds cf lp Q→Qc .normal a w) {N8:G8} (hs:iH C ops none [] N8=true) (hl:N8.len=ops.size)
 {a:Act} (hi:Inv F A w0 fx g n st a w) (hk:(ue C fx l ops N8 st K).holds cf lp Q) {id:Nat}:(Code.region id ops true).wp C.P Qc a w:=by
 refine wp_region_any hm ?_;obtain⟨⟨φ,h⟩,h2,h3,h4⟩:=hi;have hi':Inv F A w0 fx g n st a {w with drawn:=w.drawn+1}:=⟨⟨φ,h.J3 (nQ.drew w)⟩,h2,h3,h4⟩
 have Bi: ∀j,(Array.replicate ops.size false).getD j false=false:=fun j=>by
  rw[w7,Array.getElem?_replicate]
  split<;>rfl
 refine ajS (l:=l) hC HY Lv hb hQ ops.size _ a _ [] N8 [] ⟨by simp,fun j=> ?_,hs,trivial,.nil,fun p hp=>(by cases hp),fun p hp=>(by cases hp),fun j oj hj=> ?_,fun L1 p L2 he=> ?_,st,hi',hk⟩ (by simp[hl])
 ·rw[Bi];simp
 ·rw[Bi] at hj;cases hj
 ·cases L1<;>cases he
end Go.T
namespace Go.T
variable {F : Nat → Prop} {A : Arg} {w0 w w' : World} {φ φ' φ1 : Fp} {st st' sta eM qf : TS} {tm IF : Array Value} {C : mG}
variable {R : Type} {cf : Cf} {lp : Lp} {Q : R → Prop}
variable {fx : List Nat} {g : Nat → Value} {n : Nat} {f : FuncId}
def Fy (C:mG) (f:FuncId):Code→Bool
 | .region id ops draw=>match draw with
   |false=>true
   |true=>match C.N8 f id with
    |some l=>match Nat.beq l.len ops.size with
     |true=>iH C ops none [] l
     |false=>false
    |none=>true
 | .seq a b=>match Fy C f a with|true=>Fy C f b|false=>false
 | .cond _ a b=>match Fy C f a with|true=>Fy C f b|false=>false
 | .block _ b=>Fy C f b
 | .loop b=>Fy C f b
 |_=>true
structure Y4 (C:mG):Prop extends COk C where
 N8: ∀(f:Nat) (fn:Func) (c:Code),C.P.funcs[f]?=some fn→fn.body=some c→Fy C f c=true
 mix:C.P.follows .mixedOrders=true
 ext: ∀(f:FuncId) (p:List TV→Option (TV×List TV)) (vs:List TV) (r:TV) (fs:List TV),C.ext f=some p→p vs=some (r,fs)→LX C f vs r fs
def QK (F:Nat→Prop) (A:Arg) (w0:World) (fx:List Nat) (g:Nat→Value) (n:Nat) (Qt:TX→TS→Prop):Exit→Act→World→Prop
 | .normal,a,w=> ∃st,Inv F A w0 fx g n st a w∧Qt .norm st
 | .exit id,a,w=> ∃st,Inv F A w0 fx g n st a w∧Qt (.ex id) st
 | .ret,a,w=> ∃st,Inv F A w0 fx g n st a w∧Qt .ret st
 |_,_,_=>False
def ajT (C:mG) (F:Nat→Prop) (A:Arg) (w0:World) (fx:List Nat) (g:Nat→Value) (n:Nat) (f:FuncId) (lp:Lp):Prop:=
 ∀(i:Nat) (c:Code) (st:TS) (Qt:TX→TS→Prop) (a:Act) (w:World),we n c=true→Fy C f c=true→lp f i c st Qt→Inv F A w0 fx g n st a w→(Code.loop c).wp C.P (QK F A w0 fx g n Qt) a w
theorem afs (hC:Y4 C) (HY:Rl C cf) (hlm:LpM lp) (Lv:ajT C F A w0 fx g n f lp): ∀(c:Code) (i:Nat) (st:TS) (K:TX→TS→Ev R) (a:Act) (w:World),we n c=true→Fy C f c=true→Inv F A w0 fx g n st a w→(run C fx f i c st K).holds cf lp Q→
 c.wp C.P (QK F A w0 fx g n fun x st=>(K x st).holds cf lp Q) a w:=by
 intro c
 induction c with
 |skip=>intro i st K a w _ _ hi hk;exact wp_skip ⟨st,hi,hk⟩
 |region id ops draw=>
  intro i st K a w hb hs hi hk
  cases draw with
  |false=>
   simp only[run] at hk;exact wp_region_list (VQ hC.toCOk HY (K:=K .norm) (fun st a w hi hk=>⟨st,hi,hk⟩) ops.toList st a w hb hi hk)
  |true=>
   simp only[run] at hk;simp only[Fy] at hs
   split at hk
   ·rename_i l hl
    rw[hl] at hs;simp only at hs
    split at hs
    ·rename_i hlen
     exact adv hC.toCOk HY hlm hC.mix hb (K:=K .norm) (fun st a w hi hk=>⟨st,hi,hk⟩) hs (jw hlen) hi hk
    ·cases hs
   ·exact hk.elim
 |seq x y ihx ihy=>
  intro i st K a w hb hs hi hk;simp only[run] at hk
  have hb':we n x=true∧we n y=true:=by
   simp only[we] at hb
   split at hb
   ·exact⟨by assumption,hb⟩
   ·cases hb
  have hs':Fy C f x=true∧Fy C f y=true:=by
   simp only[Fy] at hs
   split at hs
   ·exact⟨by assumption,hs⟩
   ·cases hs
  refine wp_seq (Code.wp_mono (fun e a w q=> ?_) (ihx i st _ a w hb'.1 hs'.1 hi hk))
  cases e with
  |normal=>obtain⟨st',hi',hk'⟩:=q;exact ihy i st' K a w hb'.2 hs'.2 hi' hk'
  |exit id=>exact q
  |ret=>exact q
  |_=>exact q.elim
 |cond c x y ihx ihy=>
  intro i st K a w hb hs hi hk;simp only[run] at hk
  have hb':we n x=true∧we n y=true:=by
   simp only[we] at hb
   split at hb
   ·exact⟨by assumption,hb⟩
   ·cases hb
  have hs':Fy C f x=true∧Fy C f y=true:=by
   simp only[Fy] at hs
   split at hs
   ·exact⟨by assumption,hs⟩
   ·cases hs
  obtain⟨φ,h⟩:=hi.rel;have hc:=fC hC.ty h 0 c
  split at hk
  ·rename_i p hp
   rw[hp] at hc;have hc:a.eval c= .bool p:=hc;refine wp_cond hc ?_
   cases p with
   |true=>exact ihx i st K a w hb'.1 hs'.1 hi hk
   |false=>exact ihy i st K a w hb'.2 hs'.2 hi hk
  ·rename_i p hp
   rw[hp] at hc;have hc:=qn hc;refine wp_cond hc ?_
   cases p with
   |true=>exact ihx i st K a w hb'.1 hs'.1 hi hk
   |false=>exact ihy i st K a w hb'.2 hs'.2 hi hk
  ·exact hk.elim
 |block id x ih=>
  intro i st K a w hb hs hi hk;simp only[run] at hk;refine wp_block (Code.wp_mono (fun e a w q=> ?_) (ih id st _ a w hb hs hi hk))
  cases e with
  |normal=>exact q
  |exit id'=>
   obtain⟨st',hi',hk'⟩:=q;simp only at hk';simp only[Exit.inBlock]
   cases hbq:Nat.beq id' id with
   |true=>
    have:=jw hbq;rw[hbq] at hk';rw[aR this];exact⟨st',hi',hk'⟩
   |false=>
    rw[hbq] at hk';rw[aJ (tY hbq)];exact⟨st',hi',hk'⟩
  |ret=>exact q
  |_=>exact q.elim
 |loop x ih=>
  intro i st K a w hb hs hi hk;simp only[run] at hk;rw[uf] at hk;obtain⟨⟨φ,h⟩,h2,h3,h4⟩:=hi;exact Lv i x _ _ a w hb hs hk ⟨h.head _,h2,h3,h4⟩
 |exit id=>intro i st K a w _ _ hi hk;exact wp_exit ⟨st,hi,hk⟩
 |ret=>intro i st K a w _ _ hi hk;exact wp_ret ⟨st,hi,hk⟩
 |_=>intro i st K a w _ _ hi hk;exact hk.elim
theorem acD (hC:Y4 C) (HY:Rl C cf) (hlm:LpM lp) (Lv:ajT C F A w0 fx g n f lp) {i:Nat} {c:Code} {Qt:TX→TS→Prop} (hb:we n c=true) (hs:Fy C f c=true): ∀(k:Nat) (st:TS) (a:Act) (w:World),iter C cf lp fx f i c Qt k st→Inv F A w0 fx g n st a w→Code.rounds C.P c (QK F A w0 fx g n Qt) k a w
 |0,_,_,_,h,_=>h.elim
 |k+1,st,a,w,h,hi=>by
  refine Code.wp_mono (fun e a w q=> ?_) (afs hC HY hlm Lv c i st QO a w hb hs hi h)
  cases e with
  |normal=>
   obtain⟨st',hi',hk'⟩:=q;simp only[QO,Ev.holds] at hk';rw[uf] at hk';obtain⟨⟨φ,h⟩,h2,h3,h4⟩:=hi';exact acD hC HY hlm Lv hb hs k _ a w hk' ⟨h.head _,h2,h3,h4⟩
  |exit id=>exact q
  |ret=>exact q
  |_=>exact q.elim
theorem acE {k:Nat} {fx:List Nat} (d:Nat):LpM (lpN C cf k fx d):=fun f i c st Q Q' hQ h=>rJ (fun _ _ _ _ h=>h) (cL _) d f i c st Q Q' hQ h
theorem aft (hC:Y4 C) (HY:Rl C cf) {k:Nat}: ∀(d:Nat),ajT C F A w0 fx g n f (lpN C cf k fx d)
 |0=>fun i c st Qt a w _ _ h _=>h.elim
 |d+1=>fun i c st Qt a w hb hs h hi=>wp_loop_rounds k (acD hC HY (acE d) (aft hC HY d) hb hs k st a w h hi)
theorem VS: ∀{ps:List bY} {i j:Nat} {ms:List Mode},ps[j]?=some (.inout ms)→i+j∈LK ps i
 |[],_,_,_,h=>by simp at h
 |p::r,i,0,ms,h=>by
  simp only[fu,bq] at h;subst h;exact .head _
 |p::r,i,j+1,ms,h=>by
  have:=VS (ps:=r) (i:=i+1) (j:=j) (by simpa using h);rw[show i+(j+1)=i+1+j by omega]
  cases p with
  |inout _=>exact .tail _ this
  |borrow=>exact this
  |consume _=>exact this
theorem afu {g:Sig} {i:Nat} (h:i∈LK g.ps 0):i∈QN g:=by
 unfold QN
 split
 ·exact .tail _ h
 ·exact h
theorem Y5 (hC:Y4 C): ∀(k:Nat),Rl C (j7 C k)
 |0=>fun f vs r fs h=>h.elim
 |k+1=>fun f vs r fs h=>by
  have HY:=Y5 hC k;unfold j7 at h
  cases hx:C.ext f with
  |some p=>rw[hx] at h;exact hC.ext f p vs r fs hx h
  |none=>
  rw[hx] at h;have h:(body C f vs).holds (j7 C k) (lpN C (j7 C k) k (QN (C.sig f)) 4) fun p=>p=(r,fs):=h;unfold body at h
  split at h
  ·exact h.elim
  ·rename_i fn hfn
   split at h
   ·exact h.elim
   ·rename_i c hc
    refine⟨⟨fn,c,hfn,hc⟩,fun w xs Rg BB X Y hin hlen=> ?_⟩;rw[uf] at h
    have w6: ∀(i:Nat) (x:Value),xs[i]?=some x→(xs.toArray++Array.replicate (fn.ntmps-xs.toArray.size) undef).getD i undef=x:=fun i x hx=>by
     have hlt:i<xs.length:=(List.getElem?_eq_some_iff.1 hx).1;rw[w7,Array.getElem?_append_left (by simpa using hlt)];simp[hx]
    have hstart:=ae3 (C.sig f) hin w6
    have hinv:Inv (v8 X Y) (Ib true Rg BB) w (QN (C.sig f)) (fun i=>xs.getD i undef) fn.ntmps (FQ (C.sig f) vs) {tmps:=xs.toArray++Array.replicate (fn.ntmps-xs.toArray.size) undef,defers:=[]} w:=by
     refine⟨⟨_,hstart⟩,fun i _=> ?_,rfl,?_⟩
     ·cases hx:xs[i]? with
      |some x=>rw[show xs.getD i undef=x by simp[List.getD,hx]];exact w6 i x hx
      |none=>
       have hge:xs.length≤i:=by
        rcases Nat.lt_or_ge i xs.length with h'|h'
        ·rw[bC h'] at hx;cases hx
        ·exact h'
       rw[show xs.getD i undef=undef by simp[List.getD,hx]];rw[w7,Array.getElem?_append_right (by simpa using hge),Array.getElem?_replicate]
       split<;>rfl
     ·simp;omega
    have hrun:=afs hC HY (acE _) (aft hC HY 4) c 0 _ _ _ w (hC.dst f fn c hfn hc) (hC.N8 f fn c hfn hc) hinv h;refine calls_of_wp hfn hc (Code.wp_mono (fun e a w' q=> ?_) hrun)
    have fin: ∀x st,Inv (v8 X Y) (Ib true Rg BB) w (QN (C.sig f)) (fun i=>xs.getD i undef) fn.ntmps st a w'→(aeD C (C.sig f) fn.results.toList x st).holds (j7 C k) (lpN C (j7 C k) k (QN (C.sig f)) 4) (fun p=>p=(r,fs))→
     a.defers=[]∧ ∃v,(results fn a.tmps).run C.P w'= .ok v w'∧ ∃v',Ending.returned v= .returned v'∧NG (v8 X Y) (Ib true Rg BB) w w' (C.sig f) xs r fs v':=fun x st hi hk=>by
     obtain⟨⟨φ,h⟩,h2,h3,h4⟩:=hi;obtain⟨v,g1,g2⟩:=ajL hC.ty (C.sig f) h hlen (fun j ms hj=>h2 j (afu (by have:=VS (i:=0) hj;rwa [lG] at this))) hk;exact⟨h3,v,g1,v,rfl,g2⟩
    cases e with
    |normal=>obtain⟨st,hi,hk⟩:=q;exact fin _ st hi hk
    |ret=>obtain⟨st,hi,hk⟩:=q;exact fin _ st hi hk
    |exit id=>obtain⟨st,hi,hk⟩:=q;exact hk.elim
    |_=>exact q.elim
end Go.T
namespace Go.T
variable {C : mG} {w w' : World}
inductive L4 (tt:TypeId→mK):TypeId→List TC→Prop
 |int {t:TypeId} {k:IntKind} {n:Int} (h:(tt t).ti= .int k) (hw:(Lit.int k n).wf=true):L4 tt t [.sc (.int k n)]
 |bool {t:TypeId} {b:Bool} (h:(tt t).ti= .bool):L4 tt t [.sc (.bool b)]
 |str {t:TypeId} {s:ByteArray} (h:(tt t).ti= .str) (hs:s.size≤reachBytes):L4 tt t [.sc (.string s)]
 |slice {t e:TypeId} (h:(tt t).ti= .slice e) (rows:List (List TC)) (hr: ∀r∈rows,L4 tt e r) (hl:rows.length*(tt e).bytes≤reachBytes):L4 tt t [.sub (tt e).size rows]
 |struct {t:TypeId} {fs:List (Nat×TypeId)} (h:(tt t).ti= .struct fs) (parts:List (List TC)) (hl:parts.length=fs.length) (hf: ∀(j:Nat) (p:Nat×TypeId) (q:List TC),fs[j]?=some p→parts[j]?=some q→L4 tt p.2 q):L4 tt t parts.flatten
def adw (tt:TypeId→mK):Nat→List (Nat×TypeId)→Nat→Bool
 |off,[],size=>Nat.beq off size
 |off,(o,t)::r,size=>match Nat.beq o off with|true=>adw tt (off+(tt t).size) r size|false=>false
def okT (tt:TypeId→mK):Nat→TypeId→Bool
 |0,_=>false
 |n+1,t=>match(tt t).ti with
  | .int _=>true
  | .bool=>true
  | .str=>true
  | .slice e=>okT tt n e
  | .struct fs=>adw tt 0 fs (tt t).size&&fs.all fun f=>okT tt n f.2
  |_=>false
def Rp (ps:List MemPlace) (k:Nat):Prop:= ∃x∈ps,x.block=k
section
variable {H : Type} {enc : TypeId × Value → H}
theorem IY (hT:ij C) {t:TypeId} (hk:known (C.tt t)=true):C.P.cellsOf t=(C.tt t).size∧C.P.bytesOf t=(C.tt t).bytes:=by
 obtain⟨i,z,h1,h2,h3,_⟩:=(hT t hk).info;unfold Program.cellsOf Program.bytesOf;rw[h1];exact⟨h2,h3⟩
theorem L5 {tt:TypeId→mK} {m:Nat} {t:TypeId} (h:okT tt m t=true):known (tt t)=true:=by
 cases m with
 |zero=>cases h
 |succ m=>
  unfold okT at h;unfold known
  split at h<;>first|(rename_i e;rw[e])|cases h
theorem L4.len (hT:ij C): ∀(m:Nat) (t:TypeId) (cs:List TC),okT C.tt m t=true→L4 C.tt t cs→cs.length=(C.tt t).size
 |0,_,_,h,_=>by cases h
 |m+1,t,cs,h,hw=>by
  have hk:=L5 h
  cases hw with
  |int h1 _=>exact((hT t hk).one fun fs e=>by rw[h1] at e;cases e).symm
  |bool h1=>exact((hT t hk).one fun fs e=>by rw[h1] at e;cases e).symm
  |str h1 _=>exact((hT t hk).one fun fs e=>by rw[h1] at e;cases e).symm
  |slice h1 _ _ _=>exact((hT t hk).one fun fs e=>by rw[h1] at e;cases e).symm
  | @struct _ fs h1 parts hl hf=>
    unfold okT at h;rw[h1] at h;simp only[dY,List.all_eq_true] at h;obtain⟨hc,ho⟩:=h
    have key: ∀(fs:List (Nat×TypeId)) (parts:List (List TC)) (off:Nat),parts.length=fs.length→(∀(j:Nat) (p:Nat×TypeId) (q:List TC),fs[j]?=some p→parts[j]?=some q→q.length=(C.tt p.2).size)→adw C.tt off fs (C.tt t).size=true→off+parts.flatten.length=(C.tt t).size:=by
     intro fs
     induction fs with
     |nil=>
      intro parts off hl _ hc;have:parts=[]:=Dt hl;subst this;exact jw hc
     |cons f r ih=>
      intro parts off hl hf hc
      cases parts with
      |nil=>cases hl
      |cons q qs=>
       obtain⟨o,ft⟩:=f;simp only[adw] at hc
       split at hc
       ·have h2:=ih qs _ (by simpa using hl) (fun j p q' h1 h2=>hf (j+1) p q' (by simpa using h1) (by simpa using h2)) hc
        have h3:=hf 0 _ q rfl rfl;simp only at h3;rw[yh,ct,h3];omega
       ·cases hc
    have:=key fs parts 0 hl (fun j p q Cv h2=>L4.len hT m p.2 q (ho p (iV Cv)) (hf j p q Cv h2)) hc;omega
theorem L6 (hT:ij C): ∀(m:Nat) (t:TypeId) (fuel:Nat) (cs:List Value) (x:DataW H×List MemPlace),okT C.tt m t=true→DataW.trod enc C.P w 0 (fun _=>true) true fuel t cs=some x→(x.1.weights C.P t).all (· ≤reachBytes)=true→
 ∃tcs,L4 C.tt t tcs∧tcs.length=cs.length∧ ∀(j:Nat) (c:TC) (v:Value),tcs[j]?=some c→cs[j]?=some v→av w (Rp x.2) .snap Lw c v
 |0,_,_,_,_,h,_,_=>by cases h
 |m+1,t,fuel,cs,x,h,hx,hwt=>by
  have hk:=L5 h;have hd:=(hT t hk).desc
  have one: ∀{c0:TC} {v0:Value} {ps:List MemPlace},av w (Rp ps) .snap Lw c0 v0→ ∀(j:Nat) (c:TC) (v:Value),[c0][j]?=some c→[v0][j]?=some v→av w (Rp ps) .snap Lw c v:=fun {c0 v0 ps} h j c v h1 h2=>by
   cases j with
   |zero=>simp only[fu,bq] at h1 h2;subst h1 h2;exact h
   |succ j=>simp at h1
  unfold okT at h
  cases ht:(C.tt t).ti with
  |int k=>
   rw[ht] at hd;obtain⟨n,rfl,rfl,hw⟩:=DataW.trod_int hd hx;exact⟨_,.int ht hw,rfl,one (.sc _ _ _ trivial)⟩
  |bool=>
   rw[ht] at hd;obtain⟨b,rfl,rfl⟩:=DataW.trod_bool hd hx;exact⟨_,.bool ht,rfl,one (.sc _ _ _ trivial)⟩
  |str=>
   rw[ht] at hd;obtain⟨s,rfl,rfl,_⟩:=DataW.trod_string hd hx;refine⟨_,.str ht ?_,rfl,one (.sc _ _ _ trivial)⟩;simp only[DataW.weights,tP,tQ,mJ,decide_eq_true_eq] at hwt;simpa using hwt
  |slice e=>
   rw[ht] at hd h;simp only at h hd;obtain⟨hu,hke⟩:=hd;obtain⟨hce,hbe⟩:=IY hT hke;have hpos:=(hT e hke).pos;rcases DataW.trod_slice hu hx with⟨rfl,rfl⟩|⟨a,len,cap,elems,rest,n,rfl,rfl,rfl,hb,hl,hm,hlen,hel,hsp,_⟩
   ·exact⟨_,.slice ht [] (fun r hr=>(by cases hr)) bZ,rfl,one (zV hpos)⟩
   ·obtain⟨hrl,_⟩:=hsp rfl
    simp only[DataW.weights,hu,tP,List.all_append,dY,decide_eq_true_eq,cq] at hwt;obtain⟨hw1,Vm,_⟩:=hwt
    have al4: ∀(i:Nat) (d:DataW H),(elems.map (·.1))[i]?=some d→(d.weights C.P e).all (· ≤reachBytes)=true:=by
     intro i d hi
     have: ∀(l:List (DataW H)),(DataW.weightsAll C.P e l).all (· ≤reachBytes)=true→ ∀d∈l,(d.weights C.P e).all (· ≤reachBytes)=true:=by
      intro l
      induction l with
      |nil=>intro _ d hd;cases hd
      |cons y r ih=>
       intro h d hd;simp only[DataW.weightsAll,List.all_append,dY] at h;rcases dJ.1 hd with rfl|hd
       ·exact h.1
       ·exact ih h.2 d hd
     exact this _ Vm d (iV hi)
    have each: ∀i,i<len→ ∃row:List TC,L4 C.tt e row∧row.length=(C.tt e).size∧ ∀(f:Nat) (c:TC),row[f]?=some c→ ∃u,w.cell? (a.add (i*(C.tt e).size+f))=some u∧av w (Rp (elems.flatMap (·.2))) .snap Lw c u:=by
     intro i hi;have h1:=hel i hi
     have hie:i<elems.length:=by omega
     rw[bC hie,hce,Option.bind_eq_some_iff] at h1;obtain⟨vs,hvs,htr⟩:=h1;obtain⟨row,r1,r2,r3⟩:=L6 hT m e n vs elems[i] h htr (al4 i _ (by rw[me,bC hie];rfl));unfold World.cells? at hvs;rw[aR (cW _)] at hvs
     have hvl:vs.length=(C.tt e).size:=by simpa using mapM_some_length hvs
     refine⟨row,r1,by rw[r2,hvl],fun f c hf=> ?_⟩
     have hfl:f<(C.tt e).size:=by rw[←hvl,←r2];exact(List.getElem?_eq_some_iff.1 hf).1
     have hg:=mapM_some_get hvs f f (by simp[hfl]);rw[Addr.add_add] at hg;have hv:vs[f]?=some vs[f]:=bC (by rw[hvl];exact hfl);exact⟨vs[f],by rw[hg];exact hv,(r3 f c _ hf hv).rm fun k ⟨y,hy,hk⟩=>⟨y,List.mem_flatMap.2 ⟨_,tV hie,hy⟩,hk⟩⟩
    obtain⟨rows,aau,hrow⟩: ∃rows:List (List TC),rows.length=len∧ ∀i row,rows[i]?=some row→L4 C.tt e row∧row.length=(C.tt e).size∧ ∀(f:Nat) (c:TC),row[f]?=some c→ ∃u,w.cell? (a.add (i*(C.tt e).size+f))=some u∧av w (Rp (elems.flatMap (·.2))) .snap Lw c u:=by
     refine⟨(List.range len).map fun i=>if hi:i<len then Classical.choose (each i hi) else [],by simp,fun i row hi=> ?_⟩
     have hil:i<len:=by have:=(List.getElem?_eq_some_iff.1 hi).1;simpa using this
     simp[hil] at hi;subst hi;exact Classical.choose_spec (each i hil)
    refine⟨_,.slice ht rows (fun r hr=> ?_) ?_,rfl,one ?_⟩
    ·obtain⟨i,hi,rfl⟩:=List.mem_iff_getElem.1 hr
     exact(hrow i _ (bC hi)).1
    ·rw[aau,←hbe,←hlen]
     exact bQ (oH _ (Nat.le_add_right _ _)) hw1
    ·have hmk:=av.sub (w:=w) (R:=Rp (MemPlace.row a ((elems.length+rest.length)*C.P.cellsOf e)++(elems++rest).flatMap (·.2))) .snap Lw (C.tt e).size rows (some a) cap
      (fun i f=>(w.cell? (a.add (i*(C.tt e).size+f))).getD undef) (fun _ _ _=>False) ?_ ?_
     ·rw[aau] at hmk;exact hmk
     ·refine⟨by omega,hm,hpos,fun r hr=> ?_,fun _=>⟨a,rfl⟩,fun ad ha i f tc ht'=> ?_,fun _ ad ha hne=> ?_,fun hm=>absurd rfl hm,fun hm=>absurd rfl hm,fun hm=>(by cases hm)⟩
      ·obtain⟨i,hi,rfl⟩:=List.mem_iff_getElem.1 hr
       exact(hrow i _ (bC hi)).2.1
      ·cases ha
       unfold zQ at ht'
       cases hr:rows[i]? with
       |none=>rw[hr] at ht';cases ht'
       |some row=>
        rw[hr] at ht';obtain⟨u,u1,_⟩:=(hrow i row hr).2.2 f tc ht';rw[u1];rfl
      ·cases ha
       refine⟨.cell a.block (a.off+0),kD _ (List.mem_map.2 ⟨0,List.mem_range.2 ?_,rfl⟩),rfl⟩;rw[hce]
       have:0<rows.length:=by
        cases rows with
        |nil=>exact absurd rfl hne
        |cons _ _=>simp
       exact Nat.mul_pos au hpos
     ·intro i f tc ht'
      unfold zQ at ht'
      cases hr:rows[i]? with
      |none=>rw[hr] at ht';cases ht'
      |some row=>
       rw[hr] at ht';obtain⟨u,u1,u2⟩:=(hrow i row hr).2.2 f tc ht';rw[u1];refine u2.rm fun k ⟨y,hy,hk⟩=>⟨y,p6 _ ?_,hk⟩;rw[List.flatMap_append];exact kD _ hy
  |struct fs=>
   rw[ht] at hd h;simp only[dY,List.all_eq_true] at h;obtain⟨hc,ho⟩:=h;obtain⟨fields,hu,hfl,hff⟩:=hd;obtain⟨xs,n,rfl,rfl,hcl,hxl,hxs⟩:=DataW.trod_struct hu hx;have hct:=(IY hT hk).1;rw[hct] at hcl;simp only[DataW.weights,hu] at hwt
   have each: ∀(j:Nat) (p:Nat×TypeId),fs[j]?=some p→ ∃q:List TC,L4 C.tt p.2 q∧q.length=(C.tt p.2).size∧ ∀(i:Nat) (c:TC),q[i]?=some c→ ∃u,cs[p.1+i]?=some u∧av w (Rp (xs.flatMap (·.2))) .snap Lw c u:=by
    intro j p hj;obtain⟨fd,f1,f2,f3,f4,f5⟩:=hff j p hj;have h1:=hxs j fd f1;rw[f2,f3,(IY hT f4).1] at h1
    have hjx:j<xs.length:=by rw[hxl,hfl];exact(List.getElem?_eq_some_iff.1 hj).1
    rw[bC hjx] at h1
    have hw:(xs[j].1.weights C.P p.2).all (· ≤reachBytes)=true:=by
     rw[←f3];have:=List.all_eq_true.1 hwt;refine List.all_eq_true.2 fun y hy=>this y (DataW.weights_mem_each (ts:=fields.toList.map (·.type)) (ds:=xs.map (·.1)) (j:=j) (by rw[me];simp[f1]) (by rw[me,bC hjx];rfl) y hy)
    obtain⟨q,q1,q2,q3⟩:=L6 hT m p.2 n _ xs[j] (ho p (iV hj)) h1 hw
    have hql:q.length=(C.tt p.2).size:=by rw[q2,c7,gQ,hcl];omega
    refine⟨q,q1,hql,fun i c hi=> ?_⟩
    have hil:i<(C.tt p.2).size:=by rw[←hql];exact(List.getElem?_eq_some_iff.1 hi).1
    have hlt:p.1+i<cs.length:=by rw[hcl];omega
    refine⟨cs[p.1+i],bC hlt,(q3 i c _ hi ?_).rm fun k ⟨y,hy,hk⟩=>⟨y,List.mem_flatMap.2 ⟨_,tV hjx,hy⟩,hk⟩⟩;rw[zG,aR hil,o5];exact bC hlt
   have parts: ∀(fs:List (Nat×TypeId)) (off:Nat),(∀(j:Nat) (p:Nat×TypeId),fs[j]?=some p→ ∃q:List TC,L4 C.tt p.2 q∧q.length=(C.tt p.2).size∧ ∀(i:Nat) (c:TC),q[i]?=some c→ ∃u,cs[p.1+i]?=some u∧av w (Rp (xs.flatMap (·.2))) .snap Lw c u)→
    adw C.tt off fs (C.tt t).size=true→ ∃ps:List (List TC),ps.length=fs.length∧(∀(j:Nat) (p:Nat×TypeId) (q:List TC),fs[j]?=some p→ps[j]?=some q→L4 C.tt p.2 q)∧off+ps.flatten.length=(C.tt t).size∧
     ∀(i:Nat) (c:TC),ps.flatten[i]?=some c→ ∃u,cs[off+i]?=some u∧av w (Rp (xs.flatMap (·.2))) .snap Lw c u:=by
    intro fs
    induction fs with
    |nil=>intro off _ hc;exact⟨[],rfl,fun j p q h=>by simp at h,jw hc,fun i c h=>by simp at h⟩
    |cons f r ih=>
     intro off he hc;obtain⟨o,ft⟩:=f;simp only[adw] at hc
     split at hc
     ·rename_i hoff
      have hoff:=jw hoff;subst hoff;obtain⟨q,q1,q2,q3⟩:=he 0 _ rfl;simp only at q1 q2 q3;obtain⟨ps,p1,p2,p3,p4⟩:=ih _ (fun j p hj=>he (j+1) p (by simpa using hj)) hc;refine⟨q::ps,by simp[p1],fun j p q' h1 h2=> ?_,by rw[yh,ct,q2];omega,fun i c hi=> ?_⟩
      ·cases j with
       |zero=>simp only[fu,bq] at h1 h2;subst h1 h2;exact q1
       |succ j=>exact p2 j p q' (by simpa using h1) (by simpa using h2)
      ·rw[yh] at hi
       by_cases hlt:i<q.length
       ·rw[kC hlt] at hi;exact q3 i c hi
       ·rw[m7 au] at hi
        obtain⟨u,u1,u2⟩:=p4 _ c hi;exact⟨u,by rw[←u1];congr 1;omega,u2⟩
     ·cases hc
   obtain⟨ps,p1,p2,p3,p4⟩:=parts fs 0 each hc;refine⟨ps.flatten,.struct ht ps p1 p2,by omega,fun j c v h1 h2=> ?_⟩;obtain⟨u,u1,u2⟩:=p4 j c h1;rw[lG,h2] at u1
   cases u1
   exact u2
  |ptr e=>rw[ht] at h;cases h
  |other=>rw[ht] at h;cases h
end
end Go.T
namespace Go.T
open Go.RowKit
variable {C : mG} {w w' : World}
inductive WfV (tt:TypeId→mK) (t:TypeId):TV→Prop
 |c {c:TC} (h: ∀fs,(tt t).ti≠ .struct fs) (hw:L4 tt t [c]):WfV tt t (.c c)
 |ag {fs:List (Nat×TypeId)} {cs:List TC} (h:(tt t).ti= .struct fs) (hw:L4 tt t cs):WfV tt t (.ag cs)
inductive Y6 (tt:TypeId→mK):List TypeId→List TV→Prop
 |nil:Y6 tt [] []
 |cons {t:TypeId} {ts:List TypeId} {v:TV} {vs:List TV} (h:WfV tt t v) (hs:Y6 tt ts vs):Y6 tt (t::ts) (v::vs)
def okP (tt:TypeId→mK) (m:Nat) (t:TypeId):Bool:=okT tt m t&&Nat.ble (tt t).size 16
section
variable {H : Type} {enc : TypeId × Value → H}
theorem afw (hT:ij C) {m:Nat} {t:TypeId} {v:Value} {d:DataW H} {p:List MemPlace} {base:Nat} (ht:okP C.tt m t=true) (hv:Value.okWide C.P w .any base t v)
 (hd:DataW.Trod enc C.P w 0 (fun _=>true) true t v d p) (hwt:(d.weights C.P t).all (· ≤reachBytes)=true):
 ∃tv,WfV C.tt t tv∧zO tv=true∧ ∀BB:Nat→Prop,Bw w .borrow (Rp p) BB (fun _ _=>False) (fun _=>False) tv v:=by
 unfold okP at ht;simp only[dY] at ht;obtain⟨hok,hsz⟩:=ht;obtain⟨fuel,hf⟩:=hd;obtain⟨tcs,h1,h2,h3⟩:=L6 hT m t fuel _ _ hok hf hwt;have hk:=L5 hok;have hlen:=L4.len hT m t tcs hok h1;have Vn:=(hT t hk).desc
 have one:(∀fs,(C.tt t).ti≠ .struct fs)→v.cells= #[v]→ ∃tv,WfV C.tt t tv∧zO tv=true∧ ∀BB:Nat→Prop,Bw w .borrow (Rp p) BB (fun _ _=>False) (fun _=>False) tv v:=by
  intro hn hc;rw[hc] at h2 h3
  match tcs,h1,h2,h3 with
  |[c],h1,h2,h3=>exact⟨.c c,.c hn h1,rfl,fun BB=>h3 0 c v rfl rfl⟩
 cases Wl:(C.tt t).ti with
 |int k=>
  rw[Wl] at Vn;obtain⟨n,rfl⟩:=WideShapes.okWide_int Vn hv;exact one (fun fs e=>by rw[Wl] at e;cases e) rfl
 |bool=>
  rw[Wl] at Vn;obtain⟨n,rfl⟩:=WideShapes.okWide_bool Vn hv;exact one (fun fs e=>by rw[Wl] at e;cases e) rfl
 |str=>
  rw[Wl] at Vn;obtain⟨n,rfl⟩:=WideShapes.okWide_string Vn hv;exact one (fun fs e=>by rw[Wl] at e;cases e) rfl
 |slice e=>
  rw[Wl] at Vn;obtain⟨a,l,c,rfl⟩:=WideShapes.okWide_slice Vn.1 hv;exact one (fun fs e=>by rw[Wl] at e;cases e) rfl
 |struct fs=>
  rw[Wl] at Vn;obtain⟨fields,hu,_⟩:=Vn;simp only[Value.okWide,hu] at hv;obtain⟨cs,rfl,hcs,_⟩:=hv;refine⟨.ag tcs,.ag Wl h1,?_,fun BB=>⟨cs,rfl,?_,fun j c hj=> ?_⟩⟩
  ·simp only[zO,hlen];exact hsz
  ·rw[h2];simp[Value.cells]
  ·have hjl:j<cs.size:=by
    have:=(List.getElem?_eq_some_iff.1 hj).1;rw[h2] at this;simpa [Value.cells] using this
   exact⟨cs[j],w8 hjl,h3 j c _ hj (by simp[Value.cells,hjl])⟩
 |ptr e=>
  cases m with
  |zero=>cases hok
  |succ m=>unfold okT at hok;rw[Wl] at hok;cases hok
 |other=>
  cases m with
  |zero=>cases hok
  |succ m=>unfold okT at hok;rw[Wl] at hok;cases hok
def Qu (v:TV):Prop:=match v with| .c _=>True| .ag _=>True|_=>False
theorem Bw.mono {w:World} {R R' BB:Nat→Prop} {v:TV} {x:Value} (hR: ∀k,R k→R' k) (h:Bw w .borrow R BB (fun _ _=>False) (fun _=>False) v x) (hn:Qu v):
 Bw w .borrow R' BB (fun _ _=>False) (fun _=>False) v x:=by
 cases v with
 |c c=>exact av.rm h hR
 |ag cs=>
  obtain⟨xs,h1,h2,h3⟩:=h;exact⟨xs,h1,h2,fun j c hj=>by obtain⟨u,u1,u2⟩:=h3 j c hj;exact⟨u,u1,u2.rm hR⟩⟩
 |_=>exact hn.elim
theorem WfV.plain {tt:TypeId→mK} {t:TypeId} {v:TV} (h:WfV tt t v):Qu v:=by
 cases h<;>trivial
theorem VT (hT:ij C) {m base:Nat}: ∀(ts:List TypeId) (xs:List Value) (ds:List (DataW H)) (ps:List MemPlace),DataW.TrodAll enc C.P w 0 (fun _=>true) true ts xs ds ps→ts.all (okP C.tt m)=true→
 (∀(j:Nat) (t:TypeId) (v:Value),ts[j]?=some t→xs[j]?=some v→Value.okWide C.P w .any base t v)→(DataW.weightsEach C.P ts ds).all (· ≤reachBytes)=true→
 ∃vs,Y6 C.tt ts vs∧vs.length=ts.length∧xs.length=ts.length∧rI vs=true∧ ∀(i:Nat) (v:TV),vs[i]?=some v→ ∃x,xs[i]?=some x∧ ∀BB:Nat→Prop,Bw w .borrow (Rp ps) BB (fun _ _=>False) (fun _=>False) v x
 |[],xs,ds,ps,h,_,_,_=>by
  obtain⟨rfl,rfl,rfl⟩:=ChangeShapes.trodAll_nil h;exact⟨[],.nil,rfl,rfl,rfl,fun i v hi=>by simp at hi⟩
 |t::ts,xs,ds,ps,h,ho,hv,hw=>by
  obtain⟨x,xs',d,ds',p,q,rfl,rfl,rfl,h1,h2⟩:=ChangeShapes.trodAll_cons h;simp only[tP,dY] at ho;simp only[DataW.weightsEach,List.all_append,dY] at hw;obtain⟨tv,a1,a2,a3⟩:=afw hT ho.1 (hv 0 t x rfl rfl) h1 hw.1;obtain⟨vs,b1,b2,b3,b4,b5⟩:=VT hT ts xs' ds' q h2 ho.2 (fun j t v hj hv'=>hv (j+1) t v (by simpa using hj) (by simpa using hv')) hw.2;refine⟨tv::vs,.cons a1 b1,by simp[b2],by simp[b3],by simp[rI,a2,b4],fun i v hi=> ?_⟩
  cases i with
  |zero=>
   simp only[fu,bq] at hi;subst hi;exact⟨x,rfl,fun BB=>(a3 BB).mono (fun k ⟨y,hy,hk⟩=>⟨y,kD _ hy,hk⟩) a1.plain⟩
  |succ i=>
   simp only[tU] at hi;obtain⟨x',c1,c2⟩:=b5 i v hi
   have Yg:Qu v:=by
    have: ∀(ts:List TypeId) (vs:List TV),Y6 C.tt ts vs→ ∀(i:Nat) (v:TV),vs[i]?=some v→Qu v:=by
     intro ts vs h
     induction h with
     |nil=>intro i v hi;simp at hi
     |cons h hs ih=>
      intro i v hi
      cases i with
      |zero=>simp only[fu,bq] at hi;subst hi;exact h.plain
      |succ i=>exact ih i v (by simpa using hi)
    exact this _ _ b1 i v hi
   exact⟨x',by simpa using c1,fun BB=>(c2 BB).mono (fun k ⟨y,hy,hk⟩=>⟨y,p6 _ hy,hk⟩) Yg⟩
theorem adx (hC:Y4 C) {f:FuncId} {ts:List TypeId} {m base:Nat} {W:World} {args:Array Value} {ds:List (DataW H)} {ps:List MemPlace}
 (hA:DataW.TrodAll enc C.P W 0 (fun _=>true) true ts args.toList ds ps) (ho:ts.all (okP C.tt m)=true)
 (hv: ∀(j:Nat) (t:TypeId) (v:Value),ts[j]?=some t→args[j]?=some v→Value.okWide C.P W .any base t v) (hw:(DataW.weightsEach C.P ts ds).all (· ≤reachBytes)=true)
 (hps:(C.sig f).ps=ts.map fun _=> .borrow) (hn:ts.length≤50)
 (law: ∀vs,Y6 C.tt ts vs→ ∃k,j7 C k f vs (.c (.sc (.bool true))) []):
 Calls C.P f args W fun e W'=>e= .returned (.bool true)∧Below W.heap.size W W':=by
 have hlt: ∀(ts:List TypeId) (xs:List Value) (ds:List (DataW H)) (ps:List MemPlace),DataW.TrodAll enc C.P W 0 (fun _=>true) true ts xs ds ps→ ∀x∈ps,x.block<W.heap.size:=by
  intro ts
  induction ts with
  |nil=>intro xs ds ps h x hx;obtain⟨_,_,rfl⟩:=ChangeShapes.trodAll_nil h;cases hx
  |cons t ts ih=>
   intro xs ds ps h x hx;obtain⟨_,_,_,_,p,q,_,_,rfl,⟨n,h1⟩,h2⟩:=ChangeShapes.trodAll_cons h;rcases List.mem_append.1 hx with hx|hx
   ·exact DataW.trod_lt n _ _ _ h1 x hx
   ·exact ih _ _ _ h2 x hx
 obtain⟨vs,v1,v2,v3,v4,v5⟩:=VT hC.ty ts args.toList ds ps hA ho (fun j t v h1 h2=>hv j t v h1 (by simpa using h2)) hw;obtain⟨k,hk⟩:=law vs v1
 have hargs:WO W (C.sig f).ps vs args.toList (Rp ps) (fun _=>False) (fun _ _ _=>False) (fun _ _=>False):=by
  refine⟨fun i v hi=> ?_,?_,fun i j k h=>h.elim,fun i k h=>h.elim,fun k ⟨x,hx,hk⟩=>hk▸hlt _ _ _ _ hA x hx,fun k h=>h.elim⟩
  ·obtain⟨x,x1,x2⟩:=v5 i v hi
   refine⟨x,x1,?_⟩
   have:(C.sig f).ps.getD i .borrow= .borrow:=by
    rw[hps,oG,me]
    cases ts[i]?<;>rfl
   rw[this];exact x2 _
  ·unfold yj
   rw[show Nat.ble vs.length 50=true from QE au];exact v4
 have:=(Y5 hC k f vs _ _ hk).calls W args.toList _ _ _ _ hargs (by rw[hps];simp[v3]);refine Calls.mono this fun e W' ⟨v,he,hp⟩=> ?_;subst he;obtain⟨hf,I,X,ri,fi,hb,hr,_⟩:=hp;obtain⟨FD,IG⟩:=hr;refine⟨?_,hf.os,hf.tape,hf.output,hf.size,fun k hk=>hf.block k hk (by rintro(⟨_,_,h⟩|⟨_,h⟩)<;>exact h)⟩;have h1:=FD.2.2.2 (by decide);rw[h1] at IG;have h0:=hb.ok 0 _ (by rw[IG];rfl)
 cases h0
 rfl
end
end Go.T
namespace Go.T
def VU (C:mG) (f:Nat) (fn:Func):Bool:= !(fn.name== "runtime.NumGoroutine")&&match fn.body with
 |none=>true
 |some c=>we fn.ntmps c&&Fy C f c
def Y7 (C:mG):Nat→List Func→Bool
 |_,[]=>true
 |f,fn::r=>VU C f fn&&Y7 C (f+1) r
theorem VV {C:mG}: ∀{f:Nat} {l:List Func},Y7 C f l=true→ ∀(i:Nat) (fn:Func),l[i]?=some fn→VU C (f+i) fn=true
 |f,[],_,i,fn,h=>by simp at h
 |f,fn'::r,h,i,fn,hi=>by
  simp only[Y7,dY] at h
  cases i with
  |zero=>simp only[fu,bq] at hi;subst hi;exact h.1
  |succ i=>have:=VV h.2 i fn (by simpa using hi);rw[show f+(i+1)=f+1+i by omega];exact this
theorem ahN {C:mG} (ty:ij C) (h:Y7 C 0 C.P.funcs.toList=true) (mix:C.P.follows .mixedOrders=true)
 (ext: ∀(f:FuncId) (p:List TV→Option (TV×List TV)) (vs:List TV) (r:TV) (fs:List TV),C.ext f=some p→p vs=some (r,fs)→LX C f vs r fs):Y4 C:=by
 have key: ∀(f:Nat) (fn:Func),C.P.funcs[f]?=some fn→VU C f fn=true:=fun f fn hf=>by
  have:=VV h f fn (by simpa using hf)
  rwa [lG] at this
 refine {ty:=ty,name:=fun f fn hf=> ?_,dst:=fun f fn c hf hc=> ?_,N8:=fun f fn c hf hc=> ?_,mix:=mix,ext:=ext}
 ·have:=key f fn hf
  unfold VU at this;simp only[dY,yg] at this;exact this.1
 ·have:=key f fn hf
  unfold VU at this;rw[hc] at this;simp only[dY] at this;exact this.2.1
 ·have:=key f fn hf
  unfold VU at this;rw[hc] at this;simp only[dY] at this;exact this.2.2
end Go.T
namespace Go.T
variable {C : mG}
def ai (C:mG) (f:FuncId) (vs:List TV) (r:TV) (fs:List TV):Prop:= ∃k,j7 C k f vs r fs
def Oe (C:mG) (fx:List Nat):Nat→Lp
 |0=>fun _ _ _ _ _=>False
 |n+1=>fun f i c st Q=> ∃k m x st',LL C k fx n f i c m st x st'∧Q x st'
def aU (C:mG) (f:FuncId) (vs:List TV) (Q:TV→List TV→Prop):Prop:= ∃r fs,ai C f vs r fs∧Q r fs
theorem Kn {R:Type} {k k':Nat} (hk:k≤k') {fx:List Nat} {n:Nat} {Q:R→Prop} {e:Ev R} (h:e.holds (j7 C k) (lpN C (j7 C k) k fx n) Q):e.holds (j7 C k') (lpN C (j7 C k') k' fx n) Q:=
 gR (fun _ _ _ _ h=>oL hk h) (rJ (fun _ _ _ _ h=>oL hk h) hk n) (fun _ h=>h) e h
theorem LL.up {k k' m m':Nat} (hk:k≤k') (hm:m≤m') {fx:List Nat} {n f i:Nat} {c:Code} {st st':TS} {x:TX} (h:LL C k fx n f i c m st x st'):LL C k' fx n f i c m' st x st':=
 Hg (fun _ _ _ _ h=>oL hk h) (rJ (fun _ _ _ _ h=>oL hk h) hk n) (fun _ _ h=>h) m m' hm st h
theorem pO {R:Type} {fx:List Nat} {n:Nat} {Q:R→Prop}: ∀(e:Ev R),e.holds (ai C) (Oe C fx n) Q→ ∃k r,e.holds (j7 C k) (lpN C (j7 C k) k fx n) (fun r'=>r'=r)∧Q r
 | .fail,h=>h.elim
 | .ret r,h=>⟨0,r,rfl,h⟩
 | .test b k,h=>pO (k b) h
 | .row rows i k,⟨c,h1,h2⟩=>by
   obtain⟨k',r,h3,h4⟩:=pO (k c) h2;exact⟨k',r,⟨c,h1,h3⟩,h4⟩
 | .byte rows i k,⟨c,h1,h2⟩=>by
   obtain⟨k',r,h3,h4⟩:=pO (k c) h2;exact⟨k',r,⟨c,h1,h3⟩,h4⟩
 | .bytes rows k,⟨c,h1,h2⟩=>by
   obtain⟨k',r,h3,h4⟩:=pO (k c) h2;exact⟨k',r,⟨c,h1,h3⟩,h4⟩
 | .call f vs k,⟨r0,fs,⟨k0,h1⟩,h2⟩=>by
   obtain⟨k',r,h3,h4⟩:=pO (k r0 fs) h2;exact⟨max k0 k',r,⟨r0,fs,oL (FH _ _) h1,Kn (Nat.le_max_right _ _) h3⟩,h4⟩
 | .loop f i c st k,h=>by
   cases n with
   |zero=>exact h.elim
   |succ n=>
    obtain⟨k0,m,x,st',h1,h2⟩:=h;obtain⟨k',r,h3,h4⟩:=pO (k x st') h2;refine⟨max (max k0 m) k',r,?_,h4⟩;have h5:=(h1.up (k':=max (max k0 m) k') (m':=max (max k0 m) k') au au).ok (cL _);refine rJ (fun _ _ _ _ h=>h) (cL _) (n+1) _ _ _ _ _ _ (fun x1 eM hh=> ?_) h5;obtain⟨rfl,rfl⟩:=hh;exact Kn (Nat.le_max_right _ _) h3
 | .both a b,⟨r,h1,h2,h3⟩=>by
   obtain⟨k1,r1,g1,e1⟩:=pO a h1;obtain⟨k2,r2,g2,e2⟩:=pO b h2;rw[e1] at g1;rw[e2] at g2;exact⟨max k1 k2,r,⟨r,Kn (FH _ _) g1,Kn (Nat.le_max_right _ _) g2,rfl⟩,h3⟩
theorem aU.afx {f:FuncId} {vs:List TV} {Q:TV→List TV→Prop} (h:(body C f vs).holds (ai C) (Oe C (QN (C.sig f)) 4) fun p=>Q p.1 p.2) (hx:C.ext f=none:=by rfl):aU C f vs Q:=by
 obtain⟨k,⟨r,fs⟩,h1,h2⟩:=pO _ h;exact⟨r,fs,⟨k+1,aaN hx h1⟩,h2⟩
theorem ai.ext {f:FuncId} {vs:List TV} {r:TV} {fs:List TV} {p:List TV→Option (TV×List TV)} (hx:C.ext f=some p) (h:p vs=some (r,fs)):ai C f vs r fs:=⟨1,ac7 hx h⟩
theorem Oe.round {fx:List Nat} {n f i:Nat} {c:Code} {st:TS} {Q:TX→TS→Prop} (h:(run C fx f i c st QO).holds (ai C) (Oe C fx n) fun p=>match p with
 |(.norm,st')=>fTS (Yt (C.lb f i) st') fun st'=>Oe C fx (n+1) f i c st' Q
 |(x,st')=>Q x st'):Oe C fx (n+1) f i c st Q:=by
 obtain⟨k,⟨x,eM⟩,h1,h2⟩:=pO _ h
 cases x with
 |norm=>
  simp only at h2;rw[uf] at h2;obtain⟨k0,m,x,st',h3,h4⟩:=h2;refine⟨max k k0,m+1,x,st',?_,h4⟩;have h5:=h3.up (k':=max k k0) (m':=m) (Nat.le_max_right _ _) (cL _);refine gR (fun _ _ _ _ h=>oL (FH _ _) h) (rJ (fun _ _ _ _ h=>oL (FH _ _) h) (FH _ _) n) (fun r hr=> ?_) _ h1;subst hr;simp only;rw[uf];exact h5
 |ex id=>exact⟨k,1,.ex id,eM,gR (fun _ _ _ _ h=>h) (rJ (fun _ _ _ _ h=>h) (cL _) n) (fun r hr=>by subst hr;exact⟨rfl,rfl⟩) _ h1,h2⟩
 |ret=>exact⟨k,1,.ret,eM,gR (fun _ _ _ _ h=>h) (rJ (fun _ _ _ _ h=>h) (cL _) n) (fun r hr=>by subst hr;exact⟨rfl,rfl⟩) _ h1,h2⟩
theorem Oe.mono {fx:List Nat} {n f i:Nat} {c:Code} {st:TS} {Q Q':TX→TS→Prop} (hQ: ∀x s,Q x s→Q' x s) (h:Oe C fx n f i c st Q):Oe C fx n f i c st Q':=by
 cases n with
 |zero=>exact h.elim
 |succ n=>obtain⟨k,m,x,st',h1,h2⟩:=h;exact⟨k,m,x,st',h1,hQ _ _ h2⟩
inductive Sh where
 |int (k:IntKind)|bool|str|sub (z:Nat)
inductive xg where
 |c (s:Sh)|ag (l:List Sh)|tu (l:List (Nat×List Sh))|bx (l:List Sh)
inductive Hint where
 |z|br (a b:Hint)|both (a b:Hint)|nest (a b:Hint)|row (l:List Sh) (h:Hint)|call (r:xg) (fs:List xg) (h:Hint)|n (h:Hint)
def exC:Sh→(TC→Prop)→Prop
 | .int k,P=> ∃n:Int,P (.sc (.int k n))
 | .bool,P=> ∃b:Bool,P (.sc (.bool b))
 | .str,P=> ∃s:ByteArray,P (.sc (.string s))
 | .sub z,P=> ∃rows:List (List TC),P (.sub z rows)
def ady:List Sh→(List TC→Prop)→Prop
 |[],P=>P []
 |s::r,P=>exC s fun c=>ady r fun cs=>P (c::cs)
def exT:List (Nat×List Sh)→(List (Nat×List TC)→Prop)→Prop
 |[],P=>P []
 |(a,s)::r,P=>ady s fun c=>exT r fun cs=>P ((a,c)::cs)
def exV:xg→(TV→Prop)→Prop
 | .c s,P=>exC s fun c=>P (.c c)
 | .ag l,P=>ady l fun c=>P (.ag c)
 | .tu l,P=>exT l fun c=>P (.tu c)
 | .bx l,P=>ady l fun c=>P (.bx c)
def ajU:List xg→(List TV→Prop)→Prop
 |[],P=>P []
 |s::r,P=>exV s fun c=>ajU r fun cs=>P (c::cs)
theorem afy: ∀{s:Sh} {P:TC→Prop},exC s P→ ∃c,P c
 | .int _,_,⟨_,h⟩=>⟨_,h⟩
 | .bool,_,⟨_,h⟩=>⟨_,h⟩
 | .str,_,⟨_,h⟩=>⟨_,h⟩
 | .sub _,_,⟨_,h⟩=>⟨_,h⟩
theorem Ko: ∀{l:List Sh} {P:List TC→Prop},ady l P→ ∃c,P c
 |[],_,h=>⟨_,h⟩
 |_::_,_,h=>by obtain⟨c,h⟩:=afy h;obtain⟨cs,h⟩:=Ko h;exact⟨_,h⟩
theorem afz: ∀{l:List (Nat×List Sh)} {P:List (Nat×List TC)→Prop},exT l P→ ∃c,P c
 |[],_,h=>⟨_,h⟩
 |(_,_)::_,_,h=>by obtain⟨c,h⟩:=Ko h;obtain⟨cs,h⟩:=afz h;exact⟨_,h⟩
theorem afA: ∀{s:xg} {P:TV→Prop},exV s P→ ∃c,P c
 | .c _,_,h=>by obtain⟨c,h⟩:=afy h;exact⟨_,h⟩
 | .ag _,_,h=>by obtain⟨c,h⟩:=Ko h;exact⟨_,h⟩
 | .tu _,_,h=>by obtain⟨c,h⟩:=afz h;exact⟨_,h⟩
 | .bx _,_,h=>by obtain⟨c,h⟩:=Ko h;exact⟨_,h⟩
theorem acF: ∀{l:List xg} {P:List TV→Prop},ajU l P→ ∃c,P c
 |[],_,h=>⟨_,h⟩
 |_::_,_,h=>by obtain⟨c,h⟩:=afA h;obtain⟨cs,h⟩:=acF h;exact⟨_,h⟩
def ax (b:Bool) (A B:Prop):Prop:=match b with|true=>A|false=>B
def Ev.pre {R:Type} (cf:Cf) (lp:Lp) (Q:R→Prop):Ev R→Hint→Prop
 | .fail,_=>False
 | .ret r,_=>Q r
 | .test b k,h=>match h with| .br h1 h2=>ax b ((k true).pre cf lp Q h1) ((k false).pre cf lp Q h2)|_=>False
 | .row rows i k,h=>match h with| .row l h=>ady l fun c=>rowAt rows i=some c∧(k c).pre cf lp Q h|_=>False
 | .byte s i k,h=>match h with| .n h=> ∃b,va s i=some b∧(k b).pre cf lp Q h|_=>False
 | .bytes rows k,h=>match h with| .n h=> ∃ns,tZ rows=some ns∧(k ns).pre cf lp Q h|_=>False
 | .call f vs k,h=>match h with| .call r fs h=>exV r fun r=>ajU fs fun fs=>cf f vs r fs∧(k r fs).pre cf lp Q h|_=>False
 | .loop f i c st k,_=>lp f i c st fun x st'=>(k x st').holds cf lp Q
 | .both a b,h=>match h with| .both h1 h2=> ∃r,a.pre cf lp (fun r'=>r'=r) h1∧b.pre cf lp (fun r'=>r'=r) h2∧Q r| .nest h1 h2=>a.pre cf lp (fun r=>b.pre cf lp (fun r'=>r'=r) h2∧Q r) h1|_=>False
theorem vo {R:Type} {fx:List Nat} {n:Nat} {Q:R→Prop}: ∀(e:Ev R),e.holds (ai C) (Oe C fx n) Q→ ∃r,e.holds (ai C) (Oe C fx n) (fun r'=>r'=r)∧Q r
 | .fail,h=>h.elim
 | .ret r,h=>⟨r,rfl,h⟩
 | .test b k,h=>vo (k b) h
 | .row rows i k,⟨c,h1,h2⟩=>by obtain⟨r,h3,h4⟩:=vo (k c) h2;exact⟨r,⟨c,h1,h3⟩,h4⟩
 | .byte rows i k,⟨c,h1,h2⟩=>by obtain⟨r,h3,h4⟩:=vo (k c) h2;exact⟨r,⟨c,h1,h3⟩,h4⟩
 | .bytes rows k,⟨c,h1,h2⟩=>by obtain⟨r,h3,h4⟩:=vo (k c) h2;exact⟨r,⟨c,h1,h3⟩,h4⟩
 | .call f vs k,⟨r0,fs,h1,h2⟩=>by obtain⟨r,h3,h4⟩:=vo (k r0 fs) h2;exact⟨r,⟨r0,fs,h1,h3⟩,h4⟩
 | .loop f i c st k,h=>by
   cases n with
   |zero=>exact h.elim
   |succ n=>
    obtain⟨k0,m,x,st',h1,h2⟩:=h;obtain⟨r,h3,h4⟩:=vo (k x st') h2;exact⟨r,⟨k0,m,x,st',h1,h3⟩,h4⟩
 | .both a b,⟨r,h1,h2,h3⟩=>⟨r,⟨r,h1,h2,rfl⟩,h3⟩
theorem uk {R:Type} {fx:List Nat} {n:Nat} {Q:R→Prop}: ∀(e:Ev R) (h:Hint),e.pre (ai C) (Oe C fx n) Q h→e.holds (ai C) (Oe C fx n) Q
 | .fail,_,h=>h
 | .ret r,_,h=>h
 | .test b k,.br h1 h2,h=>by
   cases b
   ·exact uk (k false) h2 h
   ·exact uk (k true) h1 h
 | .row rows i k,.row l hh,h=>by obtain⟨c,h1,h2⟩:=Ko h;exact⟨c,h1,uk _ _ h2⟩
 | .byte s i k,.n hh,⟨b,h1,h2⟩=>⟨b,h1,uk _ _ h2⟩
 | .bytes s k,.n hh,⟨b,h1,h2⟩=>⟨b,h1,uk _ _ h2⟩
 | .call f vs k,.call r fs hh,h=>by obtain⟨r,h⟩:=afA h;obtain⟨fs,h1,h2⟩:=acF h;exact⟨r,fs,h1,uk _ _ h2⟩
 | .loop f i c st k,_,h=>h
 | .both a b,.both ha hb,⟨r,h1,h2,h3⟩=>⟨r,uk a ha h1,uk b hb h2,h3⟩
 | .both a b,.nest ha hb,h=>by
   obtain⟨r,h1,h2,h3⟩:=vo a (uk a ha h);exact⟨r,h1,uk b hb h2,h3⟩
inductive dB where
 |l|r|b
def abg:Code→List dB→Code
 |c,[]=>c
 | .seq a b,d::p=>match d with| .l=>abg a p|_=>abg b p
 | .cond _ a b,d::p=>match d with| .l=>abg a p|_=>abg b p
 | .block _ a,_::p=>abg a p
 | .loop a,_::p=>abg a p
 |c,_=>c
def ai4 (C:mG) (f:FuncId):Code:=match C.P.funcs[f]? with
 |none=> .skip
 |some fn=>match fn.body with
  |none=> .skip
  |some c=>c
def amY (C:mG) (f:FuncId):List ResultVar:=match C.P.funcs[f]? with
 |none=>[]
 |some fn=>fn.results.toList
def W3 (C:mG) (f:FuncId) (p:List dB):Code:=match abg (ai4 C f) p with
 | .loop c=>c
 |c=>c
def after (C:mG) (fx:List Nat) (f:FuncId) {R:Type}:Nat→Code→List dB→(TX→TS→Ev R)→(TX→TS→Ev R)
 |i,.seq a b,d::p,K=>match d with
  | .l=>after C fx f i a p fun x st'=>match x with
    | .norm=>run C fx f i b st' K
    |x=>K x st'
  |_=>after C fx f i b p K
 |i,.cond _ a b,d::p,K=>match d with
  | .l=>after C fx f i a p K
  |_=>after C fx f i b p K
 |_,.block id a,_::p,K=>after C fx f id a p fun x st'=>match x with
  | .ex id'=>match Nat.beq id' id with|true=>K .norm st'|false=>K (.ex id') st'
  |x=>K x st'
 |_,_,_,K=>K
abbrev fxs (C:mG) (f:FuncId):List Nat:=QN (C.sig f)
def afB (C:mG) (f:FuncId) (p:List dB):TX→TS→Ev (TV×List TV):=after C (fxs C f) f 0 (ai4 C f) p (aeD C (C.sig f) (amY C f))
def afC (C:mG) (f:FuncId) (p:List dB) (i:Nat) (q:List dB):TX→TS→Ev (TX×TS):=after C (fxs C f) f i (W3 C f p) q QO
def aj (C:mG) (f:FuncId) (p:List dB) (n i:Nat) (st:TS) (Q:TX→TS→Prop):Prop:=Oe C (fxs C f) n f i (W3 C f p) st Q
def aH (C:mG) (f:FuncId) (p:List dB) (x:TX) (st:TS) (Q:TV→List TV→Prop):Prop:=(afB C f p x st).holds (ai C) (Oe C (fxs C f) 4) fun p=>Q p.1 p.2
def afD (C:mG) (f:FuncId) (p:List dB) (n i:Nat) (Q:TX→TS→Prop):TX×TS→Prop
 |(.norm,st')=>fTS (Yt (C.lb f i) st') fun st'=>aj C f p n i st' Q
 |(x,st')=>Q x st'
def pY (C:mG) (f:FuncId) (p:List dB) (n i:Nat) (q:List dB) (x:TX) (st:TS) (Q:TX→TS→Prop):Prop:=(afC C f p i q x st).holds (ai C) (Oe C (fxs C f) (n-1)) (afD C f p n i Q)
theorem Ii {f:FuncId} {vs:List TV} {Q:TV→List TV→Prop} {Φ:Prop} (h:Hint) (e:(body C f vs).pre (ai C) (Oe C (fxs C f) 4) (fun p=>Q p.1 p.2) h=Φ) (hΦ:Φ) (hx:C.ext f=none:=by rfl):aU C f vs Q:=
 aU.afx (uk _ h (e▸hΦ)) hx
theorem abi {f:FuncId} {p:List dB} {x:TX} {st:TS} {Q:TV→List TV→Prop} {Φ:Prop} (h:Hint) (e:(afB C f p x st).pre (ai C) (Oe C (fxs C f) 4) (fun p=>Q p.1 p.2) h=Φ) (hΦ:Φ):aH C f p x st Q:=
 uk _ h (e▸hΦ)
theorem ahO {f:FuncId} {p q:List dB} {n i:Nat} {x:TX} {st:TS} {Q:TX→TS→Prop} {Φ:Prop} (h:Hint) (e:(afC C f p i q x st).pre (ai C) (Oe C (fxs C f) (n-1)) (afD C f p n i Q) h=Φ) (hΦ:Φ):pY C f p n i q x st Q:=
 uk _ h (e▸hΦ)
theorem abj {f:FuncId} {p:List dB} {n i:Nat} {st:TS} {Q:TX→TS→Prop} {Φ:Prop} (h:Hint) (e:(run C (fxs C f) f i (W3 C f p) st QO).pre (ai C) (Oe C (fxs C f) n) (afD C f p (n+1) i Q) h=Φ) (hΦ:Φ):aj C f p (n+1) i st Q:=by
 refine Oe.round ?_;have:=uk _ h (e▸hΦ);exact gR (fun _ _ _ _ h=>h) (fun f i c st Q Q' hQ hh=>hh.mono hQ) (fun r hr=>by obtain⟨x,st'⟩:=r;cases x<;>exact hr) _ this
theorem aU.run {f:FuncId} {vs:List TV} {r:TV} {fs:List TV} (h:aU C f vs fun r' fs'=>r'=r∧fs'=fs):ai C f vs r fs:=by
 obtain⟨r',fs',h1,rfl,rfl⟩:=h;exact h1
end Go.T
namespace Go.T
@[simp] theorem ry {A B:Prop}:ax true A B=A:=rfl
@[simp] theorem Dz {A B:Prop}:ax false A B=B:=rfl
@[simp] theorem cX {b:Bool} {A B:Prop}:ax (!b) A B=ax b B A:=by cases b<;>rfl
@[simp] theorem gJ {a b:Bool} {A B:Prop}:ax (a&&b) A B=ax a (ax b A B) B:=by cases a<;>rfl
@[simp] theorem jH {a b:Bool} {A B:Prop}:ax (a||b) A B=ax a A (ax b A B):=by cases a<;>rfl
@[simp] theorem dI {p:Prop} [Decidable p] {A B:Prop}:ax (decide p) A B=if p then A else B:=by
  by_cases h:p<;>simp[h]
theorem aa {b:Bool} {A B:Prop} (h:b=true) (hA:A):ax b A B:=by subst h;exact hA
theorem ak {b:Bool} {A B:Prop} (h:b=false) (hB:B):ax b A B:=by subst h;exact hB
theorem aZ {b:Bool} {A B:Prop} (hA:b=true→A) (hB:b=false→B):ax b A B:=by cases b;exact hB rfl;exact hA rfl
@[simp] theorem mO (a b:Int):cP a b=decide (a<b):=by unfold cP;rfl
@[simp] theorem nJ (a b:Int):qC a b=decide (a≤b):=by unfold qC;rfl
@[simp] theorem cJ (a b:Int):cO a b=decide (a=b):=by unfold cO;by_cases h:a=b<;>simp[h]
@[simp] theorem amZ (a b:Bool):eqB a b=decide (a=b):=by unfold eqB;cases a<;>cases b<;>rfl
theorem adz {a b:ByteArray} (h:a.toList=b.toList):a=b:=by
 rw[ByteArray.toList_eq,ByteArray.toList_eq] at h;obtain⟨⟨x⟩⟩:=a;obtain⟨⟨y⟩⟩:=b;simp only at h;rw[h]
@[simp] theorem W4 (a b:ByteArray):FE a b=decide (a=b):=by
  unfold FE
  by_cases h:a=b
  ·subst h;simp
  ·have:a.toList≠b.toList:=fun e=>h (adz e)
   simp[h,this]
@[simp] theorem ahP (n b:Nat):fits n b=decide (n*b≤140737488355328∧n≤140737488355328):=by unfold fits;rfl
@[simp] theorem CU (n:Int):uX n=n.toNat:=by unfold uX;rfl
@[simp] theorem alc (a b:Int):JU a b=a+b:=by unfold JU;rfl
@[simp] theorem amn (a b:Int):TH a b=if b<a then b else a:=by unfold TH;rfl
theorem ahQ {a b:Int} (h: -9223372036854775808≤a+b∧a+b≤9223372036854775807):aaE .i64 a b=a+b:=by unfold aaE;exact IntWalk.i64_in _ h
theorem ahR {a b:Int} (h: -9223372036854775808≤a-b∧a-b≤9223372036854775807):QF .i64 a b=a-b:=by unfold QF;exact IntWalk.i64_in _ h
theorem W5 {a b:Int} (h: -9223372036854775808≤a*b∧a*b≤9223372036854775807):aaF .i64 a b=a*b:=by unfold aaF;exact IntWalk.i64_in _ h
@[simp] theorem acG (a b:Int):TJ a b=a.tmod b:=by unfold TJ;rfl
theorem adA (l:List (List TC)) (i:Nat):rowAt l (i:Int)=l[i]?:=by
 unfold rowAt;rw[aR (Int.natCast_nonneg i),oF]
theorem Hs {α:Type} {e:α→List TC} {l:List α} {i:Nat} {a:α} (h:l[i]?=some a):rowAt (l.map e) (i:Int)=some (e a):=by
 rw[adA,me,h];rfl
theorem abk (l:List (List TC)) (i f:Nat) (cs:List TC) {r:List TC} (h:l[i]?=some r):setRow l (i:Int) f cs=l.set i (r.take f++cs++r.drop (f+cs.length)):=by
 unfold setRow;rw[oF,h]
theorem IZ {α:Type} {e:α→List TC} {l:List α} {i:Nat} {a a':α} {f:Nat} {cs:List TC} (h:l[i]?=some a) (he:(e a).take f++cs++(e a).drop (f+cs.length)=e a'):setRow (l.map e) (i:Int) f cs=(l.set i a').map e:=by
 rw[abk (r:=e a) _ _ _ _ (by rw[me,h];rfl),he,List.map_set]
section
variable {C : mG}
end
section
variable {tt : TypeId → mK} {t : TypeId} {cs : List TC}
theorem L4.ahS {k:IntKind} (ht:(tt t).ti= .int k) (h:L4 tt t cs): ∃n,cs=[.sc (.int k n)]∧(Lit.int k n).wf=true:=by
 cases h with
 |int h1 h2=>rw[ht] at h1;cases h1;exact⟨_,rfl,h2⟩
 |bool h1=>rw[ht] at h1;cases h1
 |str h1 _=>rw[ht] at h1;cases h1
 |slice h1 _ _ _=>rw[ht] at h1;cases h1
 |struct h1 _ _ _=>rw[ht] at h1;cases h1
theorem ald {n:Int} (h:(Lit.int .u8 n).wf=true):0≤n∧n≤255:=by
 simp only[Lit.wf,dY,decide_eq_true_eq] at h;have h1:IntKind.u8.min=0:=rfl;have h2:IntKind.u8.max=255:=rfl;omega
theorem L4.adB {e:TypeId} (ht:(tt t).ti= .slice e) (h:L4 tt t cs): ∃rows,cs=[.sub (tt e).size rows]∧(∀r∈rows,L4 tt e r)∧rows.length*(tt e).bytes≤reachBytes:=by
 cases h with
 |int h1 h2=>rw[ht] at h1;cases h1
 |bool h1=>rw[ht] at h1;cases h1
 |str h1 h2=>rw[ht] at h1;cases h1
 |slice h1 rows h2 h3=>rw[ht] at h1;cases h1;exact⟨_,rfl,h2,h3⟩
 |struct h1 _ _ _=>rw[ht] at h1;cases h1
inductive W6 (tt:TypeId→mK):List (Nat×TypeId)→List TC→Prop
 |nil:W6 tt [] []
 |cons {p:Nat×TypeId} {fs:List (Nat×TypeId)} {q cs:List TC} (h:L4 tt p.2 q) (hs:W6 tt fs cs):W6 tt (p::fs) (q++cs)
theorem Rv {α:Type} {e:α→List TC} {W:α→Prop}: ∀{rows:List (List TC)},(∀r∈rows,∃a,r=e a∧W a)→ ∃l:List α,rows=l.map e∧ ∀a∈l,W a
 |[],_=>⟨[],rfl,fun a h=>by cases h⟩
 |r::rows,h=>by
  obtain⟨a,rfl,ha⟩:=h r (.head _);obtain⟨l,rfl,hl⟩:=Rv (rows:=rows) fun r hr=>h r (.tail _ hr);refine⟨a::l,rfl,fun b hb=> ?_⟩;rcases dJ.1 hb with rfl|hb
  ·exact ha
  ·exact hl b hb
end
end Go.T
namespace Go.T
open Go.RowKit
variable {C : mG}
section
variable {H : Type} {enc : TypeId × Value → H}
theorem Y8 {P:Program} {W W':World} (hl:laidOutB P=true) (hb:Below W.heap.size W W'): ∀{ts:List TypeId} {vs:List Value} {ds:List (DataW H)} {ps:List MemPlace},ts.all (fun t=>P.readableRec t&&decide (t<P.types.size))=true→DataW.TrodAll enc P W 0 (fun _=>true) true ts vs ds ps→
 DataW.TrodAll enc P W' 0 (fun b=>decide (b<W.heap.size)) true ts vs ds ps
 |[],vs,ds,ps,_,h=>by
  obtain⟨rfl,rfl,rfl⟩:=ChangeShapes.trodAll_nil h;exact ChangeShapes.trodAll_mk0
 |t::ts,vs,ds,ps,hr,h=>by
  obtain⟨v,vs',d,ds',p,q,rfl,rfl,rfl,h1,h2⟩:=ChangeShapes.trodAll_cons h;simp only[tP,dY,decide_eq_true_eq] at hr
  have hlt: ∀x∈p,x.block<W.heap.size:=by obtain⟨n,hn⟩:=h1;exact DataW.trod_lt n _ _ _ hn
  exact trodAll_cons_mk (Below.trod hl hr.1.1 hr.1.2 h1 hb hlt) (Y8 hl hb hr.2 h2)
theorem NR {P:Program} {W:World}: ∀{ts:List TypeId} {vs:List Value} {ds:List (DataW H)} {ps:List MemPlace},DataW.TrodAll enc P W 0 (fun _=>true) true ts vs ds ps→ds.length=ts.length
 |[],vs,ds,ps,h=>by obtain⟨rfl,rfl,rfl⟩:=ChangeShapes.trodAll_nil h;rfl
 |t::ts,vs,ds,ps,h=>by
  obtain⟨v,vs',d,ds',p,q,rfl,rfl,rfl,h1,h2⟩:=ChangeShapes.trodAll_cons h;simp[NR h2]
theorem afE (hC:Y4 C) {f:FuncId} {fn:Func} {s:ChangeSpec} {ts:List TypeId} {tb:TypeId} {m base:Nat} {W:World} {args:Array Value} {ds gs:List (DataW H)} {before:List MemPlace} (al5:laidOutB C.P=true)
 (hfn:fn.params.toList=ts) (hres:fn.resultTypes= #[tb]) (htb:C.P.underlying tb=some .bool) (hvars:s.vars=[]) (al6:ts.all (fun t=>C.P.readableRec t&&decide (t<C.P.types.size))=true) (ho:ts.all (okP C.tt m)=true)
 (hps:(C.sig f).ps=ts.map fun _=> .borrow) (hn:ts.length≤50) (al7: ∀ds:List (DataW H),ds.length=ts.length→(s.fn H ds).results=[.lit (.bool true)]∧(s.fn H ds).args=ds∧(s.fn H ds).vars=[])
 (law: ∀vs,Y6 C.tt ts vs→ ∃k,j7 C k f vs (.c (.sc (.bool true))) [])
 (hval: ∀(j:Nat) t v,fn.params[j]?=some t→args[j]?=some v→Value.okWide C.P W .any base t v) (hW:DataW.Whole enc C.P fn.params.toList s.vars false W args.toList ds gs before)
 (hsz:(DataW.weightsEach C.P (fn.params.toList++s.plain.varTypes C.P) (ds++gs)).all (· ≤reachBytes)=true):
 Calls C.P f args W fun e W'=> ∃v,e= .returned v∧s.post enc C.P fn false true false false W args v W':=by
 have hW':=hW;obtain⟨p,q,hA,hV,rfl,hfz,Ya⟩:=hW;rw[hvars] at hV;obtain⟨rfl,rfl⟩:=ChangeShapes.trodVars_none hV
 have hvt:s.plain.varTypes C.P=[]:=by
  unfold ChangeSpec.plain DataSpec.varTypes;rw[hvars];rfl
 rw[hvt,m0,m0,hfn] at hsz;rw[hfn] at hA;refine(adx hC hA ho (fun j t v h1 h2=>hval j t v (by rw[←hfn] at h1;simpa using h1) h2) hsz hps hn law).mono fun e W' ⟨he,bel⟩=> ?_;subst he;obtain⟨s1,s2,s3⟩:=al7 ds (NR hA);refine⟨_,rfl,ds,[],_,[],p,[],hW',?_,?_,?_,bel.frame _,fun h=>by cases h⟩
 ·rw[m0,s1,hres]
  exact ChangeShapes.trodAll_mk1 (shut_bool htb _)
 ·rw[m0,s2,hfn]
  exact Y8 al5 bel al6 hA
 ·rw[m0,s3,hvars]
  rfl
end
end Go.T
