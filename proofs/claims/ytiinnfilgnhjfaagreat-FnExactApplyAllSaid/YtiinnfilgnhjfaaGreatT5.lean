/- Regions that draw their order: a schedule, and why any order comes to the same. -/
import Derived.Test.YtiinnfilgnhjfaaGreatT4
import Derived.LoopN
import Derived.ChangeArms
import Derived.ChangeSlices
import Derived.WideShapes
import Derived.SizedLaws
import Derived.RowKit
import Derived.ChangeOld
import Derived.Test.YtiinnfilgnhjfaaGreatT1
import Derived.IntWalk
import Derived.Carry
import Derived.OpenShut
set_option linter.unusedVariables false
set_option linter.unusedSimpArgs false
namespace Go.T
variable {F : Nat → Prop} {A : Arg} {w0 w w' : World} {φ φ' φ1 : Fp} {st st' sta fH sL : TS} {tm L6 : Array Value} {C : pU}
variable {R : Type} {cf : Cf} {lp : Lp} {Q : R → Prop}
variable {fx : List Nat} {g : Nat → Value} {n : Nat}
def yg (o:Oper):Bool:=match o.op with| .load _ _=>true|_=>false
def N0 (o:Oper):Bool:=match o.op with| .select _ _=>true|_=>false
def AD (C:pU) (o:Oper):Bool:=match Jz C o with|true=>true|false=>yg o
def uD (o:Oper):List Nat:=(o.after.toList.filter (Region.binds .any)).map (·.on)
def af6:List Nat→List Nat→Bool
 |[],_=>true
 |a::r,l=>match pI a l with|true=>af6 r l|false=>false
def Es (ops:Array Oper):Nat→Nat→List Nat→List Nat
 |0,_,W=>W
 |k+1,j,W=>match ops[j]? with
  |some o=>match zA (uD o) W with|true=>Es ops k (j+1) (j::W)|false=>Es ops k (j+1) W
  |none=>W
def aj3 (ops:Array Oper) (W:List Nat) (i:Nat) (oi:Oper) (j:Nat) (oj:Oper):Bool:=
 ((match oj.dst with|some d=> !pI d (oi.looksAt ops)|none=>true)||(!yg oi&&pI j W))&&
 (pI j W||((match oj.dst with|some d=>(match oi.dst with|some e=> !Nat.beq d e|none=>true)|none=>true)&&
 (pI i (uD oj)||(match oi.dst with|some d=> !pI d (oj.looksAt ops)|none=>true))))
def Wm (ops:Array Oper) (oi:Oper):Bool:=match oi.dst with|some d=> !pI d (oi.looksAt ops)|none=>true
def Wn (f:Nat→Bool):Nat→Bool
 |0=>true
 |k+1=>match f k with|true=>Wn f k|false=>false
theorem Et {f:Nat→Bool}: ∀{k:Nat},Wn f k=true→ ∀j,j<k→f j=true
 |0,_,j,h=>absurd h ay
 |k+1,h,j,hj=>by
  simp only[Wn] at h
  split at h
  ·by_cases e:j=k
   ·subst e;assumption
   ·exact Et h j ay
  ·cases h
def KZ.B0:KZ→List Nat
 | .nil=>[]
 | .op i _ _=>[i]
 | .alt a b=>a.B0++b.B0
def KZ.len:KZ→Nat
 | .nil=>0
 | .op _ _ r=>r.len+1
 | .alt a _=>a.len
def opB (C:pU) (ops:Array Oper) (hs:Option (List Nat)) (S:List Nat) (i:Nat) (fl:List Nat) (o:Oper):Bool:=
 !pI i S&&af6 (uD o) S&& !N0 o&&(match AD C o with
   |true=>hs.isNone&&Wm ops o&&fL fN (Es ops ops.size 0 [i]) fun W=>Wn (fun j=>pI j S||Nat.beq j i||(match ops[j]? with|some oj=>aj3 ops W i o j oj|none=>true)) ops.size
   |false=>Wn (fun j=>pI j S||Nat.beq j i||pI j (hs.getD [])||(match ops[j]? with|some oj=> !af6 (uD oj) S|none=>true)) ops.size&&
     Wn (fun l=> !pI l S||pI l fl||(match ops[l]? with|some ol=> !yg ol|none=>true)||pI i (Es ops ops.size 0 [l])) ops.size)
def jd (C:pU) (ops:Array Oper):Option (List Nat)→List Nat→KZ→Bool
 |none,S,.nil=>Wn (fun j=>pI j S) ops.size
 |some _,_,.nil=>false
 |hs,S,.op i fl r=>match ops[i]? with
  |none=>false
  |some o=>opB C ops hs S i fl o&&jd C ops none (i::S) r
 |hs,S,.alt a b=>jd C ops (some (hs.getD (a.B0++b.B0))) S a&&jd C ops (some (hs.getD (a.B0++b.B0))) S b&&Nat.beq a.len b.len
theorem amk {a l:List Nat} (h:af6 a l=true): ∀x∈a,x∈l:=by
 induction a with
 |nil=>intro x hx;cases hx
 |cons y r ih=>
  simp only[af6] at h
  split at h
  ·intro x hx
   rcases fY.1 hx with rfl|hx
   ·exact nC.1 zYs
   ·exact ih h x hx
  ·cases h
theorem aml {a l:List Nat} (h: ∀x∈a,x∈l):af6 a l=true:=by
 induction a with
 |nil=>rfl
 |cons y r ih=>
  simp only[af6,nC.2 (h y (.head _))];exact ih fun x hx=>h x (.tail _ hx)
def YN (P:Program) (ops:Array Oper) (o:Oper) (v:Value) (a:Act) (w:World):Prop:=
 (Region.wanted o (yielded ops a.tmps)=true∧(execOp a.eval o).run P w= .ok (.value v) w)∨(Region.wanted o (yielded ops a.tmps)=false∧v=undef)
def Kp (C:pU) (ops:Array Oper) (o:Oper) (v:Value) (a:Act) (w:World):Prop:=
 (Region.wanted o (yielded ops a.tmps)=false∧v=undef)∨(Region.wanted o (yielded ops a.tmps)=true∧
   ((∀w,(execOp a.eval o).run C.P w= .ok (.value v) w)∨ ∃t x ad vs,o.op= .load t x∧a.eval x= .pointer (some ad)∧known (C.tt t)=true∧vs.length=(C.tt t).size∧(∀(j:Nat) (u:Value),vs[j]?=some u→w.cell? (ad.add j)=some u)∧v=valOf (C.tt t) vs))
theorem Kp.yn (hT:iO C) {ops:Array Oper} {o:Oper} {v:Value} {a:Act} (h:Kp C ops o v a w):YN C.P ops o v a w:=by
 rcases h with⟨h1,h2⟩|⟨h1,h2|⟨t,x,ad,vs,ho,hx,hk,hl,hc,rfl⟩⟩
 ·exact .inr ⟨h1,h2⟩
 ·exact .inl ⟨h1,h2 w⟩
 ·refine .inl ⟨h1,?_⟩
  have:=FH (hT t hk) w ad vs hl hc;unfold execOp;rw[ho];simp only[hx,Instr.loadAt,Instr.sureAddr,Sem.run_bind,Sem.run_pure,Result.andThen];rw[this]
  rfl
theorem Kp.same {ops:Array Oper} {o:Oper} {v:Value} {a a':Act} (h:Kp C ops o v a w) (he:execOp a'.eval o=execOp a.eval o) (hx: ∀t x,o.op= .load t x→a'.eval x=a.eval x) (hw:Region.wanted o (yielded ops a'.tmps)=Region.wanted o (yielded ops a.tmps)):Kp C ops o v a' w:=by
 unfold Kp at*;rw[hw,he];rcases h with h|⟨h1,h2|⟨t,x,ad,vs,ho,hx',hr⟩⟩
 ·exact .inl h
 ·exact .inr ⟨h1,.inl h2⟩
 ·exact .inr ⟨h1,.inr ⟨t,x,ad,vs,ho,(hx t x ho).trans hx',hr⟩⟩
theorem Kp.world (hT:iO C) {ops:Array Oper} {o:Oper} {v:Value} {a:Act} (h:Kp C ops o v a w) (hw: ∀t x ad,o.op= .load t x→a.eval x= .pointer (some ad)→Region.wanted o (yielded ops a.tmps)=true→ad.block<w.heap.size→w'.heap[ad.block]?=w.heap[ad.block]?):Kp C ops o v a w':=by
 rcases h with h|⟨h1,h2|⟨t,x,ad,vs,ho,hx,hk,hl,hc,hv⟩⟩
 ·exact .inl h
 ·exact .inr ⟨h1,.inl h2⟩
 ·refine .inr ⟨h1,.inr ⟨t,x,ad,vs,ho,hx,hk,hl,fun j u hj=> ?_,hv⟩⟩
  have hcj:=hc j u hj;have hlt:=World.block_lt_of_cell? w _ hcj;rw[de] at hlt;rw[ic (w:=w) (by rw[de];exact hw t x ad ho hx h1 hlt)];exact hcj
theorem af7 (hT:iO C) {a:Act} (h:bC F A w0 φ st a.tmps w) {t:TypeId} {x:Operand} {K:TE→Ev R} (hk:(LC C st t (xE C st 0 x) K).holds cf lp Q):
 ∃(ad:Addr) (vs:List Value),a.eval x= .pointer (some ad)∧known (C.tt t)=true∧vs.length=(C.tt t).size∧ ∀(j:Nat) (u:Value),vs[j]?=some u→w.cell? (ad.add j)=some u:=by
 have ht:=gi hT h 0 x
 have fin: ∀(ad:Addr) (xs:List CE) (K:TE→Ev R),a.eval x= .pointer (some ad)→(∀(j:Nat) (e:CE),xs[j]?=some e→ ∃u,w.cell? (ad.add j)=some u)→(LB C t xs K).holds cf lp Q→
  ∃(ad:Addr) (vs:List Value),a.eval x= .pointer (some ad)∧known (C.tt t)=true∧vs.length=(C.tt t).size∧ ∀(j:Nat) (u:Value),vs[j]?=some u→w.cell? (ad.add j)=some u:=by
  intro ad xs K hv hx hk;unfold LB at hk
  split at hk
  ·rename_i hkn hl
   obtain⟨vs,h1,h2⟩:=NM (Pr:=fun j (e:CE) u=>w.cell? (ad.add j)=some u) xs 0 (fun j e he=>by rw[ny];exact hx j e he);refine⟨ad,vs,hv,hkn,by rw[h1];exact ki hl,fun j u hj=> ?_⟩
   have hlt:j<xs.length:=by rw[←h1];exact(List.getElem?_eq_some_iff.1 hj).1
   obtain⟨u',g1,g2⟩:=h2 j xs[j] (cm hlt);rw[hj] at g1;cases g1;rw[ny] at g2;exact g2
  ·exact hk.elim
 cases he:xE C st 0 x with
 |bp b off=>
  rw[he] at ht hk;simp only[LC] at hk
  split at hk
  ·rename_i cs hb
   refine fin _ _ _ ht (fun j e he=> ?_) hk;have he:=ie he;rw[uz] at he;obtain⟨u,g1,g2⟩:=h.box b cs hb _ e he;exact⟨u,by rw[Addr.add_add];exact g1⟩
  ·exact hk.elim
 |ep ds cells=>
  rw[he] at ht hk;simp only[LC] at hk;obtain⟨hd,ad,hv,hr,hc⟩:=ht;refine fin ad _ _ hv (fun j e he=> ?_) hk;obtain⟨tc,g1,rfl⟩:=yB _ _ _ _ _ _ he;obtain⟨u,g2,g3⟩:=hc j tc (ie g1);exact⟨u,g2⟩
 |er o path i f=>
  rw[he] at ht hk;simp only[LC] at hk;obtain⟨ad,cells,hv,hr,hc,hk,hl⟩:=VZ h.obj ht hk;refine fin ad _ _ hv (fun j e he=> ?_) hk;obtain⟨tc,g1,rfl⟩:=yB _ _ _ _ _ _ he;obtain⟨u,g2,g3⟩:=hc j tc (ie g1);exact⟨u,g2⟩
 |_=>rw[he] at hk;exact hk.elim
theorem PU (hT:iO C) {a:Act} (h:bC F A w0 φ st a.tmps w) {ops:Array Oper} {o:Oper}: ∀{fl:List Nat},Jr C ops st o fl=true→ ∀l∈fl,∀ol,ops[l]?=some ol→ ∀t x ad,ol.op= .load t x→a.eval x= .pointer (some ad)→Region.wanted ol (yielded ops a.tmps)=true→
 ¬Wr st φ (writes C st o) ad.block
 |[],_,l,hl,_,_,_,_,_,_,_,_=>by cases hl
 |l0::r,hf,l,hl,ol,hol,t,x,ad,ho,hx,hw=>by
  simp only[Jr] at hf
  split at hf
  ·rename_i ol0 anG
   split at hf
   ·rename_i KY
    rcases fY.1 hl with rfl|hl
    ·exfalso
     rw[hol] at anG;cases anG;unfold anN at KY
     split at KY
     ·cases KY
     ·rename_i j want hg
      split at KY
      ·rename_i oj hj
       split at KY
       ·rename_i tt ht
        split at KY
        ·rename_i b hb
         have hv:=h.tmp tt;rw[hb] at hv;have hy:=Mj hj ht hv;unfold Region.wanted at hw;rw[hg] at hw;simp only[hy] at hw
         split at KY
         ·cases hw
         ·cases hw
         ·cases KY
        ·rename_i hb
         have hv:=h.tmp tt;rw[hb] at hv;have hy:=Wl hj ht (ahk hv);unfold Region.wanted at hw;rw[hg] at hw;simp only[hy] at hw
         cases hw
        ·cases KY
       ·cases KY
      ·cases KY
    ·exact PU hT h hf l hl ol hol t x ad ho hx hw
   ·split at hf
    ·rename_i rdl hrd
     split at hf
     ·cases hf
     ·rename_i ahN
      rcases fY.1 hl with rfl|hl
      ·rw[hol] at anG;cases anG
       have ahN:=fun {y} (hy:y∈rdl)=>wj ahN hy;have ht:=gi hT h 0 x
       have obj: ∀{oo k},2*oo∈rdl→aT st.ob oo→φ.S oo k→ ¬Wr st φ (writes C st o) k:=fun {oo k} hm hd hS hwr=>by
        rcases hwr with⟨b,cs,b1,b2,b3,b4⟩|⟨o2,o1,o3,o4⟩
        ·exact h.rY hd hS b2 b4.symm
        ·have:=h.sep.apart oo o2 k hd o3 hS o4
         subst this;exact ahN hm o1
       have roI: ∀{k},φ.I k→ ¬Wr st φ (writes C st o) k:=fun {k} hI hwr=>by
        rcases hwr with⟨b,cs,b1,b2,b3,b4⟩|⟨o2,o1,o3,o4⟩
        ·subst b4;exact(h.sep.box b cs b2 b3).1 hI
        ·exact h.sep.read o2 k o3 o4 hI
       have arg: ∀{k},φ.S 0 k→ ¬Wr st φ (writes C st o) k:=fun {k} hS hwr=>by
        rw[h.sep.arg] at hS;have hc:=h.sep.qQ k hS;rcases hwr with⟨b,cs,b1,b2,b3,b4⟩|⟨o2,o1,o3,o4⟩
        ·subst b4
         rcases (h.sep.box b cs b2 b3).2.2.1 with h3|h3
         ·omega
         ·exact hc.2 h3
        ·rcases (h.sep.fresh o2 k o3 o4).2 with h3|h3
         ·omega
         ·exact hc.2 h3
       unfold ajh at hrd;rw[ho] at hrd;simp only at hrd
       split at hrd
       ·rename_i b off he
        rw[he] at ht
        split at hrd
        ·rename_i cs hb
         cases hrd
         have ht:a.eval x= .pointer (some ((φ.β b).add off)):=ht;rw[hx] at ht
         cases ht
         rw[de];intro hwr;rcases hwr with⟨b',cs',b1,b2,b3,b4⟩|⟨o2,o1,o3,o4⟩
         ·by_cases Yt:b=b'
          ·subst Yt;exact ahN (.head _) b1
          ·exact(h.sep.box b' cs' b2 b3).2.2.2 b cs hb Yt b4
         ·exact h.rY o3 o4 hb rfl
        ·cases hrd
       ·rename_i ds c0 cells he
        rw[he] at ht
        cases hrd
        obtain⟨hd,ad',hv,hr,_⟩:=ht;rw[hx] at hv
        cases hv
        rcases hr cY with hI|⟨d,hm,hS⟩
        ·exact roI hI
        ·rcases hd d hm with rfl|hdd
         ·exact arg hS
         ·exact obj (List.mem_map.2 ⟨d,hm,rfl⟩) hdd hS
       ·rename_i oo i f he
        rw[he] at ht
        cases hrd
        obtain⟨b,hb,_,ad0,n0,c0,hV,hp⟩:=ht;have hp:a.eval x= .pointer (some (ad0.add (i.toNat*b.z+f))):=hp;rw[hx] at hp
        cases hp
        rw[de];have hO:=h.obj oo b hb;unfold rX at hO;rw[hV] at hO;refine obj (.head _) ⟨b,hb⟩ ?_
        cases hO with
        |sub _ _ _ _ _ _ u T k hn=>exact(k.own (by unfold OB.m;split<;>simp)).2 ad0 rfl|>.1
       ·rename_i oo q i f he
        rw[he] at ht
        split at hrd
        ·rename_i z rows hb
         cases hrd
         obtain⟨b,hb',_,ad0,n0,c0,hV,hp⟩:=ht;rw[hb] at hb';cases hb';obtain⟨i0,f0⟩:=q;obtain⟨_,z1,u9,hat,ad1,n1,c1,hcell,hp⟩:=hp;rw[hx] at hp
         cases hp
         rw[de];have hO:=h.obj oo _ hb;unfold rX at hO;rw[hV] at hO;refine obj (.head _) ⟨_,hb⟩ ?_
         cases hO with
         |sub _ _ _ _ _ _ u T k hn=>
          have hin:=hn _ _ _ hat;have hu:=k.cell ad0 rfl _ _ _ hat;rw[hcell] at hu;simp only[aY] at hu;rw[←hu] at hin
          have:T i0.toNat f0 ad1.block:=by
           cases hin with
           |sub _ _ _ _ _ _ u' T' k' hn'=>exact(k'.own (by simp[OB.m,Mode.nx])).2 ad1 rfl|>.1
          exact(k.sN rfl _ _ _ this).1
        ·cases hrd
       ·cases hrd
      ·exact PU hT h hf l hl ol hol t x ad ho hx hw
    ·cases hf
  ·cases hf
theorem af8 (hC:COk C) {fl:List Nat} {ops:Array Oper} {a:Act} (hi:Inv F A w0 fx g n st a w) {o:Oper} (hdB:Wi n o=true) (hq:AD C o=true) {K:TS→Ev R} (hk:(guarded C fx fl ops st o K).holds cf lp Q):
 ∃v st',Kp C ops o v a w∧Inv F A w0 fx g n st' (a.put o.dst v) w∧(K st').holds cf lp Q:=by
 obtain⟨⟨φ,h⟩,alD,alE,hsz⟩:=hi;obtain⟨hok,hc⟩:=DO h hk;have mk: ∀{st' v},Rel F A w0 st' (a.put o.dst v).tmps w→Inv F A w0 fx g n st' (a.put o.dst v) w:=fun hr=>⟨hr,ab9 hok alD _,by rw[put_defers];exact alE,by rw[NZ];exact hsz⟩;rcases hc with⟨hw,fH,h1,_,KX⟩|⟨hw,fH,h1,KX⟩
 ·have hpure:(aaM C fH o K).holds cf lp Q:=by
   unfold AD Jz yg at hq;unfold sV at KX
   split at KX
   ·rename_i e;rw[e] at hq;cases hq
   ·rename_i e;rw[e] at hq;cases hq
   ·rename_i e;rw[e] at hq;cases hq
   ·rename_i e;rw[e] at hq;cases hq
   ·rename_i e;rw[e] at hq;cases hq
   ·rename_i src dst x e
    rw[e] at hq;simp only at hq
    split at KX
    ·rename_i et h1 h2
     rw[h1,h2] at hq
     cases hq
    ·exact KX
   ·rename_i e;rw[e] at hq;cases hq
   ·rename_i e;rw[e] at hq;cases hq
   ·rename_i e;rw[e] at hq;cases hq
   ·rename_i e;rw[e] at hq;cases hq
   ·exact KX
  unfold aaM at hpure
  split at hpure
  ·rename_i d hd
   obtain⟨v,e,g1,g2,g3,g4⟩:=adP hC.ty h1 hpure;refine⟨v,_,.inr ⟨hw,?_⟩,mk ⟨φ,?_⟩,g3⟩
   ·cases hb:Jz C o with
    |true=>exact .inl (g4 hb)
    |false=>
     right;unfold AD at hq;rw[hb] at hq;unfold yg at hq;simp only at hq
     split at hq
     ·rename_i t x ho
      unfold kj at hpure;rw[ho] at hpure;obtain⟨ad,vs,l1,l2,l3,l4⟩:=af7 hC.ty h1 hpure;refine⟨t,x,ad,vs,ho,l1,l2,l3,l4,?_⟩;have hr:=FH (hC.ty t l2) w ad vs l3 l4
      have:(execOp a.eval o).run C.P w= .ok (.value (valOf (C.tt t) vs)) w:=by
       unfold execOp;rw[ho];simp only[l1,Instr.loadAt,Instr.sureAddr,Sem.run_bind,Sem.run_pure,Result.andThen];rw[hr]
       rfl
      rw[g1] at this
      cases this
      rfl
     ·cases hq
   ·rw[hd]
    refine h1.YA ?_ g2;unfold Wi at hdB;rw[hd] at hdB;have hdB:Nat.ble (d+1) n=true:=hdB;exact mh (show d<n from wN hdB) hsz
  ·exact hpure.elim
 ·exact⟨undef,fH,.inl ⟨hw,rfl⟩,mk ⟨φ,h1⟩,KX⟩
theorem ad7 (hC:COk C) (Lw:Wj C cf) {fl:List Nat} {ops:Array Oper} {a:Act} (hi:Inv F A w0 fx g n st a w) {o:Oper} (hdB:Wi n o=true) {K:TS→Ev R} (hk:(guarded C fx fl ops st o K).holds cf lp Q) {Kc:Act→World→Prop} {Qc:Exit→Act→World→Prop}
 (hK: ∀st' v w',Inv F A w0 fx g n st' (a.put o.dst v) w'→(K st').holds cf lp Q→(∀l∈fl,∀ol,ops[l]?=some ol→ ∀t x ad,ol.op= .load t x→a.eval x= .pointer (some ad)→Region.wanted ol (yielded ops a.tmps)=true→ad.block<w.heap.size→w'.heap[ad.block]?=w.heap[ad.block]?)→Kc (a.put o.dst v) w'):
 if Region.wanted o (yielded ops a.tmps) then o.wp C.P a w Kc Qc else Kc (a.put o.dst undef) w:=by
 obtain⟨⟨φ,h⟩,alD,alE,hsz⟩:=hi;obtain⟨hok,hc⟩:=DO h hk;have mk: ∀{st' v w'},Rel F A w0 st' (a.put o.dst v).tmps w'→Inv F A w0 fx g n st' (a.put o.dst v) w':=fun hr=>⟨hr,ab9 hok alD _,by rw[put_defers];exact alE,by rw[NZ];exact hsz⟩;rcases hc with⟨hw,fH,h1,hfl,KX⟩|⟨hw,fH,h1,KX⟩
 ·rw[aI hw]
  exact ad6 hC Lw h1 (fun d hd=>by
   unfold Wi at hdB;rw[hd] at hdB;have hdB:Nat.ble (d+1) n=true:=hdB
   exact mh (show d<n from wN hdB) hsz) KX fun st' v w' hr hk' _ hfr=>hK st' v w' (mk hr) hk' fun l hl ol hol t x ad ho hx hwo hlt=>hfr _ hlt (PU hC.ty h1 hfl l hl ol hol t x ad ho hx hwo)
 ·rw[aF (by rw[hw];exact Bool.false_ne_true)]
  exact hK fH undef w (mk ⟨φ,h1⟩) KX fun _ _ _ _ _ _ _ _ _ _ _=>rfl
end Go.T
namespace Go.T
variable {F : Nat → Prop} {A : Arg} {w0 w w' : World} {φ φ' φ1 : Fp} {st st' sta fH sL : TS} {tm L6 : Array Value} {C : pU}
variable {R : Type} {cf : Cf} {lp : Lp} {Q : R → Prop}
variable {fx : List Nat} {g : Nat → Value} {n : Nat} {ops : Array Oper}
structure Pe where
 i:Nat
 o:Oper
 v:Value
def xW:List Pe→Act→Act
 |[],a=>a
 |p::r,a=>xW r (a.put p.o.dst p.v)
def Gy (C:pU) (ops:Array Oper):List Pe→Act→World→Prop
 |[],_,_=>True
 |p::r,a,w=>Kp C ops p.o p.v a w∧Gy C ops r (a.put p.o.dst p.v) w
inductive B1 (ops:Array Oper) (i:Nat):Nat→Prop
 |base {j:Nat} {o:Oper} (h:ops[j]?=some o) (hd:i∈uD o):B1 ops i j
 |step {j d:Nat} {o:Oper} (h:ops[j]?=some o) (hd:d∈uD o) (hw:B1 ops i d):B1 ops i j
theorem B2 {i:Nat}: ∀(k j:Nat) (W:List Nat),(∀x∈W,x=i∨B1 ops i x)→ ∀x∈Es ops k j W,x=i∨B1 ops i x
 |0,_,W,h=>h
 |k+1,j,W,h=>by
  simp only[Es]
  split
  ·rename_i o ho
   split
   ·rename_i hm
    refine B2 k (j+1) _ fun x hx=> ?_;rcases fY.1 hx with rfl|hx
    ·obtain⟨d,h1,h2⟩:=Me hm
     rcases h d h2 with rfl|hw
     ·exact .inr (.base ho h1)
     ·exact .inr (.step ho h1 hw)
    ·exact h x hx
   ·exact B2 k (j+1) W h
  ·exact h
theorem B1.listed {listed:Array Bool} (hcl: ∀(j:Nat) (oj:Oper),listed.getD j false=true→ops[j]?=some oj→ ∀d∈uD oj,listed.getD d false=true) {i j:Nat} (h:B1 ops i j):(∀o,ops[j]?=some o→ ∀d∈uD o,listed.getD d false=true)→listed.getD i false=true:=by
 induction h with
 |base h hd=>exact fun hh=>hh _ h _ hd
 |step h hd hw ih=>exact fun hh=>ih fun o ho d hdd=>hcl _ o (hh _ h _ hd) ho d hdd
def ahl (ops:Array Oper) (oi oj:Oper):Prop:=(∀d,oj.dst=some d→d∉oi.looksAt ops)∧(∀d,oi.dst=some d→oj.dst≠some d)∧ ∀d,oi.dst=some d→d∉oj.looksAt ops
def Wo (ops:Array Oper) (i:Nat) (oi:Oper) (j:Nat) (oj:Oper):Prop:=((∀d,oj.dst=some d→d∉oi.looksAt ops)∨(yg oi=false∧B1 ops i j))∧
 (B1 ops i j∨((∀d,oi.dst=some d→oj.dst≠some d)∧(i∈uD oj∨ ∀d,oi.dst=some d→d∉oj.looksAt ops)))
theorem Wo.now {i j:Nat} {oi oj:Oper} (h:Wo ops i oi j oj) (hj:ops[j]?=some oj) (hn: ¬B1 ops i j):ahl ops oi oj:=by
 obtain⟨h1,h2⟩:=h;obtain⟨h3,h4⟩:=h2.resolve_left hn;exact⟨h1.resolve_right fun h=>hn h.2,h3,h4.resolve_left fun h=>hn (.base hj h)⟩
theorem aj4 {i j:Nat} {oi oj:Oper} {W:List Nat} (hne:j≠i) (hW: ∀x∈W,x=i∨B1 ops i x) (h:aj3 ops W i oi j oj=true):Wo ops i oi j oj:=by
 unfold aj3 at h;simp only[eY,Bool.or_eq_true] at h;obtain⟨h1,h2⟩:=h;have hw:pI j W=true→B1 ops i j:=fun h=>(hW j (nC.1 h)).resolve_left hne;refine⟨h1.imp (fun h1 d hd=> ?_) (fun h=>⟨by simpa using h.1,hw h.2⟩),h2.imp hw fun⟨h2,h3⟩=>⟨fun d hd hd'=> ?_,h3.imp nC.1 fun h3 d hd=> ?_⟩⟩
 ·rw[hd] at h1
  simp only[Gt] at h1;exact fQ.1 h1
 ·rw[hd',hd] at h2
  simp only[Gt] at h2;exact absurd rfl (wO h2)
 ·rw[hd] at h3
  simp only[Gt] at h3;exact fQ.1 h3
theorem aj5 {o:Oper} (h:Wm ops o=true): ∀d,o.dst=some d→d∉o.looksAt ops:=fun d hd=>by
 unfold Wm at h;rw[hd] at h;simp only[Gt] at h;exact fQ.1 h
theorem ahm {o:Oper} (h:N0 o=false): ∀cs b,o.op≠ .select cs b:=fun cs b e=>by
 unfold N0 at h;rw[e] at h
 cases h
theorem PV {o:Oper} {t:TypeId} {x:Operand} (ho:o.op= .load t x) {a:Act} {dst:Option Tmp} {v:Value} (h: ∀d,dst=some d→d∉o.looksAt ops):(a.put dst v).eval x=a.eval x:=
 Act.eval_put fun d hd hx=>h d hd (by
  subst hx;refine mg _ (List.mem_filterMap.2 ⟨.tmp d,?_,rfl⟩);rw[ho]
  simp[Op.operands])
theorem Kp.put {o:Oper} {v u:Value} {a:Act} {dst:Option Tmp} (hs:N0 o=false) (hl: ∀d,dst=some d→d∉o.looksAt ops):Kp C ops o v (a.put dst u) w↔Kp C ops o v a w:=by
 have e1:=execOp_put (ops:=ops) o (ahm hs) a dst u hl;have e2:=wanted_put (ops:=ops) o a dst u hl;exact⟨fun h=>h.same e1.symm (fun t x ho=>(PV ho hl).symm) e2.symm,fun h=>h.same e1 (fun t x ho=>PV ho hl) e2⟩
theorem Wp {dst:Option Tmp} {u:Value}: ∀(L:List Pe) (a:Act),(∀p∈L,N0 p.o=false∧(∀d,dst=some d→d∉p.o.looksAt ops)∧ ∀d,p.o.dst=some d→dst≠some d)→(Gy C ops L a w→Gy C ops L (a.put dst u) w)∧xW L (a.put dst u)=(xW L a).put dst u
 |[],a,_=>⟨id,rfl⟩
 |p::r,a,h=>by
  obtain⟨h1,h2,h3⟩:=h p (.head _);have hc:(a.put dst u).put p.o.dst p.v=(a.put p.o.dst p.v).put dst u:=(Act.put_comm a p.v u h3).symm;obtain⟨i1,i2⟩:=Wp r (a.put p.o.dst p.v) fun q hq=>h q (.tail _ hq);refine⟨fun⟨k1,k2⟩=>⟨(Kp.put h1 h2).2 k1,?_⟩,?_⟩
  ·rw[hc];exact i1 k2
  ·show xW r ((a.put dst u).put p.o.dst p.v)=_
   rw[hc];exact i2
theorem ad8 {p:Pe} {L2:List Pe} (hsp:N0 p.o=false): ∀(L1:List Pe) (a:Act),(∀q∈L1,N0 q.o=false∧ahl ops q.o p.o)→Gy C ops (L1++p::L2) a w→Kp C ops p.o p.v a w∧Gy C ops (L1++L2) (a.put p.o.dst p.v) w∧xW (L1++L2) (a.put p.o.dst p.v)=xW (L1++p::L2) a
 |[],a,_,⟨h1,h2⟩=>⟨h1,h2,rfl⟩
 |q::L1,a,h,⟨h1,h2⟩=>by
  obtain⟨hs,p1,p2,p3⟩:=h q (.head _);obtain⟨i1,i2,i3⟩:=ad8 hsp L1 (a.put q.o.dst q.v) (fun q' hq=>h q' (.tail _ hq)) h2;have hc:(a.put p.o.dst p.v).put q.o.dst q.v=(a.put q.o.dst q.v).put p.o.dst p.v:=(Act.put_comm a q.v p.v p2).symm;refine⟨(Kp.put hsp p3).1 i1,⟨(Kp.put hs p1).2 h1,?_⟩,?_⟩
  ·rw[hc];exact i2
  ·show xW (L1++L2) ((a.put p.o.dst p.v).put q.o.dst q.v)=_
   rw[hc];exact i3
theorem PW {o:Oper} (hs:N0 o=false): ∀(L:List Pe) (a:Act),(∀q∈L,∀d,q.o.dst=some d→d∉o.looksAt ops)→execOp (xW L a).eval o=execOp a.eval o∧Region.wanted o (yielded ops (xW L a).tmps)=Region.wanted o (yielded ops a.tmps)∧ ∀t x,o.op= .load t x→(xW L a).eval x=a.eval x
 |[],a,_=>⟨rfl,rfl,fun _ _ _=>rfl⟩
 |q::r,a,h=>by
  obtain⟨i1,i2,i3⟩:=PW hs r (a.put q.o.dst q.v) fun q' hq=>h q' (.tail _ hq);have hq:=h q (.head _);exact⟨i1.trans (execOp_put (ops:=ops) o (ahm hs) a _ _ hq),i2.trans (wanted_put (ops:=ops) o a _ _ hq),fun t x ho=>(i3 t x ho).trans (PV ho hq)⟩
theorem Wq (hT:iO C): ∀(L:List Pe) (a:Act),(L.Pairwise fun p q=>Wo ops p.i p.o q.i q.o∧p.i≠q.i)→(∀p∈L,Wm ops p.o=true∧N0 p.o=false)→
 (∀p∈L,∀t x ad,p.o.op= .load t x→(xW L a).eval x= .pointer (some ad)→Region.wanted p.o (yielded ops (xW L a).tmps)=true→ad.block<w.heap.size→w'.heap[ad.block]?=w.heap[ad.block]?)→Gy C ops L a w→Gy C ops L a w'
 |[],a,_,_,_,_=>trivial
 |p::r,a,hp,hs,hf,⟨h1,h2⟩=>by
  have hpr:=List.pairwise_cons.1 hp;obtain⟨s1,s2⟩:=hs p (.head _);refine⟨h1.world hT fun t x ad ho hx hw hlt=> ?_,?_⟩
  ·have h3:=PW (ops:=ops) s2 (p::r) a fun q hq d hd=>by
    rcases fY.1 hq with rfl|hq
    ·exact aj5 s1 d hd
    ·exact(hpr.1 q hq).1.1.resolve_right (fun h=>by have:=h.1;unfold yg at this;rw[ho] at this;cases this) d hd
   exact hf p (.head _) t x ad ho (by rw[h3.2.2 t x ho];exact hx) (by rw[h3.2.1];exact hw) hlt
  exact Wq hT r _ hpr.2 (fun q hq=>hs q (.tail _ hq)) (fun q hq=>hf q (.tail _ hq)) h2
variable {l : List Nat} {K : TS → Ev R}
structure ad9 (C:pU) (F:Nat→Prop) (A:Arg) (w0:World) (fx:List Nat) (g:Nat→Value) (n:Nat) (l:List Nat) (K:TS→Ev R) (cf:Cf) (lp:Lp) (Q:R→Prop) (ops:Array Oper) (listed:Array Bool) (aM:Act) (w:World) (L:List Pe) (rest:KZ) (S:List Nat):Prop where
 sz:listed.size=ops.size
 mem: ∀j,j∈S↔(listed.getD j false=true∨ ∃p∈L,p.i=j)
 VD:jd C ops none S rest=true
 pend:Gy C ops L aM w
 pw:L.Pairwise fun p q=>Wo ops p.i p.o q.i q.o∧p.i≠q.i
 pe: ∀p∈L,ops[p.i]?=some p.o∧AD C p.o=true∧Wm ops p.o=true∧N0 p.o=false∧listed.getD p.i false=false
 later: ∀p∈L,∀(j:Nat) (oj:Oper),j∉S→ops[j]?=some oj→Wo ops p.i p.o j oj
 closed: ∀(j:Nat) (oj:Oper),listed.getD j false=true→ops[j]?=some oj→ ∀d∈uD oj,listed.getD d false=true
 pd: ∀L1 p L2,L=L1++p::L2→ ∀d∈uD p.o,listed.getD d false=true∨ ∃q∈L1,q.i=d
 go: ∃st,Inv F A w0 fx g n st (xW L aM) w∧(wR C fx l ops rest st K).holds cf lp Q
theorem aea {o:Oper} {listed:Array Bool}:(∀e∈o.after,Region.binds .any e=true→listed.getD e.on false=true)↔ ∀d∈uD o,listed.getD d false=true:=by
 unfold uD
 constructor
 ·intro h d hd
  obtain⟨e,he,rfl⟩:=List.mem_map.1 hd;obtain⟨h1,h2⟩:=List.mem_filter.1 he;exact h e (by simpa using h1) h2
 ·intro h e he hb
  exact h _ (List.mem_map.2 ⟨e,List.mem_filter.2 ⟨by simpa using he,hb⟩,rfl⟩)
theorem ahn {listed:Array Bool} {j:Nat} (h:j<listed.size) (a b:Bool):listed.getD j a=listed.getD j b:=by
 simp[zw,zx h]
theorem sZ {hs:Option (List Nat)} {S:List Nat} {i:Nat} {fl:List Nat} {r:KZ} (h:jd C ops hs S (.op i fl r)=true): ∃o,ops[i]?=some o∧i∉S∧(∀d∈uD o,d∈S)∧N0 o=false∧jd C ops none (i::S) r=true∧
 ((AD C o=true∧hs=none∧Wm ops o=true∧ ∀(j:Nat) (oj:Oper),j∉S→j≠i→ops[j]?=some oj→Wo ops i o j oj)∨
  (AD C o=false∧(∀(j:Nat) (oj:Oper),j∉S→j≠i→j∉hs.getD []→ops[j]?=some oj→ ∃d∈uD oj,d∉S)∧ ∀(k:Nat) (ok:Oper),k∈S→ops[k]?=some ok→yg ok=true→k∈fl∨B1 ops k i)):=by
 simp only[jd] at h
 split at h
 ·cases h
 ·rename_i o ho
  unfold opB at h;simp only[eY,Gt] at h;obtain⟨⟨⟨⟨h1,h2⟩,h3⟩,h4⟩,h5⟩:=h;refine⟨o,ho,fQ.1 h1,amk h2,h3,h5,?_⟩
  cases hq:AD C o with
  |true=>
   rw[hq] at h4;simp only[eY] at h4;refine .inl ⟨rfl,by simpa using h4.1.1,h4.1.2,fun j oj hj hne D6=> ?_⟩;have h42:=h4.2;rw[At ajl] at h42;have:=Et h42 j (Array.getElem?_eq_some_iff.1 D6).1;rw[D6,fQ.2 hj,beq_false hne] at this;exact aj4 hne (B2 ops.size 0 [i] fun x hx=> .inl (by simpa using hx)) (by simpa using this)
  |false=>
   rw[hq] at h4;simp only[eY] at h4;refine .inr ⟨rfl,fun j oj hj hne hh D6=> ?_,fun k ok hk hok hld=> ?_⟩
   ·have:=Et h4.1 j (Array.getElem?_eq_some_iff.1 D6).1
    rw[D6,fQ.2 hj,beq_false hne,fQ.2 hh] at this;simp only[Ji,Gt] at this
    apply Classical.byContradiction
    intro hno;have:=aml (a:=uD oj) (l:=S) fun d hd=>Classical.byContradiction fun hn=>hno ⟨d,hd,hn⟩;simp_all
   ·have:=Et h4.2 k (Array.getElem?_eq_some_iff.1 hok).1
    rw[hok,nC.2 hk] at this;simp only[hld] at this;simp only[BI,Ji,Bool.or_false,Bool.or_eq_true] at this;exact this.imp nC.1 fun h=>(B2 ops.size 0 [k] (fun x hx=> .inl (by simpa using hx)) i (nC.1 h)).resolve_left fun e=>fQ.1 h1 (e▸hk)
def LpM (lp:Lp):Prop:= ∀f i c st (Q Q':TX→TS→Prop),(∀x s,Q x s→Q' x s)→lp f i c st Q→lp f i c st Q'
theorem PX (Pv:LpM lp) {j:Nat}: ∀{T:KZ} {hs:Option (List Nat)} {S:List Nat},jd C ops hs S T=true→j∈T.B0→(wR C fx l ops T st K).holds cf lp Q→
 ∃fl r hs',jd C ops hs' S (.op j fl r)=true∧r.len+1=T.len∧(wR C fx l ops (.op j fl r) st K).holds cf lp Q
 | .nil,_,_,_,hj,_=>by cases hj
 | .op i fl r,hs,S,h,hj,hk=>by
   simp only[KZ.B0,qu] at hj;subst hj;exact⟨fl,r,hs,h,rfl,hk⟩
 | .alt a b,hs,S,h,hj,hk=>by
   simp only[jd,eY] at h;obtain⟨⟨h1,h2⟩,h3⟩:=h;have h3:=ki h3;simp only[wR] at hk;obtain⟨r,k1,k2,k3⟩:=hk;rcases List.mem_append.1 hj with hj|hj
   ·obtain⟨fl,r',hs',g1,g2,g3⟩:=PX Pv h1 hj (ia (fun _ _ _ _ h=>h) Pv (fun r' e=>by subst e;exact k3) _ k1)
    exact⟨fl,r',hs',g1,g2,g3⟩
   ·obtain⟨fl,r',hs',g1,g2,g3⟩:=PX Pv h2 hj (ia (fun _ _ _ _ h=>h) Pv (fun r' e=>by subst e;exact k3) _ k2)
    exact⟨fl,r',hs',g1,by rw[g2];exact h3.symm,g3⟩
theorem Ws: ∀{T:KZ} {H:List Nat} {S:List Nat},jd C ops (some H) S T=true→ ∀(j:Nat) (oj:Oper),j∉S→j∉H→j∉T.B0→ops[j]?=some oj→ ∃d∈uD oj,d∉S
 | .nil,_,_,h,_,_,_,_,_,_=>by simp[jd] at h
 | .op i fl r,H,S,h,j,oj,hj,hH,hh,D6=>by
   obtain⟨o,_,_,_,_,_,hc⟩:=sZ h;rcases hc with⟨_,e,_⟩|⟨_,h1,_⟩
   ·cases e
   ·exact h1 j oj hj (fun e=>hh (by rw[e];exact .head _)) hH D6
 | .alt a b,H,S,h,j,oj,hj,hH,hh,D6=>by
   simp only[jd,eY] at h;exact Ws h.1.1 j oj hj hH (fun e=>hh (mg _ e)) D6
theorem Lb: ∀{T:KZ} {H:List Nat} {S:List Nat},jd C ops (some H) S T=true→ ∀{j oj},j∈T.B0→ops[j]?=some oj→AD C oj=true→False
 | .nil,_,_,h,_,_,_,_,_=>by simp[jd] at h
 | .op i fl r,H,S,h,j,oj,hj,D6,hq=>by
   simp only[KZ.B0,qu] at hj;subst hj;obtain⟨o,ho,_,_,_,_,hc⟩:=sZ h;rw[D6] at ho;cases ho;rcases hc with⟨_,e,_⟩|⟨Yk,_⟩
   ·cases e
   ·rw[hq] at Yk;cases Yk
 | .alt a b,H,S,h,j,oj,hj,D6,hq=>by
   simp only[jd,eY] at h;rcases List.mem_append.1 hj with hj|hj
   ·exact Lb h.1.1 hj D6 hq
   ·exact Lb h.1.2 hj D6 hq
theorem acd {a b:KZ} {S:List Nat} (h:jd C ops none S (.alt a b)=true) {j:Nat} {oj:Oper} (hj:j∈(KZ.alt a b).B0) (D6:ops[j]?=some oj) (hq:AD C oj=true):False:=by
 simp only[jd,eY] at h;rcases List.mem_append.1 hj with hj|hj
 ·exact Lb h.1.1 hj D6 hq
 ·exact Lb h.1.2 hj D6 hq
theorem Sk: ∀{T:KZ} {H:List Nat} {S:List Nat},jd C ops (some H) S T=true→ ∃j∈T.B0,∃oj,ops[j]?=some oj∧j∉S∧ ∀d∈uD oj,d∈S
 | .nil,_,_,h=>by simp[jd] at h
 | .op i fl r,H,S,h=>by
   obtain⟨o,h1,h2,h3,_⟩:=sZ h;exact⟨i,.head _,o,h1,h2,h3⟩
 | .alt a b,H,S,h=>by
   simp only[jd,eY] at h;obtain⟨j,h1,h2⟩:=Sk h.1.1;exact⟨j,mg _ h1,h2⟩
theorem ad9.advance (hC:COk C) (hb:SG n ops.toList=true) {listed:Array Bool} {aM:Act} {L:List Pe} {i:Nat} {fl:List Nat} {r:KZ} {S:List Nat} (s:ad9 C F A w0 fx g n l K cf lp Q ops listed aM w L (.op i fl r) S) {o:Oper} (ho:ops[i]?=some o) (hq:AD C o=true):
 ∃v,ad9 C F A w0 fx g n l K cf lp Q ops listed aM w (L++[⟨i,o,v⟩]) r (i::S):=by
 obtain⟨o',ho',hiS,SD,hsel,agO,DE⟩:=sZ s.VD;rw[ho] at ho';cases ho';rcases DE with⟨_,_,aoc,aod⟩|⟨Yk,_⟩
 ·obtain⟨st,hinv,hk⟩:=s.go
  simp only[wR,ho] at hk
  have hdB:Wi n o=true:=by
   have: ∀(os:List Oper),SG n os=true→ ∀x∈os,Wi n x=true:=by
    intro os
    induction os with
    |nil=>intro _ x hx;cases hx
    |cons y q ih=>
     intro h x hx;simp only[SG] at h
     split at h
     ·rcases fY.1 hx with rfl|hx
      ·assumption
      ·exact ih h x hx
     ·cases h
   exact this _ hb o (gQ (by rw[VI];exact ho))
  obtain⟨v,st',k1,k2,k3⟩:=af8 hC hinv hdB hq hk;rw[xO] at k3
  have arl: ∀(L:List Pe) (a:Act),Gy C ops L a w→Kp C ops o v (xW L a) w→Gy C ops (L++[⟨i,o,v⟩]) a w:=by
   intro L
   induction L with
   |nil=>intro a _ h;exact⟨h,trivial⟩
   |cons p q ih=>intro a h h2;exact⟨h.1,ih _ h.2 h2⟩
  have arn: ∀(L:List Pe) (a:Act),xW (L++[⟨i,o,v⟩]) a=(xW L a).put o.dst v:=by
   intro L
   induction L with
   |nil=>intro a;rfl
   |cons p q ih=>intro a;exact ih _
  have hiL:listed.getD i false=false:=by
   cases h:listed.getD i false with
   |false=>rfl
   |true=>exact absurd ((s.mem i).2 (.inl h)) hiS
  refine⟨v,s.sz,fun j=> ?_,agO,arl L aM s.pend k1,?_,fun p hp=> ?_,fun p hp j oj hj D6=> ?_,s.closed,fun L1 p L2 he d hd=> ?_,st',by rw[arn];exact k2,k3⟩
  ·rw[fY,s.mem]
   constructor
   ·rintro(rfl|h|⟨p,hp,e⟩)
    ·exact .inr ⟨_,r9 _ (.head _),rfl⟩
    ·exact .inl h
    ·exact .inr ⟨p,mg _ hp,e⟩
   ·rintro(h|⟨p,hp,e⟩)
    ·exact .inr (.inl h)
    ·rcases List.mem_append.1 hp with hp|hp
     ·exact .inr (.inr ⟨p,hp,e⟩)
     ·simp only[qu] at hp
      subst hp;exact .inl e.symm
  ·refine List.pairwise_append.2 ⟨s.pw,List.pairwise_singleton _ _,fun p hp q hq=> ?_⟩
   simp only[qu] at hq;subst hq;exact⟨s.later p hp i o hiS ho,fun e=>hiS ((s.mem i).2 (.inr ⟨p,hp,e⟩))⟩
  ·rcases List.mem_append.1 hp with hp|hp
   ·exact s.pe p hp
   ·simp only[qu] at hp
    subst hp;exact⟨ho,hq,aoc,hsel,hiL⟩
  ·have hj:j≠i∧j∉S:=by simpa using hj
   rcases List.mem_append.1 hp with hp|hp
   ·exact s.later p hp j oj hj.2 D6
   ·simp only[qu] at hp
    subst hp;exact aod j oj hj.2 hj.1 D6
  ·rcases List.append_eq_append_iff.1 he with⟨a',e1,e2⟩|⟨c',e1,e2⟩
   ·
    cases a' with
    |nil=>
     simp only[qt,xI] at e1 e2
     cases e2
     subst e1;rcases (s.mem d).1 (SD d hd) with h|h
     ·exact .inl h
     ·exact .inr h
    |cons x xs=>simp at e2
   ·cases c' with
    |nil=>
     simp only[qt,xI] at e1 e2
     cases e2
     subst e1;rcases (s.mem d).1 (SD d hd) with h|h
     ·exact .inl h
     ·exact .inr h
    |cons x xs=>
     simp only[R4,List.cons.injEq] at e2;obtain⟨rfl,_⟩:=e2;exact s.pd L1 p xs e1 d hd
 ·rw[hq] at Yk;cases Yk
theorem aoH (hb:SG n ops.toList=true) {i:Nat} {o:Oper} (ho:ops[i]?=some o):Wi n o=true:=by
 have: ∀(os:List Oper),SG n os=true→ ∀x∈os,Wi n x=true:=by
  intro os
  induction os with
  |nil=>intro _ x hx;cases hx
  |cons y q ih=>
   intro h x hx;simp only[SG] at h
   split at h
   ·rcases fY.1 hx with rfl|hx
    ·assumption
    ·exact ih h x hx
   ·cases h
 exact this _ hb o (gQ (by rw[VI];exact ho))
theorem aeb {P:Program} {o:Oper} {aS aM:Act} {w:World} {Kc Kc':Act→World→Prop} {Qc:Exit→Act→World→Prop} (he:execOp aM.eval o=execOp aS.eval o) (hk: ∀a' w',Kc a' w'→ ∃v,a'=aS.put o.dst v∧Kc' (aM.put o.dst v) w') (hd: ∀v v',aS.put o.dst v=aS.put o.dst v'→ ∀w',Kc' (aM.put o.dst v) w'→Kc' (aM.put o.dst v') w')
 (h:o.wp P aS w Kc fun _ _ _=>False):o.wp P aM w Kc' Qc:=by
 unfold Oper.wp at*;rw[he];generalize (execOp aS.eval o).run P w=r at*
 have use: ∀v w',Kc (aS.put o.dst v) w'→Kc' (aM.put o.dst v) w':=fun v w' h=>by
  obtain⟨v',e,hk'⟩:=hk _ _ h;exact hd v' v e.symm w' hk'
 cases r with
 |ok nx w'=>
  cases nx<;>simp only[Oper.upon] at h ⊢
  case value u=>exact use u w' h
  case skip=>exact use undef w' h
  case defer d=>
   exfalso
   obtain⟨v,e,_⟩:=hk _ _ h;have:=congrArg Act.defers e;rw[put_defers,put_defers] at this;have h2:=congrArg List.length this;simp at h2
  case enter f args=>
   refine Calls.mono h fun e w'' he=> ?_
   cases e with
   |returned u=>exact use u w'' he
   |panicked c=>exact he.elim
   |outgrown=>exact(LetsOut_false he).elim
  case row row args=>exact Rows.mono h fun u w'' he=>use u w'' he
 |halt x w'=>
  cases x<;>simp only[Oper.upon] at h
where
 LetsOut_false:LetsOut (fun(_:Exit) (_:Act) (_:World)=>False)→False:=fun⟨_,_,h⟩=>h
theorem aa9: ∀(L:List Pe) (a:Act),(xW L a).tmps.size=a.tmps.size
 |[],_=>rfl
 |p::r,a=>by show(xW r _).tmps.size=_;rw[aa9 r,NZ]
theorem ah5 {a a':Act} {d:Option Tmp} {v v':Value} (hs:a'.tmps.size=a.tmps.size) (h:a.put d v=a.put d v'):a'.put d v=a'.put d v':=by
 cases d with
 |none=>rfl
 |some d=>
  have h1:a.tmps.setIfInBounds d v=a.tmps.setIfInBounds d v':=congrArg Act.tmps h;show({a' with tmps:=a'.tmps.setIfInBounds d v}:Act)={a' with tmps:=a'.tmps.setIfInBounds d v'}
  by_cases hd:d<a.tmps.size
  ·have:v=v':=by
    have h2:=congrArg (fun x:Array Value=>x[d]?) h1;simpa [aaH,hd] using h2
   rw[this]
  ·have hle:a'.tmps.size≤d:=by rw[hs];exact Nat.le_of_not_lt hd
   rw[Array.setIfInBounds_eq_of_size_le hle,Array.setIfInBounds_eq_of_size_le hle]
theorem aoI (hC:COk C) (Lw:Wj C cf) (Pv:LpM lp) (hb:SG n ops.toList=true) {Qc:Exit→Act→World→Prop} (hQ: ∀st a w,Inv F A w0 fx g n st a w→(K st).holds cf lp Q→Qc .normal a w):
 ∀(fuel:Nat) (listed:Array Bool) (aM:Act) (w:World) (L:List Pe) (rest:KZ) (S:List Nat),ad9 C F A w0 fx g n l K cf lp Q ops listed aM w L rest S→fuel=rest.len+L.length→wpAny C.P .any ops Qc fuel listed aM w:=by
 have ready0: ∀{listed:Array Bool} {j:Nat},listed.size=ops.size→j∈Region.ready .any ops listed→listed.getD j false=false∧ ∃oj,ops[j]?=some oj∧ ∀d∈uD oj,listed.getD d false=true:=fun {listed j} hsz hj=>by
  obtain⟨h1,oj,h2,h3⟩:=mem_ready.1 hj
  have hlt:j<listed.size:=by rw[hsz];exact(Array.getElem?_eq_some_iff.1 h2).1
  exact⟨by rw[ahn hlt false true];exact h1,oj,h2,aea.1 h3⟩
 have ready1: ∀{listed:Array Bool} {j:Nat} {oj:Oper},listed.size=ops.size→listed.getD j false=false→ops[j]?=some oj→(∀d∈uD oj,listed.getD d false=true)→j∈Region.ready .any ops listed:=fun {listed j oj} hsz h1 h2 h3=>by
  have hlt:j<listed.size:=by rw[hsz];exact(Array.getElem?_eq_some_iff.1 h2).1
  exact mem_ready.2 ⟨by rw[ahn hlt true false];exact h1,oj,h2,aea.2 h3⟩
 intro fuel
 induction fuel with
 |zero=>
  intro listed aM w L rest S s hf;have hL:L=[]:=Eb ay
  have hr:rest= .nil:=by
   have h0:rest.len=0:=by omega
   have hsc:=s.VD;clear s hf
   cases rest with
   |nil=>rfl
   |op i fl r=>simp[KZ.len] at h0
   |alt a b=>
    exfalso
    simp only[jd,eY] at hsc
    have: ∀{T:KZ} {H:List Nat} {S:List Nat},jd C ops (some H) S T=true→T.len≠0:=by
     intro T
     induction T with
     |nil=>intro _ _ h;simp[jd] at h
     |op i fl r _=>intro _ _ _;simp[KZ.len]
     |alt a b iha _=>intro _ _ h;simp only[jd,eY] at h;exact iha h.1.1
    exact this hsc.1.1 h0
  subst hL hr
  constructor
  ·cases hrd:Region.ready .any ops listed with
   |nil=>rfl
   |cons j js=>
    exfalso
    obtain⟨h1,oj,h2,_⟩:=ready0 s.sz (j:=j) (by rw[hrd];exact .head _);have hs:=s.VD;simp only[jd] at hs;have:=nC.1 (Et hs j (Array.getElem?_eq_some_iff.1 h2).1);rcases (s.mem j).1 this with h|⟨p,hp,_⟩
    ·rw[h1] at h;cases h
    ·cases hp
  ·obtain⟨st,hinv,hk⟩:=s.go
   simp only[wR] at hk;rw[xO] at hk;obtain⟨⟨φ,h⟩,h2,h3,h4⟩:=hinv;exact hQ _ aM w ⟨⟨φ,h.keep l⟩,h2,h3,h4⟩ hk
 |succ fuel ih=>
  intro listed aM w L rest S s hf
  have up: ∀{L:List Pe} {rest:KZ} {S:List Nat},ad9 C F A w0 fx g n l K cf lp Q ops listed aM w L rest S→fuel+1=rest.len+L.length→ ∀p∈L,(∀d∈uD p.o,listed.getD d false=true)→wpOp C.P ops Qc p.i (wpAny C.P .any ops Qc fuel (listed.setIfInBounds p.i true)) aM w:=fun {L rest S} s hf p hp hdp=>by
   obtain⟨L1,L2,rfl⟩:=List.append_of_mem hp;obtain⟨e1,e2,e3,e4,e5⟩:=s.pe p hp;have hpw:=List.pairwise_append.1 s.pw
   have hq1: ∀q∈L1,N0 q.o=false∧ahl ops q.o p.o:=fun q hq=>by
    have:=s.pe q (mg _ hq);refine⟨this.2.2.2.1,(hpw.2.2 q hq p (.head _)).1.now e1 fun hd=> ?_⟩
    have h1:=hd.listed s.closed fun o ho=>by rw[e1] at ho;cases ho;exact hdp
    rw[this.2.2.2.2] at h1
    cases h1
   obtain⟨k1,k2,k3⟩:=ad8 e4 L1 aM hq1 s.pend
   have hlt:p.i<listed.size:=by rw[s.sz];exact(Array.getElem?_eq_some_iff.1 e1).1
   have hne: ∀q,q∈L1∨q∈L2→q.i≠p.i:=fun q hq=>by
    rcases hq with hq|hq
    ·exact(hpw.2.2 q hq p (.head _)).2
    ·exact fun e=>((List.pairwise_cons.1 hpw.2.1).1 q hq).2 e.symm
   have D7: ∀j,(listed.setIfInBounds p.i true).getD j false=true↔j=p.i∨listed.getD j false=true:=fun j=>by
    by_cases hj:j=p.i
    ·subst hj;simp[zw,aaH,hlt]
    ·rw[Go.getD_set_ne false (Ne.symm hj)];simp[hj]
   have hs':ad9 C F A w0 fx g n l K cf lp Q ops (listed.setIfInBounds p.i true) (aM.put p.o.dst p.v) w (L1++L2) rest S:=by
    refine⟨by simp[s.sz],fun j=> ?_,s.VD,k2,?_,fun q hq=> ?_,fun q hq=> ?_,fun j oj hj D6 d hd=> ?_,fun M1 q M2 he d hd=> ?_,?_⟩
    ·rw[s.mem,D7]
     constructor
     ·rintro(h|⟨q,hq,e⟩)
      ·exact .inl (.inr h)
      ·rcases List.mem_append.1 hq with hq|hq
       ·exact .inr ⟨q,mg _ hq,e⟩
       ·rcases fY.1 hq with rfl|hq
        ·exact .inl (.inl e.symm)
        ·exact .inr ⟨q,r9 _ hq,e⟩
     ·rintro((rfl|h)|⟨q,hq,e⟩)
      ·exact .inr ⟨p,hp,rfl⟩
      ·exact .inl h
      ·rcases List.mem_append.1 hq with hq|hq
       ·exact .inr ⟨q,mg _ hq,e⟩
       ·exact .inr ⟨q,r9 _ (.tail _ hq),e⟩
    ·exact List.pairwise_append.2 ⟨hpw.1,(List.pairwise_cons.1 hpw.2.1).2,fun a ha b hb=>hpw.2.2 a ha b (.tail _ hb)⟩
    ·have Yk:q∈L1++p::L2:=by
      rcases List.mem_append.1 hq with hq|hq
      ·exact mg _ hq
      ·exact r9 _ (.tail _ hq)
     obtain⟨f1,f2,f3,f4,f5⟩:=s.pe q Yk;refine⟨f1,f2,f3,f4,?_⟩;rw[Go.getD_set_ne false (Ne.symm (hne q (List.mem_append.1 hq)))];exact f5
    ·have Yk:q∈L1++p::L2:=by
      rcases List.mem_append.1 hq with hq|hq
      ·exact mg _ hq
      ·exact r9 _ (.tail _ hq)
     exact s.later q Yk
    ·rcases (D7 j).1 hj with rfl|hj
     ·rw[e1] at D6;cases D6
      exact(D7 d).2 (.inr (hdp d hd))
     ·exact(D7 d).2 (.inr (s.closed j oj hj D6 d hd))
    ·have old:listed.getD d false=true∨ ∃q'∈L1++p::L2,q'.i=d∧(q'=p∨q'∈M1):=by
      rcases List.append_eq_append_iff.1 he with⟨a',x1,x2⟩|⟨c',x1,x2⟩
      ·
       have:=s.pd (L1++p::a') q M2 (by rw[x2];simp) d hd;rcases this with h|⟨q',Yk,e⟩
       ·exact .inl h
       ·refine .inr ⟨q',?_,e,?_⟩
        ·rcases List.mem_append.1 Yk with h|h
         ·exact mg _ h
         ·rcases fY.1 h with rfl|h
          ·exact r9 _ (.head _)
          ·exact r9 _ (.tail _ (by rw[x2];exact mg _ h))
        ·rcases List.mem_append.1 Yk with h|h
         ·exact .inr (by rw[x1];exact mg _ h)
         ·rcases fY.1 h with rfl|h
          ·exact .inl rfl
          ·exact .inr (by rw[x1];exact r9 _ h)
      ·cases c' with
       |nil=>
        simp only[qt,xI] at x1 x2;subst x1;have:=s.pd (L1++[p]) q M2 (by rw[←x2];simp) d hd;rcases this with h|⟨q',Yk,e⟩
        ·exact .inl h
        ·rcases List.mem_append.1 Yk with h|h
         ·exact .inr ⟨q',mg _ h,e,.inr h⟩
         ·simp only[qu] at h
          exact .inr ⟨q',by rw[h];exact hp,e,.inl h⟩
       |cons y ys=>
        simp only[R4,List.cons.injEq] at x2;obtain⟨rfl,_⟩:=x2;have:=s.pd M1 q (ys++p::L2) (by rw[x1];simp) d hd;rcases this with h|⟨q',Yk,e⟩
        ·exact .inl h
        ·exact .inr ⟨q',by rw[x1];exact mg _ (mg _ Yk),e,.inr Yk⟩
     rcases old with h|⟨q',_,e,rfl|h⟩
     ·exact .inl ((D7 d).2 (.inr h))
     ·exact .inl ((D7 d).2 (.inl e.symm))
     ·exact .inr ⟨q',h,e⟩
    ·obtain⟨st,g1,g2⟩:=s.go
     exact⟨st,by rw[k3];exact g1,g2⟩
   have hnext:=ih _ _ w (L1++L2) rest S hs' (by simp only[cG,fX] at hf ⊢;omega);have hyn:=k1.yn hC.ty;unfold Go.wpOp;simp only[e1];rcases hyn with⟨hw,hv⟩|⟨hw,hv⟩
   ·rw[aI hw]
    refine .inl ?_;unfold Oper.wp;rw[hv];exact hnext
   ·rw[aF (by rw[hw];exact Bool.false_ne_true)]
    rw[hv] at hnext;exact hnext
  constructor
  ·intro hnil
   exfalso
   cases L with
   |nil=>
    have first: ∃(i:Nat) (o:Oper),ops[i]?=some o∧i∉S∧ ∀d∈uD o,d∈S:=by
     cases rest with
     |nil=>simp[KZ.len] at hf
     |op i fl r=>
      obtain⟨o,ho,hiS,SD,_⟩:=sZ s.VD;exact⟨i,o,ho,hiS,SD⟩
     |alt a b=>
      have hs:=s.VD;simp only[jd,eY] at hs;obtain⟨j,_,oj,h1,h2,h3⟩:=Sk hs.1.1;exact⟨j,oj,h1,h2,h3⟩
    ·obtain⟨i,o,ho,hiS,SD⟩:=first
     have hi:listed.getD i false=false:=by
      cases h:listed.getD i false with
      |false=>rfl
      |true=>exact absurd ((s.mem i).2 (.inl h)) hiS
     have:=ready1 s.sz hi ho fun d hd=>by
      rcases (s.mem d).1 (SD d hd) with h|⟨p,hp,_⟩
      ·exact h
      ·cases hp
     rw[hnil] at this
     cases this
   |cons p L2=>
    obtain⟨e1,e2,e3,e4,e5⟩:=s.pe p (.head _)
    have:=ready1 s.sz e5 e1 fun d hd=>by
     rcases s.pd [] p L2 rfl d hd with h|⟨q,hq,_⟩
     ·exact h
     ·cases hq
    rw[hnil] at this
    cases this
  ·intro j hj
   obtain⟨hjl,oj,D6,hdj⟩:=ready0 s.sz hj
   have doEff: ∀{rest:KZ} {L:List Pe} {S:List Nat} {fl:List Nat} {r:KZ},ad9 C F A w0 fx g n l K cf lp Q ops listed aM w L rest S→fuel+1=rest.len+L.length→r.len+1=rest.len→j∉S→N0 oj=false→jd C ops none (j::S) r=true→
    (∀(k:Nat) (ok:Oper),k∈S→ops[k]?=some ok→yg ok=true→k∈fl∨B1 ops k j)→(∃st,Inv F A w0 fx g n st (xW L aM) w∧(wR C fx l ops (.op j fl r) st K).holds cf lp Q)→wpOp C.P ops Qc j (wpAny C.P .any ops Qc fuel (listed.setIfInBounds j true)) aM w:=fun {rest L S fl r} s hf hrl hjS hsel agO Yo hgo=>by
    have hpe: ∀p∈L,N0 p.o=false∧Wm ops p.o=true∧ahl ops p.o oj:=fun p hp=>by
     obtain⟨f1,f2,f3,f4,f5⟩:=s.pe p hp;refine⟨f4,f3,(s.later p hp j oj hjS D6).now D6 fun hd=> ?_⟩
     have:=hd.listed s.closed fun o' ho'=>by rw[D6] at ho';cases ho';exact hdj
     rw[f5] at this;cases this
    have BA: ∀q∈L,∀d,q.o.dst=some d→d∉oj.looksAt ops:=fun q hq=>(hpe q hq).2.2.2.2;obtain⟨x1,x2,_⟩:=PW (ops:=ops) hsel L aM BA;obtain⟨st,hinv,hk⟩:=hgo;simp only[wR,D6] at hk
    have hlt:j<listed.size:=by rw[s.sz];exact(Array.getElem?_eq_some_iff.1 D6).1
    have D7: ∀d,(listed.setIfInBounds j true).getD d false=true↔d=j∨listed.getD d false=true:=fun d=>by
     by_cases hd:d=j
     ·subst hd;simp[zw,aaH,hlt]
     ·rw[Go.getD_set_ne false (Ne.symm hd)];simp[hd]
    have hpp: ∀(v:Value),(Gy C ops L aM w→Gy C ops L (aM.put oj.dst v) w)∧xW L (aM.put oj.dst v)=(xW L aM).put oj.dst v:=fun v=>
     Wp L aM fun p hp=>⟨(hpe p hp).1,(hpe p hp).2.2.1,(hpe p hp).2.2.2.1⟩
    have next: ∀(v:Value) (w':World) (st':TS),Inv F A w0 fx g n st' ((xW L aM).put oj.dst v) w'→(wR C fx l ops r st' K).holds cf lp Q→(∀x∈fl,∀ox,ops[x]?=some ox→ ∀t y ad,ox.op= .load t y→(xW L aM).eval y= .pointer (some ad)→Region.wanted ox (yielded ops (xW L aM).tmps)=true→ad.block<w.heap.size→w'.heap[ad.block]?=w.heap[ad.block]?)→
     wpAny C.P .any ops Qc fuel (listed.setIfInBounds j true) (aM.put oj.dst v) w':=fun v w' st' hinv' hk' hfr=>by
     have hpw:=Wq (w':=w') hC.ty L aM s.pw (fun p hp=>⟨(hpe p hp).2.1,(hpe p hp).1⟩) (fun p hp t y ad hop hy hwp hlt'=>by
      obtain⟨f1,f2,f3,f4,f5⟩:=s.pe p hp;have hpS:p.i∈S:=(s.mem _).2 (.inr ⟨p,hp,rfl⟩);rcases Yo p.i p.o hpS f1 (by unfold yg;rw[hop]) with hfl|hwt
      ·exact hfr p.i hfl p.o f1 t y ad hop hy hwp hlt'
      ·exfalso
       have:=hwt.listed s.closed fun o' ho'=>by rw[D6] at ho';cases ho';exact hdj
       rw[f5] at this;cases this) s.pend
     have aro:=(Wp (C:=C) (ops:=ops) (w:=w') (dst:=oj.dst) (u:=v) L aM fun p hp=>⟨(hpe p hp).1,(hpe p hp).2.2.1,(hpe p hp).2.2.2.1⟩);refine ih _ _ w' L r (j::S) ⟨by simp[s.sz],fun d=> ?_,agO,aro.1 hpw,s.pw,fun p hp=> ?_,fun p hp d od hd hod=>s.later p hp d od (fun hs=>hd (.tail _ hs)) hod,fun d od hd hod e he=> ?_,fun L1 p L2 he d hd=> ?_,st',by rw[aro.2];exact hinv',hk'⟩ ay
     ·rw[fY,s.mem,D7]
      constructor
      ·rintro(h|h|h)
       ·exact .inl (.inl h)
       ·exact .inl (.inr h)
       ·exact .inr h
      ·rintro((h|h)|h)
       ·exact .inl h
       ·exact .inr (.inl h)
       ·exact .inr (.inr h)
     ·obtain⟨f1,f2,f3,f4,f5⟩:=s.pe p hp
      refine⟨f1,f2,f3,f4,?_⟩;rw[Go.getD_set_ne false (fun e=>hjS ((s.mem j).2 (.inr ⟨p,hp,e.symm⟩)))];exact f5
     ·rcases (D7 d).1 hd with rfl|hd
      ·rw[D6] at hod;cases hod
       exact(D7 e).2 (.inr (hdj e he))
      ·exact(D7 e).2 (.inr (s.closed d od hd hod e he))
     ·exact(s.pd L1 p L2 he d hd).imp (fun h=>(D7 d).2 (.inr h)) id
    have alF:=ad7 hC Lw hinv (aoH hb D6) hk (Qc:=fun _ _ _=>False) (Kc:=fun a' w'=> ∃v,a'=(xW L aM).put oj.dst v∧wpAny C.P .any ops Qc fuel (listed.setIfInBounds j true) (aM.put oj.dst v) w') fun st' v w' hi' hk' hfr=>by
     rw[xO] at hk';exact⟨v,rfl,next v w' st' hi' hk' hfr⟩
    have hdv: ∀v v',(xW L aM).put oj.dst v=(xW L aM).put oj.dst v'→aM.put oj.dst v=aM.put oj.dst v':=fun v v' h=>ah5 (aa9 L aM).symm h;unfold Go.wpOp;simp only[D6];rw[x2] at alF
    by_cases hw:Region.wanted oj (yielded ops aM.tmps)=true
    ·rw[aI hw] at alF ⊢
     exact .inl (aeb (Kc':=wpAny C.P .any ops Qc fuel (listed.setIfInBounds j true)) x1.symm (fun a' w' h=>h) (fun v v' h w' hw'=>by rw[←hdv v v' h];exact hw') alF)
    ·rw[aF hw] at alF ⊢
     obtain⟨v,e,hn⟩:=alF;rw[hdv undef v e];exact hn
   have go: ∀(rest:KZ) (L:List Pe) (S:List Nat),ad9 C F A w0 fx g n l K cf lp Q ops listed aM w L rest S→fuel+1=rest.len+L.length→wpOp C.P ops Qc j (wpAny C.P .any ops Qc fuel (listed.setIfInBounds j true)) aM w:=by
    intro rest
    induction rest with
    |nil=>
     intro L S s hf;have hs:=s.VD;simp only[jd] at hs;have hjS:=nC.1 (Et hs j (Array.getElem?_eq_some_iff.1 D6).1);rcases (s.mem j).1 hjS with h|⟨p,hp,rfl⟩
     ·rw[hjl] at h;cases h
     ·have e1:=(s.pe p hp).1
      rw[D6] at e1;cases e1;exact up s hf p hp hdj
    |op i fl r ihr=>
     intro L S s hf
     by_cases hjS:j∈S
     ·rcases (s.mem j).1 hjS with h|⟨p,hp,rfl⟩
      ·rw[hjl] at h;cases h
      ·have e1:=(s.pe p hp).1
       rw[D6] at e1;cases e1;exact up s hf p hp hdj
     ·obtain⟨o,ho,hiS,SD,hsel,agO,DE⟩:=sZ s.VD
      rcases DE with⟨hq,_,_,_⟩|⟨hq,aof,Yo⟩
      ·obtain⟨v,s'⟩:=s.advance hC hb ho hq
       exact ihr _ _ s' (by simp only[cG,fX,List.length_nil,KZ.len] at hf ⊢;omega)
      ·have hij:j=i:=by
        apply Classical.byContradiction
        intro hne;obtain⟨d,hd,hdS⟩:=aof j oj hjS hne cY D6;exact hdS ((s.mem d).2 (.inl (hdj d hd)))
       subst hij;rw[D6] at ho;cases ho;exact doEff s hf rfl hjS hsel agO Yo s.go
    |alt a b _ _=>
     intro L S s hf
     by_cases hjS:j∈S
     ·rcases (s.mem j).1 hjS with h|⟨p,hp,rfl⟩
      ·rw[hjl] at h;cases h
      ·have e1:=(s.pe p hp).1
       rw[D6] at e1;cases e1;exact up s hf p hp hdj
     ·have hjH:j∈(KZ.alt a b).B0:=by
       apply Classical.byContradiction
       intro hne;have hs:=s.VD;simp only[jd,eY] at hs;obtain⟨d,hd,hdS⟩:=Ws hs.1.1 j oj hjS hne (fun e=>hne (mg _ e)) D6;exact hdS ((s.mem d).2 (.inl (hdj d hd)))
      obtain⟨st,hinv,hk⟩:=s.go;obtain⟨fl,r,hs',g1,g2,g3⟩:=PX Pv s.VD hjH hk;obtain⟨o,ho,hiS,SD,hsel,agO,DE⟩:=sZ g1;rw[D6] at ho;cases ho;rcases DE with⟨hq,_,aoc,aod⟩|⟨hq,aof,Yo⟩
      ·exfalso
       have hs:=s.VD;exact acd hs hjH D6 hq
      ·exact doEff s hf g2 hjS hsel agO Yo ⟨st,hinv,g3⟩
   exact go rest L S s hf
theorem ah6 (hC:COk C) (Lw:Wj C cf) (Pv:LpM lp) (hm:C.P.follows .mixedOrders=true) (hb:SG n ops.toList=true) {Qc:Exit→Act→World→Prop} (hQ: ∀st a w,Inv F A w0 fx g n st a w→(K st).holds cf lp Q→Qc .normal a w) {VD:KZ} (hs:jd C ops none [] VD=true) (hl:VD.len=ops.size)
 {a:Act} (hi:Inv F A w0 fx g n st a w) (hk:(wR C fx l ops VD st K).holds cf lp Q) {id:Nat}:(Code.region id ops true).wp C.P Qc a w:=by
 refine wp_region_any hm ?_;obtain⟨⟨φ,h⟩,h2,h3,h4⟩:=hi;have hi':Inv F A w0 fx g n st a {w with drawn:=w.drawn+1}:=⟨⟨φ,h.NG (pV.drew w)⟩,h2,h3,h4⟩
 have D5: ∀j,(Array.replicate ops.size false).getD j false=false:=fun j=>by
  rw[zw,Array.getElem?_replicate]
  split<;>rfl
 refine aoI (l:=l) hC Lw Pv hb hQ ops.size _ a _ [] VD [] ⟨by simp,fun j=> ?_,hs,trivial,.nil,fun p hp=>(by cases hp),fun p hp=>(by cases hp),fun j oj hj=> ?_,fun L1 p L2 he=> ?_,st,hi',hk⟩ (by simp[hl])
 ·rw[D5];simp
 ·rw[D5] at hj;cases hj
 ·cases L1<;>cases he
end Go.T
namespace Go.T
variable {F : Nat → Prop} {A : Arg} {w0 w w' : World} {φ φ' φ1 : Fp} {st st' sta fH sL : TS} {tm L6 : Array Value} {C : pU}
variable {R : Type} {cf : Cf} {lp : Lp} {Q : R → Prop}
variable {fx : List Nat} {g : Nat → Value} {n : Nat} {f : FuncId}
def Ja (C:pU) (f:FuncId):Code→Bool
 | .region id ops draw=>match draw with
   |false=>true
   |true=>match C.VD f id with
    |some l=>match Nat.beq l.len ops.size with
     |true=>jd C ops none [] l
     |false=>false
    |none=>true
 | .seq a b=>match Ja C f a with|true=>Ja C f b|false=>false
 | .cond _ a b=>match Ja C f a with|true=>Ja C f b|false=>false
 | .block _ b=>Ja C f b
 | .loop b=>Ja C f b
 |_=>true
structure aec (C:pU):Prop extends COk C where
 VD: ∀(f:Nat) (fn:Func) (c:Code),C.P.funcs[f]?=some fn→fn.body=some c→Ja C f c=true
 mix:C.P.follows .mixedOrders=true
 ext: ∀(f:FuncId) (p:List TV→Option (TV×List TV)) (vs:List TV) (r:TV) (fs:List TV),C.ext f=some p→p vs=some (r,fs)→PT C f vs r fs
def QK (F:Nat→Prop) (A:Arg) (w0:World) (fx:List Nat) (g:Nat→Value) (n:Nat) (Qt:TX→TS→Prop):Exit→Act→World→Prop
 | .normal,a,w=> ∃st,Inv F A w0 fx g n st a w∧Qt .norm st
 | .exit id,a,w=> ∃st,Inv F A w0 fx g n st a w∧Qt (.ex id) st
 | .ret,a,w=> ∃st,Inv F A w0 fx g n st a w∧Qt .ret st
 |_,_,_=>False
def aoJ (C:pU) (F:Nat→Prop) (A:Arg) (w0:World) (fx:List Nat) (g:Nat→Value) (n:Nat) (f:FuncId) (lp:Lp):Prop:=
 ∀(i:Nat) (c:Code) (st:TS) (Qt:TX→TS→Prop) (a:Act) (w:World),yE n c=true→Ja C f c=true→lp f i c st Qt→Inv F A w0 fx g n st a w→(Code.loop c).wp C.P (QK F A w0 fx g n Qt) a w
theorem aj6 (hC:aec C) (Lw:Wj C cf) (hlm:LpM lp) (Pv:aoJ C F A w0 fx g n f lp): ∀(c:Code) (i:Nat) (st:TS) (K:TX→TS→Ev R) (a:Act) (w:World),yE n c=true→Ja C f c=true→Inv F A w0 fx g n st a w→(run C fx f i c st K).holds cf lp Q→
 c.wp C.P (QK F A w0 fx g n fun x st=>(K x st).holds cf lp Q) a w:=by
 intro c
 induction c with
 |skip=>intro i st K a w _ _ hi hk;exact wp_skip ⟨st,hi,hk⟩
 |region id ops draw=>
  intro i st K a w hb hs hi hk
  cases draw with
  |false=>
   simp only[run] at hk;exact wp_region_list (aa8 hC.toCOk Lw (K:=K .norm) (fun st a w hi hk=>⟨st,hi,hk⟩) ops.toList st a w hb hi hk)
  |true=>
   simp only[run] at hk;simp only[Ja] at hs
   split at hk
   ·rename_i l hl
    rw[hl] at hs;simp only at hs
    split at hs
    ·rename_i hlen
     exact ah6 hC.toCOk Lw hlm hC.mix hb (K:=K .norm) (fun st a w hi hk=>⟨st,hi,hk⟩) hs (ki hlen) hi hk
    ·cases hs
   ·exact hk.elim
 |seq x y ihx ihy=>
  intro i st K a w hb hs hi hk;simp only[run] at hk
  have hb':yE n x=true∧yE n y=true:=by
   simp only[yE] at hb
   split at hb
   ·exact⟨by assumption,hb⟩
   ·cases hb
  have hs':Ja C f x=true∧Ja C f y=true:=by
   simp only[Ja] at hs
   split at hs
   ·exact⟨by assumption,hs⟩
   ·cases hs
  refine wp_seq (Code.wp_mono (fun e a w q=> ?_) (ihx i st _ a w hb'.1 hs'.1 hi hk))
  cases e with
  |normal=>obtain⟨st',hi',hk'⟩:=q;exact ihy i st' K a w hb'.2 hs'.2 hi' hk'
  |exit id=>exact q
  |ret=>exact q
  |_=>exact q.elim
 |cond c x y ihx ihy=>
  intro i st K a w hb hs hi hk;simp only[run] at hk
  have hb':yE n x=true∧yE n y=true:=by
   simp only[yE] at hb
   split at hb
   ·exact⟨by assumption,hb⟩
   ·cases hb
  have hs':Ja C f x=true∧Ja C f y=true:=by
   simp only[Ja] at hs
   split at hs
   ·exact⟨by assumption,hs⟩
   ·cases hs
  obtain⟨φ,h⟩:=hi.rel;have hc:=gi hC.ty h 0 c
  split at hk
  ·rename_i p hp
   rw[hp] at hc;have hc:a.eval c= .bool p:=hc;refine wp_cond hc ?_
   cases p with
   |true=>exact ihx i st K a w hb'.1 hs'.1 hi hk
   |false=>exact ihy i st K a w hb'.2 hs'.2 hi hk
  ·rename_i p hp
   rw[hp] at hc;have hc:=sX hc;refine wp_cond hc ?_
   cases p with
   |true=>exact ihx i st K a w hb'.1 hs'.1 hi hk
   |false=>exact ihy i st K a w hb'.2 hs'.2 hi hk
  ·exact hk.elim
 |block id x ih=>
  intro i st K a w hb hs hi hk;simp only[run] at hk;refine wp_block (Code.wp_mono (fun e a w q=> ?_) (ih id st _ a w hb hs hi hk))
  cases e with
  |normal=>exact q
  |exit id'=>
   obtain⟨st',hi',hk'⟩:=q;simp only at hk';simp only[Exit.inBlock]
   cases hbq:Nat.beq id' id with
   |true=>
    have:=ki hbq;rw[hbq] at hk';rw[aI this];exact⟨st',hi',hk'⟩
   |false=>
    rw[hbq] at hk';rw[aF (wO hbq)];exact⟨st',hi',hk'⟩
  |ret=>exact q
  |_=>exact q.elim
 |loop x ih=>
  intro i st K a w hb hs hi hk;simp only[run] at hk;rw[xO] at hk;obtain⟨⟨φ,h⟩,h2,h3,h4⟩:=hi;exact Pv i x _ _ a w hb hs hk ⟨h.head _,h2,h3,h4⟩
 |exit id=>intro i st K a w _ _ hi hk;exact wp_exit ⟨st,hi,hk⟩
 |ret=>intro i st K a w _ _ hi hk;exact wp_ret ⟨st,hi,hk⟩
 |_=>intro i st K a w _ _ hi hk;exact hk.elim
theorem aho (hC:aec C) (Lw:Wj C cf) (hlm:LpM lp) (Pv:aoJ C F A w0 fx g n f lp) {i:Nat} {c:Code} {Qt:TX→TS→Prop} (hb:yE n c=true) (hs:Ja C f c=true): ∀(k:Nat) (st:TS) (a:Act) (w:World),iter C cf lp fx f i c Qt k st→Inv F A w0 fx g n st a w→Code.rounds C.P c (QK F A w0 fx g n Qt) k a w
 |0,_,_,_,h,_=>h.elim
 |k+1,st,a,w,h,hi=>by
  refine Code.wp_mono (fun e a w q=> ?_) (aj6 hC Lw hlm Pv c i st VS a w hb hs hi h)
  cases e with
  |normal=>
   obtain⟨st',hi',hk'⟩:=q;simp only[VS,Ev.holds] at hk';rw[xO] at hk';obtain⟨⟨φ,h⟩,h2,h3,h4⟩:=hi';exact aho hC Lw hlm Pv hb hs k _ a w hk' ⟨h.head _,h2,h3,h4⟩
  |exit id=>exact q
  |ret=>exact q
  |_=>exact q.elim
theorem ahp {k:Nat} {fx:List Nat} (d:Nat):LpM (lpN C cf k fx d):=fun f i c st Q Q' hQ h=>uU (fun _ _ _ _ h=>h) (cX _) d f i c st Q Q' hQ h
theorem aj7 (hC:aec C) (Lw:Wj C cf) {k:Nat}: ∀(d:Nat),aoJ C F A w0 fx g n f (lpN C cf k fx d)
 |0=>fun i c st Qt a w _ _ h _=>h.elim
 |d+1=>fun i c st Qt a w hb hs h hi=>wp_loop_rounds k (aho hC Lw (ahp d) (aj7 hC Lw d) hb hs k st a w h hi)
theorem aba: ∀{ps:List cu} {i j:Nat} {ms:List Mode},ps[j]?=some (.inout ms)→i+j∈yV ps i
 |[],_,_,_,h=>by simp at h
 |p::r,i,0,ms,h=>by
  simp only[gG,aY] at h;subst h;exact .head _
 |p::r,i,j+1,ms,h=>by
  have:=aba (ps:=r) (i:=i+1) (j:=j) (by simpa using h);rw[show i+(j+1)=i+1+j by omega]
  cases p with
  |inout _=>exact .tail _ this
  |borrow=>exact this
  |consume=>exact this
theorem aed (hC:aec C): ∀(k:Nat),Wj C (lJ C k)
 |0=>fun f vs r fs h=>h.elim
 |k+1=>fun f vs r fs h=>by
  have Lw:=aed hC k;unfold lJ at h
  cases hx:C.ext f with
  |some p=>rw[hx] at h;exact hC.ext f p vs r fs hx h
  |none=>
  rw[hx] at h;have h:(body C f vs).holds (lJ C k) (lpN C (lJ C k) k (yV (C.sig f).ps 0) 4) fun p=>p=(r,fs):=h;unfold body at h
  split at h
  ·exact h.elim
  ·rename_i fn hfn
   split at h
   ·exact h.elim
   ·rename_i c hc
    refine⟨⟨fn,c,hfn,hc⟩,fun w xs Rg BB X Y hin hlen=> ?_⟩;rw[xO] at h
    have BH: ∀(i:Nat) (x:Value),xs[i]?=some x→(xs.toArray++Array.replicate (fn.ntmps-xs.toArray.size) undef).getD i undef=x:=fun i x hx=>by
     have hlt:i<xs.length:=(List.getElem?_eq_some_iff.1 hx).1;rw[zw,Array.getElem?_append_left (by simpa using hlt)];simp[hx]
    have hstart:=ajK (C.sig f) hin BH
    have hinv:Inv (yD X Y) (LF true Rg BB) w (yV (C.sig f).ps 0) (fun i=>xs.getD i undef) fn.ntmps (Jt (C.sig f) vs) {tmps:=xs.toArray++Array.replicate (fn.ntmps-xs.toArray.size) undef,defers:=[]} w:=by
     refine⟨⟨_,hstart⟩,fun i _=> ?_,rfl,?_⟩
     ·cases hx:xs[i]? with
      |some x=>rw[show xs.getD i undef=x by simp[List.getD,hx]];exact BH i x hx
      |none=>
       have hge:xs.length≤i:=by
        rcases Nat.lt_or_ge i xs.length with h'|h'
        ·rw[cm h'] at hx;cases hx
        ·exact h'
       rw[show xs.getD i undef=undef by simp[List.getD,hx]];rw[zw,Array.getElem?_append_right (by simpa using hge),Array.getElem?_replicate]
       split<;>rfl
     ·simp;omega
    have hrun:=aj6 hC Lw (ahp _) (aj7 hC Lw 4) c 0 _ _ _ w (hC.dst f fn c hfn hc) (hC.VD f fn c hfn hc) hinv h;refine calls_of_wp hfn hc (Code.wp_mono (fun e a w' q=> ?_) hrun)
    have fin: ∀x st,Inv (yD X Y) (LF true Rg BB) w (yV (C.sig f).ps 0) (fun i=>xs.getD i undef) fn.ntmps st a w'→(ajj C (C.sig f) fn.results.toList x st).holds (lJ C k) (lpN C (lJ C k) k (yV (C.sig f).ps 0) 4) (fun p=>p=(r,fs))→
     a.defers=[]∧ ∃v,(results fn a.tmps).run C.P w'= .ok v w'∧ ∃v',Ending.returned v= .returned v'∧R9 (yD X Y) (LF true Rg BB) w w' (C.sig f) xs r fs v':=fun x st hi hk=>by
     obtain⟨⟨φ,h⟩,h2,h3,h4⟩:=hi;obtain⟨v,g1,g2⟩:=aoB hC.ty (C.sig f) h hlen (fun j ms hj=>h2 j (by have:=aba (i:=0) hj;rwa [ny] at this)) hk;exact⟨h3,v,g1,v,rfl,g2⟩
    cases e with
    |normal=>obtain⟨st,hi,hk⟩:=q;exact fin _ st hi hk
    |ret=>obtain⟨st,hi,hk⟩:=q;exact fin _ st hi hk
    |exit id=>obtain⟨st,hi,hk⟩:=q;exact hk.elim
    |_=>exact q.elim
end Go.T
namespace Go.T
variable {C : pU} {w w' : World}
inductive zG (tt:TypeId→nS):TypeId→List TC→Prop
 |int {t:TypeId} {k:IntKind} {n:Int} (h:(tt t).ti= .int k) (hw:(Lit.int k n).wf=true):zG tt t [.sc (.int k n)]
 |bool {t:TypeId} {b:Bool} (h:(tt t).ti= .bool):zG tt t [.sc (.bool b)]
 |str {t:TypeId} {s:ByteArray} (h:(tt t).ti= .str) (hs:s.size≤reachBytes):zG tt t [.sc (.string s)]
 |slice {t e:TypeId} (h:(tt t).ti= .slice e) (rows:List (List TC)) (hr: ∀r∈rows,zG tt e r) (hl:rows.length*(tt e).bytes≤reachBytes):zG tt t [.sub (tt e).size rows]
 |struct {t:TypeId} {fs:List (Nat×TypeId)} (h:(tt t).ti= .struct fs) (parts:List (List TC)) (hl:parts.length=fs.length) (hf: ∀(j:Nat) (p:Nat×TypeId) (q:List TC),fs[j]?=some p→parts[j]?=some q→zG tt p.2 q):zG tt t parts.flatten
def ah7 (tt:TypeId→nS):Nat→List (Nat×TypeId)→Nat→Bool
 |off,[],size=>Nat.beq off size
 |off,(o,t)::r,size=>match Nat.beq o off with|true=>ah7 tt (off+(tt t).size) r size|false=>false
def okT (tt:TypeId→nS):Nat→TypeId→Bool
 |0,_=>false
 |n+1,t=>match(tt t).ti with
  | .int _=>true
  | .bool=>true
  | .str=>true
  | .slice e=>okT tt n e
  | .struct fs=>ah7 tt 0 fs (tt t).size&&fs.all fun f=>okT tt n f.2
  |_=>false
def Rp (ps:List MemPlace) (k:Nat):Prop:= ∃x∈ps,x.block=k
section
variable {H : Type} {enc : TypeId × Value → H}
theorem Mk (hT:iO C) {t:TypeId} (hk:known (C.tt t)=true):C.P.cellsOf t=(C.tt t).size∧C.P.bytesOf t=(C.tt t).bytes:=by
 obtain⟨i,z,h1,h2,h3,_⟩:=(hT t hk).info;unfold Program.cellsOf Program.bytesOf;rw[h1];exact⟨h2,h3⟩
theorem PY {tt:TypeId→nS} {m:Nat} {t:TypeId} (h:okT tt m t=true):known (tt t)=true:=by
 cases m with
 |zero=>cases h
 |succ m=>
  unfold okT at h;unfold known
  split at h<;>first|(rename_i e;rw[e])|cases h
theorem zG.len (hT:iO C): ∀(m:Nat) (t:TypeId) (cs:List TC),okT C.tt m t=true→zG C.tt t cs→cs.length=(C.tt t).size
 |0,_,_,h,_=>by cases h
 |m+1,t,cs,h,hw=>by
  have hk:=PY h
  cases hw with
  |int h1 _=>exact((hT t hk).one fun fs e=>by rw[h1] at e;cases e).symm
  |bool h1=>exact((hT t hk).one fun fs e=>by rw[h1] at e;cases e).symm
  |str h1 _=>exact((hT t hk).one fun fs e=>by rw[h1] at e;cases e).symm
  |slice h1 _ _ _=>exact((hT t hk).one fun fs e=>by rw[h1] at e;cases e).symm
  | @struct _ fs h1 parts hl hf=>
    unfold okT at h;rw[h1] at h;simp only[eY,List.all_eq_true] at h;obtain⟨hc,ho⟩:=h
    have key: ∀(fs:List (Nat×TypeId)) (parts:List (List TC)) (off:Nat),parts.length=fs.length→(∀(j:Nat) (p:Nat×TypeId) (q:List TC),fs[j]?=some p→parts[j]?=some q→q.length=(C.tt p.2).size)→ah7 C.tt off fs (C.tt t).size=true→off+parts.flatten.length=(C.tt t).size:=by
     intro fs
     induction fs with
     |nil=>
      intro parts off hl _ hc;have:parts=[]:=Eb hl;subst this;exact ki hc
     |cons f r ih=>
      intro parts off hl hf hc
      cases parts with
      |nil=>cases hl
      |cons q qs=>
       obtain⟨o,ft⟩:=f;simp only[ah7] at hc
       split at hc
       ·have h2:=ih qs _ (by simpa using hl) (fun j p q' h1 h2=>hf (j+1) p q' (by simpa using h1) (by simpa using h2)) hc
        have h3:=hf 0 _ q rfl rfl;simp only at h3;rw[Aq,cG,h3];omega
       ·cases hc
    have:=key fs parts 0 hl (fun j p q h1' h2=>zG.len hT m p.2 q (ho p (gQ h1')) (hf j p q h1' h2)) hc;omega
theorem PZ (hT:iO C): ∀(m:Nat) (t:TypeId) (fuel:Nat) (cs:List Value) (x:DataW H×List MemPlace),okT C.tt m t=true→DataW.trod enc C.P w 0 (fun _=>true) true fuel t cs=some x→(x.1.weights C.P t).all (· ≤reachBytes)=true→
 ∃tcs,zG C.tt t tcs∧tcs.length=cs.length∧ ∀(j:Nat) (c:TC) (v:Value),tcs[j]?=some c→cs[j]?=some v→aB w (Rp x.2) .snap Pw c v
 |0,_,_,_,_,h,_,_=>by cases h
 |m+1,t,fuel,cs,x,h,hx,hwt=>by
  have hk:=PY h;have hd:=(hT t hk).desc
  have one: ∀{c0:TC} {v0:Value} {ps:List MemPlace},aB w (Rp ps) .snap Pw c0 v0→ ∀(j:Nat) (c:TC) (v:Value),[c0][j]?=some c→[v0][j]?=some v→aB w (Rp ps) .snap Pw c v:=fun {c0 v0 ps} h j c v h1 h2=>by
   cases j with
   |zero=>simp only[gG,aY] at h1 h2;subst h1 h2;exact h
   |succ j=>simp at h1
  unfold okT at h
  cases ht:(C.tt t).ti with
  |int k=>
   rw[ht] at hd;obtain⟨n,rfl,rfl,hw⟩:=DataW.trod_int hd hx;exact⟨_,.int ht hw,rfl,one (.sc _ _ _ trivial)⟩
  |bool=>
   rw[ht] at hd;obtain⟨b,rfl,rfl⟩:=DataW.trod_bool hd hx;exact⟨_,.bool ht,rfl,one (.sc _ _ _ trivial)⟩
  |str=>
   rw[ht] at hd;obtain⟨s,rfl,rfl,_⟩:=DataW.trod_string hd hx;refine⟨_,.str ht ?_,rfl,one (.sc _ _ _ trivial)⟩;simp only[DataW.weights,qq,qT,jV,decide_eq_true_eq] at hwt;simpa using hwt
  |slice e=>
   rw[ht] at hd h;simp only at h hd;obtain⟨hu,hke⟩:=hd;obtain⟨hce,hbe⟩:=Mk hT hke;have hpos:=(hT e hke).pos;rcases DataW.trod_slice hu hx with⟨rfl,rfl⟩|⟨a,len,cap,elems,rest,n,rfl,rfl,rfl,hb,hl,hm,hlen,hel,hsp,_⟩
   ·exact⟨_,.slice ht [] (fun r hr=>(by cases hr)) cY,rfl,one (FK hpos)⟩
   ·obtain⟨hrl,_⟩:=hsp rfl
    simp only[DataW.weights,hu,qq,List.all_append,eY,decide_eq_true_eq,bY] at hwt;obtain⟨hw1,Yv,_⟩:=hwt
    have arq: ∀(i:Nat) (d:DataW H),(elems.map (·.1))[i]?=some d→(d.weights C.P e).all (· ≤reachBytes)=true:=by
     intro i d hi
     have: ∀(l:List (DataW H)),(DataW.weightsAll C.P e l).all (· ≤reachBytes)=true→ ∀d∈l,(d.weights C.P e).all (· ≤reachBytes)=true:=by
      intro l
      induction l with
      |nil=>intro _ d hd;cases hd
      |cons y r ih=>
       intro h d hd;simp only[DataW.weightsAll,List.all_append,eY] at h;rcases fY.1 hd with rfl|hd
       ·exact h.1
       ·exact ih h.2 d hd
     exact this _ Yv d (gQ hi)
    have each: ∀i,i<len→ ∃row:List TC,zG C.tt e row∧row.length=(C.tt e).size∧ ∀(f:Nat) (c:TC),row[f]?=some c→ ∃u,w.cell? (a.add (i*(C.tt e).size+f))=some u∧aB w (Rp (elems.flatMap (·.2))) .snap Pw c u:=by
     intro i hi;have h1:=hel i hi
     have hie:i<elems.length:=by omega
     rw[cm hie,hce,Option.bind_eq_some_iff] at h1;obtain⟨vs,hvs,htr⟩:=h1;obtain⟨row,r1,r2,r3⟩:=PZ hT m e n vs elems[i] h htr (arq i _ (by rw[me,cm hie];rfl));unfold World.cells? at hvs;rw[aI (Ee _)] at hvs
     have hvl:vs.length=(C.tt e).size:=by simpa using mapM_some_length hvs
     refine⟨row,r1,by rw[r2,hvl],fun f c hf=> ?_⟩
     have hfl:f<(C.tt e).size:=by rw[←hvl,←r2];exact(List.getElem?_eq_some_iff.1 hf).1
     have hg:=mapM_some_get hvs f f (by simp[hfl]);rw[Addr.add_add] at hg;have hv:vs[f]?=some vs[f]:=cm (by rw[hvl];exact hfl);exact⟨vs[f],by rw[hg];exact hv,(r3 f c _ hf hv).uC fun k ⟨y,hy,hk⟩=>⟨y,List.mem_flatMap.2 ⟨_,Ec hie,hy⟩,hk⟩⟩
    obtain⟨rows,afn,hrow⟩: ∃rows:List (List TC),rows.length=len∧ ∀i row,rows[i]?=some row→zG C.tt e row∧row.length=(C.tt e).size∧ ∀(f:Nat) (c:TC),row[f]?=some c→ ∃u,w.cell? (a.add (i*(C.tt e).size+f))=some u∧aB w (Rp (elems.flatMap (·.2))) .snap Pw c u:=by
     refine⟨(List.range len).map fun i=>if hi:i<len then Classical.choose (each i hi) else [],by simp,fun i row hi=> ?_⟩
     have hil:i<len:=by have:=(List.getElem?_eq_some_iff.1 hi).1;simpa using this
     simp[hil] at hi;subst hi;exact Classical.choose_spec (each i hil)
    refine⟨_,.slice ht rows (fun r hr=> ?_) ?_,rfl,one ?_⟩
    ·obtain⟨i,hi,rfl⟩:=List.mem_iff_getElem.1 hr
     exact(hrow i _ (cm hi)).1
    ·rw[afn,←hbe,←hlen]
     exact uQ (qv _ (Nat.le_add_right _ _)) hw1
    ·have hmk:=aB.sub (w:=w) (R:=Rp (MemPlace.row a ((elems.length+rest.length)*C.P.cellsOf e)++(elems++rest).flatMap (·.2))) .snap Pw (C.tt e).size rows (some a) cap
      (fun i f=>(w.cell? (a.add (i*(C.tt e).size+f))).getD undef) (fun _ _ _=>False) ?_ ?_
     ·rw[afn] at hmk;exact hmk
     ·refine⟨by omega,hm,hpos,fun r hr=> ?_,fun _=>⟨a,rfl⟩,fun ad ha i f tc ht'=> ?_,fun _ ad ha hne=> ?_,fun hm=>absurd rfl hm,fun hm=>absurd rfl hm,fun hm=>(by cases hm)⟩
      ·obtain⟨i,hi,rfl⟩:=List.mem_iff_getElem.1 hr
       exact(hrow i _ (cm hi)).2.1
      ·cases ha
       unfold BR at ht'
       cases hr:rows[i]? with
       |none=>rw[hr] at ht';cases ht'
       |some row=>
        rw[hr] at ht';obtain⟨u,u1,_⟩:=(hrow i row hr).2.2 f tc ht';rw[u1];rfl
      ·cases ha
       refine⟨.cell a.block (a.off+0),mg _ (List.mem_map.2 ⟨0,List.mem_range.2 ?_,rfl⟩),rfl⟩;rw[hce]
       have:0<rows.length:=by
        cases rows with
        |nil=>exact absurd rfl hne
        |cons _ _=>simp
       exact Nat.mul_pos ay hpos
     ·intro i f tc ht'
      unfold BR at ht'
      cases hr:rows[i]? with
      |none=>rw[hr] at ht';cases ht'
      |some row=>
       rw[hr] at ht';obtain⟨u,u1,u2⟩:=(hrow i row hr).2.2 f tc ht';rw[u1];refine u2.uC fun k ⟨y,hy,hk⟩=>⟨y,r9 _ ?_,hk⟩;rw[List.flatMap_append];exact mg _ hy
  |struct fs=>
   rw[ht] at hd h;simp only[eY,List.all_eq_true] at h;obtain⟨hc,ho⟩:=h;obtain⟨fields,hu,hfl,hff⟩:=hd;obtain⟨xs,n,rfl,rfl,hcl,hxl,hxs⟩:=DataW.trod_struct hu hx;have hct:=(Mk hT hk).1;rw[hct] at hcl;simp only[DataW.weights,hu] at hwt
   have each: ∀(j:Nat) (p:Nat×TypeId),fs[j]?=some p→ ∃q:List TC,zG C.tt p.2 q∧q.length=(C.tt p.2).size∧ ∀(i:Nat) (c:TC),q[i]?=some c→ ∃u,cs[p.1+i]?=some u∧aB w (Rp (xs.flatMap (·.2))) .snap Pw c u:=by
    intro j p hj;obtain⟨fd,f1,f2,f3,f4,f5⟩:=hff j p hj;have h1:=hxs j fd f1;rw[f2,f3,(Mk hT f4).1] at h1
    have hjx:j<xs.length:=by rw[hxl,hfl];exact(List.getElem?_eq_some_iff.1 hj).1
    rw[cm hjx] at h1
    have hw:(xs[j].1.weights C.P p.2).all (· ≤reachBytes)=true:=by
     rw[←f3];have:=List.all_eq_true.1 hwt;refine List.all_eq_true.2 fun y hy=>this y (DataW.weights_mem_each (ts:=fields.toList.map (·.type)) (ds:=xs.map (·.1)) (j:=j) (by rw[me];simp[f1]) (by rw[me,cm hjx];rfl) y hy)
    obtain⟨q,q1,q2,q3⟩:=PZ hT m p.2 n _ xs[j] (ho p (gQ hj)) h1 hw
    have hql:q.length=(C.tt p.2).size:=by rw[q2,eP,iT,hcl];omega
    refine⟨q,q1,hql,fun i c hi=> ?_⟩
    have hil:i<(C.tt p.2).size:=by rw[←hql];exact(List.getElem?_eq_some_iff.1 hi).1
    have hlt:p.1+i<cs.length:=by rw[hcl];omega
    refine⟨cs[p.1+i],cm hlt,(q3 i c _ hi ?_).uC fun k ⟨y,hy,hk⟩=>⟨y,List.mem_flatMap.2 ⟨_,Ec hjx,hy⟩,hk⟩⟩;rw[BJ,aI hil,uz];exact cm hlt
   have parts: ∀(fs:List (Nat×TypeId)) (off:Nat),(∀(j:Nat) (p:Nat×TypeId),fs[j]?=some p→ ∃q:List TC,zG C.tt p.2 q∧q.length=(C.tt p.2).size∧ ∀(i:Nat) (c:TC),q[i]?=some c→ ∃u,cs[p.1+i]?=some u∧aB w (Rp (xs.flatMap (·.2))) .snap Pw c u)→
    ah7 C.tt off fs (C.tt t).size=true→ ∃ps:List (List TC),ps.length=fs.length∧(∀(j:Nat) (p:Nat×TypeId) (q:List TC),fs[j]?=some p→ps[j]?=some q→zG C.tt p.2 q)∧off+ps.flatten.length=(C.tt t).size∧
     ∀(i:Nat) (c:TC),ps.flatten[i]?=some c→ ∃u,cs[off+i]?=some u∧aB w (Rp (xs.flatMap (·.2))) .snap Pw c u:=by
    intro fs
    induction fs with
    |nil=>intro off _ hc;exact⟨[],rfl,fun j p q h=>by simp at h,ki hc,fun i c h=>by simp at h⟩
    |cons f r ih=>
     intro off he hc;obtain⟨o,ft⟩:=f;simp only[ah7] at hc
     split at hc
     ·rename_i hoff
      have hoff:=ki hoff;subst hoff;obtain⟨q,q1,q2,q3⟩:=he 0 _ rfl;simp only at q1 q2 q3;obtain⟨ps,p1,p2,p3,p4⟩:=ih _ (fun j p hj=>he (j+1) p (by simpa using hj)) hc;refine⟨q::ps,by simp[p1],fun j p q' h1 h2=> ?_,by rw[Aq,cG,q2];omega,fun i c hi=> ?_⟩
      ·cases j with
       |zero=>simp only[gG,aY] at h1 h2;subst h1 h2;exact q1
       |succ j=>exact p2 j p q' (by simpa using h1) (by simpa using h2)
      ·rw[Aq] at hi
       by_cases hlt:i<q.length
       ·rw[nv hlt] at hi;exact q3 i c hi
       ·rw[pO ay] at hi
        obtain⟨u,u1,u2⟩:=p4 _ c hi;exact⟨u,by rw[←u1];congr 1;omega,u2⟩
     ·cases hc
   obtain⟨ps,p1,p2,p3,p4⟩:=parts fs 0 each hc;refine⟨ps.flatten,.struct ht ps p1 p2,by omega,fun j c v h1 h2=> ?_⟩;obtain⟨u,u1,u2⟩:=p4 j c h1;rw[ny,h2] at u1
   cases u1
   exact u2
  |ptr e=>rw[ht] at h;cases h
  |other=>rw[ht] at h;cases h
end
end Go.T
namespace Go.T
open Go.RowKit
variable {C : pU} {w w' : World}
inductive WfV (tt:TypeId→nS) (t:TypeId):TV→Prop
 |c {c:TC} (h: ∀fs,(tt t).ti≠ .struct fs) (hw:zG tt t [c]):WfV tt t (.c c)
 |ag {fs:List (Nat×TypeId)} {cs:List TC} (h:(tt t).ti= .struct fs) (hw:zG tt t cs):WfV tt t (.ag cs)
inductive aee (tt:TypeId→nS):List TypeId→List TV→Prop
 |nil:aee tt [] []
 |cons {t:TypeId} {ts:List TypeId} {v:TV} {vs:List TV} (h:WfV tt t v) (hs:aee tt ts vs):aee tt (t::ts) (v::vs)
def okP (tt:TypeId→nS) (m:Nat) (t:TypeId):Bool:=okT tt m t&&Nat.ble (tt t).size 16
section
variable {H : Type} {enc : TypeId × Value → H}
theorem aj9 (hT:iO C) {m:Nat} {t:TypeId} {v:Value} {d:DataW H} {p:List MemPlace} {base:Nat} (ht:okP C.tt m t=true) (hv:Value.okWide C.P w .any base t v)
 (hd:DataW.Trod enc C.P w 0 (fun _=>true) true t v d p) (hwt:(d.weights C.P t).all (· ≤reachBytes)=true):
 ∃tv,WfV C.tt t tv∧BP tv=true∧ ∀BB:Nat→Prop,En w .borrow (Rp p) BB (fun _ _=>False) (fun _=>False) tv v:=by
 unfold okP at ht;simp only[eY] at ht;obtain⟨hok,hsz⟩:=ht;obtain⟨fuel,hf⟩:=hd;obtain⟨tcs,h1,h2,h3⟩:=PZ hT m t fuel _ _ hok hf hwt;have hk:=PY hok;have hlen:=zG.len hT m t tcs hok h1;have aaE:=(hT t hk).desc
 have one:(∀fs,(C.tt t).ti≠ .struct fs)→v.cells= #[v]→ ∃tv,WfV C.tt t tv∧BP tv=true∧ ∀BB:Nat→Prop,En w .borrow (Rp p) BB (fun _ _=>False) (fun _=>False) tv v:=by
  intro hn hc;rw[hc] at h2 h3
  match tcs,h1,h2,h3 with
  |[c],h1,h2,h3=>exact⟨.c c,.c hn h1,rfl,fun BB=>h3 0 c v rfl rfl⟩
 cases hti:(C.tt t).ti with
 |int k=>
  rw[hti] at aaE;obtain⟨n,rfl⟩:=WideShapes.okWide_int aaE hv;exact one (fun fs e=>by rw[hti] at e;cases e) rfl
 |bool=>
  rw[hti] at aaE;obtain⟨n,rfl⟩:=WideShapes.okWide_bool aaE hv;exact one (fun fs e=>by rw[hti] at e;cases e) rfl
 |str=>
  rw[hti] at aaE;obtain⟨n,rfl⟩:=WideShapes.okWide_string aaE hv;exact one (fun fs e=>by rw[hti] at e;cases e) rfl
 |slice e=>
  rw[hti] at aaE;obtain⟨a,l,c,rfl⟩:=WideShapes.okWide_slice aaE.1 hv;exact one (fun fs e=>by rw[hti] at e;cases e) rfl
 |struct fs=>
  rw[hti] at aaE;obtain⟨fields,hu,_⟩:=aaE;simp only[Value.okWide,hu] at hv;obtain⟨cs,rfl,hcs,_⟩:=hv;refine⟨.ag tcs,.ag hti h1,?_,fun BB=>⟨cs,rfl,?_,fun j c hj=> ?_⟩⟩
  ·simp only[BP,hlen];exact hsz
  ·rw[h2];simp[Value.cells]
  ·have hjl:j<cs.size:=by
    have:=(List.getElem?_eq_some_iff.1 hj).1;rw[h2] at this;simpa [Value.cells] using this
   exact⟨cs[j],zx hjl,h3 j c _ hj (by simp[Value.cells,hjl])⟩
 |ptr e=>
  cases m with
  |zero=>cases hok
  |succ m=>unfold okT at hok;rw[hti] at hok;cases hok
 |other=>
  cases m with
  |zero=>cases hok
  |succ m=>unfold okT at hok;rw[hti] at hok;cases hok
def Vz (v:TV):Prop:=match v with| .c _=>True| .ag _=>True|_=>False
theorem En.mono {w:World} {R R' BB:Nat→Prop} {v:TV} {x:Value} (hR: ∀k,R k→R' k) (h:En w .borrow R BB (fun _ _=>False) (fun _=>False) v x) (hn:Vz v):
 En w .borrow R' BB (fun _ _=>False) (fun _=>False) v x:=by
 cases v with
 |c c=>exact aB.uC h hR
 |ag cs=>
  obtain⟨xs,h1,h2,h3⟩:=h;exact⟨xs,h1,h2,fun j c hj=>by obtain⟨u,u1,u2⟩:=h3 j c hj;exact⟨u,u1,u2.uC hR⟩⟩
 |_=>exact hn.elim
theorem WfV.plain {tt:TypeId→nS} {t:TypeId} {v:TV} (h:WfV tt t v):Vz v:=by
 cases h<;>trivial
theorem abb (hT:iO C) {m base:Nat}: ∀(ts:List TypeId) (xs:List Value) (ds:List (DataW H)) (ps:List MemPlace),DataW.TrodAll enc C.P w 0 (fun _=>true) true ts xs ds ps→ts.all (okP C.tt m)=true→
 (∀(j:Nat) (t:TypeId) (v:Value),ts[j]?=some t→xs[j]?=some v→Value.okWide C.P w .any base t v)→(DataW.weightsEach C.P ts ds).all (· ≤reachBytes)=true→
 ∃vs,aee C.tt ts vs∧vs.length=ts.length∧xs.length=ts.length∧uT vs=true∧ ∀(i:Nat) (v:TV),vs[i]?=some v→ ∃x,xs[i]?=some x∧ ∀BB:Nat→Prop,En w .borrow (Rp ps) BB (fun _ _=>False) (fun _=>False) v x
 |[],xs,ds,ps,h,_,_,_=>by
  obtain⟨rfl,rfl,rfl⟩:=ChangeShapes.trodAll_nil h;exact⟨[],.nil,rfl,rfl,rfl,fun i v hi=>by simp at hi⟩
 |t::ts,xs,ds,ps,h,ho,hv,hw=>by
  obtain⟨x,xs',d,ds',p,q,rfl,rfl,rfl,h1,h2⟩:=ChangeShapes.trodAll_cons h;simp only[qq,eY] at ho;simp only[DataW.weightsEach,List.all_append,eY] at hw;obtain⟨tv,a1,a2,a3⟩:=aj9 hT ho.1 (hv 0 t x rfl rfl) h1 hw.1;obtain⟨vs,b1,b2,b3,b4,b5⟩:=abb hT ts xs' ds' q h2 ho.2 (fun j t v hj hv'=>hv (j+1) t v (by simpa using hj) (by simpa using hv')) hw.2;refine⟨tv::vs,.cons a1 b1,by simp[b2],by simp[b3],by simp[uT,a2,b4],fun i v hi=> ?_⟩
  cases i with
  |zero=>
   simp only[gG,aY] at hi;subst hi;exact⟨x,rfl,fun BB=>(a3 BB).mono (fun k ⟨y,hy,hk⟩=>⟨y,mg _ hy,hk⟩) a1.plain⟩
  |succ i=>
   simp only[yx] at hi;obtain⟨x',c1,c2⟩:=b5 i v hi
   have hpl:Vz v:=by
    have: ∀(ts:List TypeId) (vs:List TV),aee C.tt ts vs→ ∀(i:Nat) (v:TV),vs[i]?=some v→Vz v:=by
     intro ts vs h
     induction h with
     |nil=>intro i v hi;simp at hi
     |cons h hs ih=>
      intro i v hi
      cases i with
      |zero=>simp only[gG,aY] at hi;subst hi;exact h.plain
      |succ i=>exact ih i v (by simpa using hi)
    exact this _ _ b1 i v hi
   exact⟨x',by simpa using c1,fun BB=>(c2 BB).mono (fun k ⟨y,hy,hk⟩=>⟨y,r9 _ hy,hk⟩) hpl⟩
theorem ah8 (hC:aec C) {f:FuncId} {ts:List TypeId} {m base:Nat} {W:World} {args:Array Value} {ds:List (DataW H)} {ps:List MemPlace}
 (hA:DataW.TrodAll enc C.P W 0 (fun _=>true) true ts args.toList ds ps) (ho:ts.all (okP C.tt m)=true)
 (hv: ∀(j:Nat) (t:TypeId) (v:Value),ts[j]?=some t→args[j]?=some v→Value.okWide C.P W .any base t v) (hw:(DataW.weightsEach C.P ts ds).all (· ≤reachBytes)=true)
 (hps:(C.sig f).ps=ts.map fun _=> .borrow) (hn:ts.length≤50)
 (law: ∀vs,aee C.tt ts vs→ ∃k,lJ C k f vs (.c (.sc (.bool true))) []):
 Calls C.P f args W fun e W'=>e= .returned (.bool true)∧Below W.heap.size W W':=by
 have hlt: ∀(ts:List TypeId) (xs:List Value) (ds:List (DataW H)) (ps:List MemPlace),DataW.TrodAll enc C.P W 0 (fun _=>true) true ts xs ds ps→ ∀x∈ps,x.block<W.heap.size:=by
  intro ts
  induction ts with
  |nil=>intro xs ds ps h x hx;obtain⟨_,_,rfl⟩:=ChangeShapes.trodAll_nil h;cases hx
  |cons t ts ih=>
   intro xs ds ps h x hx;obtain⟨_,_,_,_,p,q,_,_,rfl,⟨n,h1⟩,h2⟩:=ChangeShapes.trodAll_cons h;rcases List.mem_append.1 hx with hx|hx
   ·exact DataW.trod_lt n _ _ _ h1 x hx
   ·exact ih _ _ _ h2 x hx
 obtain⟨vs,v1,v2,v3,v4,v5⟩:=abb hC.ty ts args.toList ds ps hA ho (fun j t v h1 h2=>hv j t v h1 (by simpa using h2)) hw;obtain⟨k,hk⟩:=law vs v1
 have hargs:abY W (C.sig f).ps vs args.toList (Rp ps) (fun _=>False) (fun _ _ _=>False) (fun _ _=>False):=by
  refine⟨fun i v hi=> ?_,?_,fun i j k h=>h.elim,fun i k h=>h.elim,fun k ⟨x,hx,hk⟩=>hk▸hlt _ _ _ _ hA x hx,fun k h=>h.elim⟩
  ·obtain⟨x,x1,x2⟩:=v5 i v hi
   refine⟨x,x1,?_⟩
   have:(C.sig f).ps.getD i .borrow= .borrow:=by
    rw[hps,wL,me]
    cases ts[i]?<;>rfl
   rw[this];exact x2 _
  ·unfold As
   rw[show Nat.ble vs.length 50=true from VK ay];exact v4
 have:=(aed hC k f vs _ _ hk).calls W args.toList _ _ _ _ hargs (by rw[hps];simp[v3]);refine Calls.mono this fun e W' ⟨v,he,hp⟩=> ?_;subst he;obtain⟨hf,I,X,ri,fi,hb,hr,_⟩:=hp;obtain⟨Jg,Yu⟩:=hr;refine⟨?_,hf.os,hf.tape,hf.output,hf.size,fun k hk=>hf.block k hk (by rintro(⟨_,_,h⟩|⟨_,h⟩)<;>exact h)⟩;have h1:=Jg.2.2.2 (by decide);rw[h1] at Yu;have h0:=hb.ok 0 _ (by rw[Yu];rfl)
 cases h0
 rfl
end
end Go.T
namespace Go.T
def abc (C:pU) (f:Nat) (fn:Func):Bool:= !(fn.name== "runtime.NumGoroutine")&&match fn.body with
 |none=>true
 |some c=>yE fn.ntmps c&&Ja C f c
def aef (C:pU):Nat→List Func→Bool
 |_,[]=>true
 |f,fn::r=>abc C f fn&&aef C (f+1) r
theorem abd {C:pU}: ∀{f:Nat} {l:List Func},aef C f l=true→ ∀(i:Nat) (fn:Func),l[i]?=some fn→abc C (f+i) fn=true
 |f,[],_,i,fn,h=>by simp at h
 |f,fn'::r,h,i,fn,hi=>by
  simp only[aef,eY] at h
  cases i with
  |zero=>simp only[gG,aY] at hi;subst hi;exact h.1
  |succ i=>have:=abd h.2 i fn (by simpa using hi);rw[show f+(i+1)=f+1+i by omega];exact this
theorem amn {C:pU} (ty:iO C) (h:aef C 0 C.P.funcs.toList=true) (mix:C.P.follows .mixedOrders=true)
 (ext: ∀(f:FuncId) (p:List TV→Option (TV×List TV)) (vs:List TV) (r:TV) (fs:List TV),C.ext f=some p→p vs=some (r,fs)→PT C f vs r fs):aec C:=by
 have key: ∀(f:Nat) (fn:Func),C.P.funcs[f]?=some fn→abc C f fn=true:=fun f fn hf=>by
  have:=abd h f fn (by simpa using hf)
  rwa [ny] at this
 refine {ty:=ty,name:=fun f fn hf=> ?_,dst:=fun f fn c hf hc=> ?_,VD:=fun f fn c hf hc=> ?_,mix:=mix,ext:=ext}
 ·have:=key f fn hf
  unfold abc at this;simp only[eY,Gt] at this;exact this.1
 ·have:=key f fn hf
  unfold abc at this;rw[hc] at this;simp only[eY] at this;exact this.2.1
 ·have:=key f fn hf
  unfold abc at this;rw[hc] at this;simp only[eY] at this;exact this.2.2
end Go.T
namespace Go.T
variable {C : pU}
def ai (C:pU) (f:FuncId) (vs:List TV) (r:TV) (fs:List TV):Prop:= ∃k,lJ C k f vs r fs
def SH (C:pU) (fx:List Nat):Nat→Lp
 |0=>fun _ _ _ _ _=>False
 |n+1=>fun f i c st Q=> ∃k m x st',PF C k fx n f i c m st x st'∧Q x st'
def aV (C:pU) (f:FuncId) (vs:List TV) (Q:TV→List TV→Prop):Prop:= ∃r fs,ai C f vs r fs∧Q r fs
theorem N1 {R:Type} {k k':Nat} (hk:k≤k') {fx:List Nat} {n:Nat} {Q:R→Prop} {e:Ev R} (h:e.holds (lJ C k) (lpN C (lJ C k) k fx n) Q):e.holds (lJ C k') (lpN C (lJ C k') k' fx n) Q:=
 ia (fun _ _ _ _ h=>qA hk h) (uU (fun _ _ _ _ h=>qA hk h) hk n) (fun _ h=>h) e h
theorem PF.up {k k' m m':Nat} (hk:k≤k') (hm:m≤m') {fx:List Nat} {n f i:Nat} {c:Code} {st st':TS} {x:TX} (h:PF C k fx n f i c m st x st'):PF C k' fx n f i c m' st x st':=
 K3 (fun _ _ _ _ h=>qA hk h) (uU (fun _ _ _ _ h=>qA hk h) hk n) (fun _ _ h=>h) m m' hm st h
theorem rN {R:Type} {fx:List Nat} {n:Nat} {Q:R→Prop}: ∀(e:Ev R),e.holds (ai C) (SH C fx n) Q→ ∃k r,e.holds (lJ C k) (lpN C (lJ C k) k fx n) (fun r'=>r'=r)∧Q r
 | .fail,h=>h.elim
 | .ret r,h=>⟨0,r,rfl,h⟩
 | .test b k,h=>rN (k b) h
 | .row rows i k,⟨c,h1,h2⟩=>by
   obtain⟨k',r,h3,h4⟩:=rN (k c) h2;exact⟨k',r,⟨c,h1,h3⟩,h4⟩
 | .byte rows i k,⟨c,h1,h2⟩=>by
   obtain⟨k',r,h3,h4⟩:=rN (k c) h2;exact⟨k',r,⟨c,h1,h3⟩,h4⟩
 | .bytes rows k,⟨c,h1,h2⟩=>by
   obtain⟨k',r,h3,h4⟩:=rN (k c) h2;exact⟨k',r,⟨c,h1,h3⟩,h4⟩
 | .call f vs k,⟨r0,fs,⟨k0,h1⟩,h2⟩=>by
   obtain⟨k',r,h3,h4⟩:=rN (k r0 fs) h2;exact⟨max k0 k',r,⟨r0,fs,qA (Jk _ _) h1,N1 (Nat.le_max_right _ _) h3⟩,h4⟩
 | .loop f i c st k,h=>by
   cases n with
   |zero=>exact h.elim
   |succ n=>
    obtain⟨k0,m,x,st',h1,h2⟩:=h;obtain⟨k',r,h3,h4⟩:=rN (k x st') h2;refine⟨max (max k0 m) k',r,?_,h4⟩;have h5:=(h1.up (k':=max (max k0 m) k') (m':=max (max k0 m) k') ay ay).ok (cX _);refine uU (fun _ _ _ _ h=>h) (cX _) (n+1) _ _ _ _ _ _ (fun x1 fH hh=> ?_) h5;obtain⟨rfl,rfl⟩:=hh;exact N1 (Nat.le_max_right _ _) h3
 | .both a b,⟨r,h1,h2,h3⟩=>by
   obtain⟨k1,r1,g1,e1⟩:=rN a h1;obtain⟨k2,r2,g2,e2⟩:=rN b h2;rw[e1] at g1;rw[e2] at g2;exact⟨max k1 k2,r,⟨r,N1 (Jk _ _) g1,N1 (Nat.le_max_right _ _) g2,rfl⟩,h3⟩
theorem aV.aka {f:FuncId} {vs:List TV} {Q:TV→List TV→Prop} (h:(body C f vs).holds (ai C) (SH C (yV (C.sig f).ps 0) 4) fun p=>Q p.1 p.2) (hx:C.ext f=none:=by rfl):aV C f vs Q:=by
 obtain⟨k,⟨r,fs⟩,h1,h2⟩:=rN _ h;exact⟨r,fs,⟨k+1,afE hx h1⟩,h2⟩
theorem ai.ext {f:FuncId} {vs:List TV} {r:TV} {fs:List TV} {p:List TV→Option (TV×List TV)} (hx:C.ext f=some p) (h:p vs=some (r,fs)):ai C f vs r fs:=⟨1,ahO hx h⟩
theorem SH.round {fx:List Nat} {n f i:Nat} {c:Code} {st:TS} {Q:TX→TS→Prop} (h:(run C fx f i c st VS).holds (ai C) (SH C fx n) fun p=>match p with
 |(.norm,st')=>fTS (adz (C.lb f i) st') fun st'=>SH C fx (n+1) f i c st' Q
 |(x,st')=>Q x st'):SH C fx (n+1) f i c st Q:=by
 obtain⟨k,⟨x,fH⟩,h1,h2⟩:=rN _ h
 cases x with
 |norm=>
  simp only at h2;rw[xO] at h2;obtain⟨k0,m,x,st',h3,h4⟩:=h2;refine⟨max k k0,m+1,x,st',?_,h4⟩;have h5:=h3.up (k':=max k k0) (m':=m) (Nat.le_max_right _ _) (cX _);refine ia (fun _ _ _ _ h=>qA (Jk _ _) h) (uU (fun _ _ _ _ h=>qA (Jk _ _) h) (Jk _ _) n) (fun r hr=> ?_) _ h1;subst hr;simp only;rw[xO];exact h5
 |ex id=>exact⟨k,1,.ex id,fH,ia (fun _ _ _ _ h=>h) (uU (fun _ _ _ _ h=>h) (cX _) n) (fun r hr=>by subst hr;exact⟨rfl,rfl⟩) _ h1,h2⟩
 |ret=>exact⟨k,1,.ret,fH,ia (fun _ _ _ _ h=>h) (uU (fun _ _ _ _ h=>h) (cX _) n) (fun r hr=>by subst hr;exact⟨rfl,rfl⟩) _ h1,h2⟩
theorem SH.mono {fx:List Nat} {n f i:Nat} {c:Code} {st:TS} {Q Q':TX→TS→Prop} (hQ: ∀x s,Q x s→Q' x s) (h:SH C fx n f i c st Q):SH C fx n f i c st Q':=by
 cases n with
 |zero=>exact h.elim
 |succ n=>obtain⟨k,m,x,st',h1,h2⟩:=h;exact⟨k,m,x,st',h1,hQ _ _ h2⟩
inductive Sh where
 |int (k:IntKind)|bool|str|sub (z:Nat)
inductive Eu where
 |c (s:Sh)|ag (l:List Sh)|tu (l:List (Nat×List Sh))|bx (l:List Sh)
inductive Hint where
 |z|br (a b:Hint)|both (a b:Hint)|nest (a b:Hint)|row (l:List Sh) (h:Hint)|call (r:Eu) (fs:List Eu) (h:Hint)|n (h:Hint)
def exC:Sh→(TC→Prop)→Prop
 | .int k,P=> ∃n:Int,P (.sc (.int k n))
 | .bool,P=> ∃b:Bool,P (.sc (.bool b))
 | .str,P=> ∃s:ByteArray,P (.sc (.string s))
 | .sub z,P=> ∃rows:List (List TC),P (.sub z rows)
def ah9:List Sh→(List TC→Prop)→Prop
 |[],P=>P []
 |s::r,P=>exC s fun c=>ah9 r fun cs=>P (c::cs)
def exT:List (Nat×List Sh)→(List (Nat×List TC)→Prop)→Prop
 |[],P=>P []
 |(a,s)::r,P=>ah9 s fun c=>exT r fun cs=>P ((a,c)::cs)
def exV:Eu→(TV→Prop)→Prop
 | .c s,P=>exC s fun c=>P (.c c)
 | .ag l,P=>ah9 l fun c=>P (.ag c)
 | .tu l,P=>exT l fun c=>P (.tu c)
 | .bx l,P=>ah9 l fun c=>P (.bx c)
def aoK:List Eu→(List TV→Prop)→Prop
 |[],P=>P []
 |s::r,P=>exV s fun c=>aoK r fun cs=>P (c::cs)
theorem akb: ∀{s:Sh} {P:TC→Prop},exC s P→ ∃c,P c
 | .int _,_,⟨_,h⟩=>⟨_,h⟩
 | .bool,_,⟨_,h⟩=>⟨_,h⟩
 | .str,_,⟨_,h⟩=>⟨_,h⟩
 | .sub _,_,⟨_,h⟩=>⟨_,h⟩
theorem N2: ∀{l:List Sh} {P:List TC→Prop},ah9 l P→ ∃c,P c
 |[],_,h=>⟨_,h⟩
 |_::_,_,h=>by obtain⟨c,h⟩:=akb h;obtain⟨cs,h⟩:=N2 h;exact⟨_,h⟩
theorem akc: ∀{l:List (Nat×List Sh)} {P:List (Nat×List TC)→Prop},exT l P→ ∃c,P c
 |[],_,h=>⟨_,h⟩
 |(_,_)::_,_,h=>by obtain⟨c,h⟩:=N2 h;obtain⟨cs,h⟩:=akc h;exact⟨_,h⟩
theorem akd: ∀{s:Eu} {P:TV→Prop},exV s P→ ∃c,P c
 | .c _,_,h=>by obtain⟨c,h⟩:=akb h;exact⟨_,h⟩
 | .ag _,_,h=>by obtain⟨c,h⟩:=N2 h;exact⟨_,h⟩
 | .tu _,_,h=>by obtain⟨c,h⟩:=akc h;exact⟨_,h⟩
 | .bx _,_,h=>by obtain⟨c,h⟩:=N2 h;exact⟨_,h⟩
theorem ahq: ∀{l:List Eu} {P:List TV→Prop},aoK l P→ ∃c,P c
 |[],_,h=>⟨_,h⟩
 |_::_,_,h=>by obtain⟨c,h⟩:=akd h;obtain⟨cs,h⟩:=ahq h;exact⟨_,h⟩
def aq (b:Bool) (A B:Prop):Prop:=match b with|true=>A|false=>B
def Ev.pre {R:Type} (cf:Cf) (lp:Lp) (Q:R→Prop):Ev R→Hint→Prop
 | .fail,_=>False
 | .ret r,_=>Q r
 | .test b k,h=>match h with| .br h1 h2=>aq b ((k true).pre cf lp Q h1) ((k false).pre cf lp Q h2)|_=>False
 | .row rows i k,h=>match h with| .row l h=>ah9 l fun c=>rowAt rows i=some c∧(k c).pre cf lp Q h|_=>False
 | .byte s i k,h=>match h with| .n h=> ∃b,xM s i=some b∧(k b).pre cf lp Q h|_=>False
 | .bytes rows k,h=>match h with| .n h=> ∃ns,wP rows=some ns∧(k ns).pre cf lp Q h|_=>False
 | .call f vs k,h=>match h with| .call r fs h=>exV r fun r=>aoK fs fun fs=>cf f vs r fs∧(k r fs).pre cf lp Q h|_=>False
 | .loop f i c st k,_=>lp f i c st fun x st'=>(k x st').holds cf lp Q
 | .both a b,h=>match h with| .both h1 h2=> ∃r,a.pre cf lp (fun r'=>r'=r) h1∧b.pre cf lp (fun r'=>r'=r) h2∧Q r| .nest h1 h2=>a.pre cf lp (fun r=>b.pre cf lp (fun r'=>r'=r) h2∧Q r) h1|_=>False
theorem xX {R:Type} {fx:List Nat} {n:Nat} {Q:R→Prop}: ∀(e:Ev R),e.holds (ai C) (SH C fx n) Q→ ∃r,e.holds (ai C) (SH C fx n) (fun r'=>r'=r)∧Q r
 | .fail,h=>h.elim
 | .ret r,h=>⟨r,rfl,h⟩
 | .test b k,h=>xX (k b) h
 | .row rows i k,⟨c,h1,h2⟩=>by obtain⟨r,h3,h4⟩:=xX (k c) h2;exact⟨r,⟨c,h1,h3⟩,h4⟩
 | .byte rows i k,⟨c,h1,h2⟩=>by obtain⟨r,h3,h4⟩:=xX (k c) h2;exact⟨r,⟨c,h1,h3⟩,h4⟩
 | .bytes rows k,⟨c,h1,h2⟩=>by obtain⟨r,h3,h4⟩:=xX (k c) h2;exact⟨r,⟨c,h1,h3⟩,h4⟩
 | .call f vs k,⟨r0,fs,h1,h2⟩=>by obtain⟨r,h3,h4⟩:=xX (k r0 fs) h2;exact⟨r,⟨r0,fs,h1,h3⟩,h4⟩
 | .loop f i c st k,h=>by
   cases n with
   |zero=>exact h.elim
   |succ n=>
    obtain⟨k0,m,x,st',h1,h2⟩:=h;obtain⟨r,h3,h4⟩:=xX (k x st') h2;exact⟨r,⟨k0,m,x,st',h1,h3⟩,h4⟩
 | .both a b,⟨r,h1,h2,h3⟩=>⟨r,⟨r,h1,h2,rfl⟩,h3⟩
theorem wU {R:Type} {fx:List Nat} {n:Nat} {Q:R→Prop}: ∀(e:Ev R) (h:Hint),e.pre (ai C) (SH C fx n) Q h→e.holds (ai C) (SH C fx n) Q
 | .fail,_,h=>h
 | .ret r,_,h=>h
 | .test b k,.br h1 h2,h=>by
   cases b
   ·exact wU (k false) h2 h
   ·exact wU (k true) h1 h
 | .row rows i k,.row l hh,h=>by obtain⟨c,h1,h2⟩:=N2 h;exact⟨c,h1,wU _ _ h2⟩
 | .byte s i k,.n hh,⟨b,h1,h2⟩=>⟨b,h1,wU _ _ h2⟩
 | .bytes s k,.n hh,⟨b,h1,h2⟩=>⟨b,h1,wU _ _ h2⟩
 | .call f vs k,.call r fs hh,h=>by obtain⟨r,h⟩:=akd h;obtain⟨fs,h1,h2⟩:=ahq h;exact⟨r,fs,h1,wU _ _ h2⟩
 | .loop f i c st k,_,h=>h
 | .both a b,.both ha hb,⟨r,h1,h2,h3⟩=>⟨r,wU a ha h1,wU b hb h2,h3⟩
 | .both a b,.nest ha hb,h=>by
   obtain⟨r,h1,h2,h3⟩:=xX a (wU a ha h);exact⟨r,h1,wU b hb h2,h3⟩
inductive fJ where
 |l|r|b
def af9:Code→List fJ→Code
 |c,[]=>c
 | .seq a b,d::p=>match d with| .l=>af9 a p|_=>af9 b p
 | .cond _ a b,d::p=>match d with| .l=>af9 a p|_=>af9 b p
 | .block _ a,_::p=>af9 a p
 | .loop a,_::p=>af9 a p
 |c,_=>c
def anS (C:pU) (f:FuncId):Code:=match C.P.funcs[f]? with
 |none=> .skip
 |some fn=>match fn.body with
  |none=> .skip
  |some c=>c
def ase (C:pU) (f:FuncId):List ResultVar:=match C.P.funcs[f]? with
 |none=>[]
 |some fn=>fn.results.toList
def ace (C:pU) (f:FuncId) (p:List fJ):Code:=match af9 (anS C f) p with
 | .loop c=>c
 |c=>c
def after (C:pU) (fx:List Nat) (f:FuncId) {R:Type}:Nat→Code→List fJ→(TX→TS→Ev R)→(TX→TS→Ev R)
 |i,.seq a b,d::p,K=>match d with
  | .l=>after C fx f i a p fun x st'=>match x with
    | .norm=>run C fx f i b st' K
    |x=>K x st'
  |_=>after C fx f i b p K
 |i,.cond _ a b,d::p,K=>match d with
  | .l=>after C fx f i a p K
  |_=>after C fx f i b p K
 |_,.block id a,_::p,K=>after C fx f id a p fun x st'=>match x with
  | .ex id'=>match Nat.beq id' id with|true=>K .norm st'|false=>K (.ex id') st'
  |x=>K x st'
 |_,_,_,K=>K
abbrev fxs (C:pU) (f:FuncId):List Nat:=yV (C.sig f).ps 0
def ake (C:pU) (f:FuncId) (p:List fJ):TX→TS→Ev (TV×List TV):=after C (fxs C f) f 0 (anS C f) p (ajj C (C.sig f) (ase C f))
def akf (C:pU) (f:FuncId) (p:List fJ) (i:Nat) (q:List fJ):TX→TS→Ev (TX×TS):=after C (fxs C f) f i (ace C f p) q VS
def aa (C:pU) (f:FuncId) (p:List fJ) (n i:Nat) (st:TS) (Q:TX→TS→Prop):Prop:=SH C (fxs C f) n f i (ace C f p) st Q
def ax (C:pU) (f:FuncId) (p:List fJ) (x:TX) (st:TS) (Q:TV→List TV→Prop):Prop:=(ake C f p x st).holds (ai C) (SH C (fxs C f) 4) fun p=>Q p.1 p.2
def akg (C:pU) (f:FuncId) (p:List fJ) (n i:Nat) (Q:TX→TS→Prop):TX×TS→Prop
 |(.norm,st')=>fTS (adz (C.lb f i) st') fun st'=>aa C f p n i st' Q
 |(x,st')=>Q x st'
def qD (C:pU) (f:FuncId) (p:List fJ) (n i:Nat) (q:List fJ) (x:TX) (st:TS) (Q:TX→TS→Prop):Prop:=(akf C f p i q x st).holds (ai C) (SH C (fxs C f) (n-1)) (akg C f p n i Q)
theorem aqx {f:FuncId} {vs:List TV} {Q:TV→List TV→Prop} {Φ:Prop} (h:Hint) (e:(body C f vs).pre (ai C) (SH C (fxs C f) 4) (fun p=>Q p.1 p.2) h=Φ) (hΦ:Φ) (hx:C.ext f=none:=by rfl):aV C f vs Q:=
 aV.aka (wU _ h (e▸hΦ)) hx
theorem aoL {f:FuncId} {p:List fJ} {x:TX} {st:TS} {Q:TV→List TV→Prop} {Φ:Prop} (h:Hint) (e:(ake C f p x st).pre (ai C) (SH C (fxs C f) 4) (fun p=>Q p.1 p.2) h=Φ) (hΦ:Φ):ax C f p x st Q:=
 wU _ h (e▸hΦ)
theorem amo {f:FuncId} {p q:List fJ} {n i:Nat} {x:TX} {st:TS} {Q:TX→TS→Prop} {Φ:Prop} (h:Hint) (e:(akf C f p i q x st).pre (ai C) (SH C (fxs C f) (n-1)) (akg C f p n i Q) h=Φ) (hΦ:Φ):qD C f p n i q x st Q:=
 wU _ h (e▸hΦ)
theorem aoM {f:FuncId} {p:List fJ} {n i:Nat} {st:TS} {Q:TX→TS→Prop} {Φ:Prop} (h:Hint) (e:(run C (fxs C f) f i (ace C f p) st VS).pre (ai C) (SH C (fxs C f) n) (akg C f p (n+1) i Q) h=Φ) (hΦ:Φ):aa C f p (n+1) i st Q:=by
 refine SH.round ?_;have:=wU _ h (e▸hΦ);exact ia (fun _ _ _ _ h=>h) (fun f i c st Q Q' hQ hh=>hh.mono hQ) (fun r hr=>by obtain⟨x,st'⟩:=r;cases x<;>exact hr) _ this
theorem aV.run {f:FuncId} {vs:List TV} {r:TV} {fs:List TV} (h:aV C f vs fun r' fs'=>r'=r∧fs'=fs):ai C f vs r fs:=by
 obtain⟨r',fs',h1,rfl,rfl⟩:=h;exact h1
end Go.T
namespace Go.T
@[simp] theorem lg {A B:Prop}:aq true A B=A:=rfl
@[simp] theorem lM {A B:Prop}:aq false A B=B:=rfl
@[simp] theorem bU {b:Bool} {A B:Prop}:aq (!b) A B=aq b B A:=by cases b<;>rfl
@[simp] theorem fA {a b:Bool} {A B:Prop}:aq (a&&b) A B=aq a (aq b A B) B:=by cases a<;>rfl
@[simp] theorem g7 {a b:Bool} {A B:Prop}:aq (a||b) A B=aq a A (aq b A B):=by cases a<;>rfl
@[simp] theorem bJ {p:Prop} [Decidable p] {A B:Prop}:aq (decide p) A B=if p then A else B:=by
  by_cases h:p<;>simp[h]
theorem ah {b:Bool} {A B:Prop} (h:b=true) (hA:A):aq b A B:=by subst h;exact hA
theorem an {b:Bool} {A B:Prop} (h:b=false) (hB:B):aq b A B:=by subst h;exact hB
theorem td {b:Bool} {A B:Prop} (hA:b=true→A) (hB:b=false→B):aq b A B:=by cases b;exact hB rfl;exact hA rfl
@[simp] theorem dm (a b:Int):bL a b=decide (a<b):=by unfold bL;rfl
@[simp] theorem gl (a b:Int):ng a b=decide (a≤b):=by unfold ng;rfl
@[simp] theorem bE (a b:Int):cq a b=decide (a=b):=by unfold cq;by_cases h:a=b<;>simp[h]
@[simp] theorem Wt (a b:Bool):eqB a b=decide (a=b):=by unfold eqB;cases a<;>cases b<;>rfl
theorem aia {a b:ByteArray} (h:a.toList=b.toList):a=b:=by
 rw[ByteArray.toList_eq,ByteArray.toList_eq] at h;obtain⟨⟨x⟩⟩:=a;obtain⟨⟨y⟩⟩:=b;simp only at h;rw[h]
@[simp] theorem FV (a b:ByteArray):uB a b=decide (a=b):=by
  unfold uB
  by_cases h:a=b
  ·subst h;simp
  ·have:a.toList≠b.toList:=fun e=>h (aia e)
   simp[h,this]
@[simp] theorem amp (n b:Nat):fits n b=decide (n*b≤140737488355328∧n≤140737488355328):=by unfold fits;rfl
@[simp] theorem B3 (n:Int):sQ n=n.toNat:=by unfold sQ;rfl
@[simp] theorem amq (a b:Int):DF a b=if b<a then b else a:=by unfold DF;rfl
theorem amr {a b:Int} (h: -9223372036854775808≤a+b∧a+b≤9223372036854775807):afu .i64 a b=a+b:=by unfold afu;exact IntWalk.i64_in _ h
theorem ams {a b:Int} (h: -9223372036854775808≤a-b∧a-b≤9223372036854775807):VM .i64 a b=a-b:=by unfold VM;exact IntWalk.i64_in _ h
theorem amt {a b:Int} (h: -9223372036854775808≤a*b∧a*b≤9223372036854775807):afv .i64 a b=a*b:=by unfold afv;exact IntWalk.i64_in _ h
@[simp] theorem amu (a b:Int):DG a b=a.tmod b:=by unfold DG;rfl
theorem abe (l:List (List TC)) (i:Nat):rowAt l (i:Int)=l[i]?:=by
 unfold rowAt;rw[aI (Int.natCast_nonneg i),lY]
theorem dg {α:Type} {e:α→List TC} {l:List α} {i:Nat} {a:α} (h:l[i]?=some a):rowAt (l.map e) (i:Int)=some (e a):=by
 rw[abe,me,h];rfl
theorem Wu (l:List (List TC)) (i f:Nat) (cs:List TC) {r:List TC} (h:l[i]?=some r):setRow l (i:Int) f cs=l.set i (r.take f++cs++r.drop (f+cs.length)):=by
 unfold setRow;rw[lY,h]
theorem Ml {α:Type} {e:α→List TC} {l:List α} {i:Nat} {a a':α} {f:Nat} {cs:List TC} (h:l[i]?=some a) (he:(e a).take f++cs++(e a).drop (f+cs.length)=e a'):setRow (l.map e) (i:Int) f cs=(l.set i a').map e:=by
 rw[Wu (r:=e a) _ _ _ _ (by rw[me,h];rfl),he,List.map_set]
theorem aeg {α:Type} {e:α→List TC} {l:List α} {i k:Nat} {a:α} {z cs:List TC} (h:l[i]?=some a) (he:cs=e a) (hz:z.length=cs.length):setRow ((l.take i).map e++List.replicate (k+1) z) (i:Int) 0 cs=(l.take (i+1)).map e++List.replicate k z:=by
 have hi:i<l.length:=(List.getElem?_eq_some_iff.1 h).1
 have hl:((l.take i).map e).length=i:=by simp;omega
 rw[Wu (r:=z) _ _ _ _ (by rw[pO ay,hl];simp)];rw[List.take_zero,xI,ny,←hz,ew,qt];rw[List.set_append_right _ _ ay,hl,qU,List.replicate_succ,List.set_cons_zero];rw[List.take_add_one,h];simp[he]
theorem akh {α:Type} {e:α→List TC} {l:List α} {i k:Nat} {z:List TC} (hi:i≤l.length):rowAt ((l.take i).map e++List.replicate (k+1) z) (i:Int)=some z:=by
 rw[abe,pO eJ];simp[Nat.min_eq_left hi]
section
variable {C : pU}
end
section
variable {tt : TypeId → nS} {t : TypeId} {cs : List TC}
theorem zG.qE {k:IntKind} (ht:(tt t).ti= .int k) (h:zG tt t cs): ∃n,cs=[.sc (.int k n)]∧(Lit.int k n).wf=true:=by
 cases h with
 |int h1 h2=>rw[ht] at h1;cases h1;exact⟨_,rfl,h2⟩
 |bool h1=>rw[ht] at h1;cases h1
 |str h1 _=>rw[ht] at h1;cases h1
 |slice h1 _ _ _=>rw[ht] at h1;cases h1
 |struct h1 _ _ _=>rw[ht] at h1;cases h1
theorem aoN {n:Int} (h:(Lit.int .i64 n).wf=true): -9223372036854775808≤n∧n≤9223372036854775807:=by
 simp only[Lit.wf,eY,decide_eq_true_eq] at h;have h1:IntKind.i64.min= -9223372036854775808:=rfl;have h2:IntKind.i64.max=9223372036854775807:=rfl;omega
theorem zG.aeh (ht:(tt t).ti= .bool) (h:zG tt t cs): ∃b,cs=[.sc (.bool b)]:=by
 cases h with
 |int h1 h2=>rw[ht] at h1;cases h1
 |bool h1=>exact⟨_,rfl⟩
 |str h1 _=>rw[ht] at h1;cases h1
 |slice h1 _ _ _=>rw[ht] at h1;cases h1
 |struct h1 _ _ _=>rw[ht] at h1;cases h1
theorem zG.acf (ht:(tt t).ti= .str) (h:zG tt t cs): ∃s,cs=[.sc (.string s)]∧s.size≤reachBytes:=by
 cases h with
 |int h1 h2=>rw[ht] at h1;cases h1
 |bool h1=>rw[ht] at h1;cases h1
 |str h1 h2=>exact⟨_,rfl,h2⟩
 |slice h1 _ _ _=>rw[ht] at h1;cases h1
 |struct h1 _ _ _=>rw[ht] at h1;cases h1
theorem zG.wo {e:TypeId} (ht:(tt t).ti= .slice e) (h:zG tt t cs): ∃rows,cs=[.sub (tt e).size rows]∧(∀r∈rows,zG tt e r)∧rows.length*(tt e).bytes≤reachBytes:=by
 cases h with
 |int h1 h2=>rw[ht] at h1;cases h1
 |bool h1=>rw[ht] at h1;cases h1
 |str h1 h2=>rw[ht] at h1;cases h1
 |slice h1 rows h2 h3=>rw[ht] at h1;cases h1;exact⟨_,rfl,h2,h3⟩
 |struct h1 _ _ _=>rw[ht] at h1;cases h1
inductive zW (tt:TypeId→nS):List (Nat×TypeId)→List TC→Prop
 |nil:zW tt [] []
 |cons {p:Nat×TypeId} {fs:List (Nat×TypeId)} {q cs:List TC} (h:zG tt p.2 q) (hs:zW tt fs cs):zW tt (p::fs) (q++cs)
theorem zG.tf {fs:List (Nat×TypeId)} (ht:(tt t).ti= .struct fs) (h:zG tt t cs):zW tt fs cs:=by
 cases h with
 |int h1 h2=>rw[ht] at h1;cases h1
 |bool h1=>rw[ht] at h1;cases h1
 |str h1 h2=>rw[ht] at h1;cases h1
 |slice h1 rows h2 h3=>rw[ht] at h1;cases h1
 |struct h1 parts hl hf=>
  rw[ht] at h1;cases h1;clear ht
  induction fs generalizing parts with
  |nil=>cases parts with
   |nil=>exact .nil
   |cons _ _=>cases hl
  |cons p fs ih=>cases parts with
   |nil=>cases hl
   |cons q qs=>exact .cons (hf 0 p q rfl rfl) (ih qs (by simpa using hl) fun j p q h1 h2=>hf (j+1) p q (by simpa using h1) (by simpa using h2))
theorem zW.B4 (h:zW tt [] cs):cs=[]:=by cases h;rfl
theorem zW.cons_inv {p:Nat×TypeId} {fs:List (Nat×TypeId)} (h:zW tt (p::fs) cs): ∃q r,cs=q++r∧zG tt p.2 q∧zW tt fs r:=by
 cases h with
 |cons h hs=>exact⟨_,_,rfl,h,hs⟩
theorem qF {α:Type} {e:α→List TC} {W:α→Prop}: ∀{rows:List (List TC)},(∀r∈rows,∃a,r=e a∧W a)→ ∃l:List α,rows=l.map e∧ ∀a∈l,W a
 |[],_=>⟨[],rfl,fun a h=>by cases h⟩
 |r::rows,h=>by
  obtain⟨a,rfl,ha⟩:=h r (.head _);obtain⟨l,rfl,hl⟩:=qF (rows:=rows) fun r hr=>h r (.tail _ hr);refine⟨a::l,rfl,fun b hb=> ?_⟩;rcases fY.1 hb with rfl|hb
  ·exact ha
  ·exact hl b hb
end
end Go.T
namespace Go.T
open Go.RowKit
variable {C : pU}
section
variable {H : Type} {enc : TypeId × Value → H}
theorem aei {P:Program} {W W':World} (hl:laidOutB P=true) (hb:Below W.heap.size W W'): ∀{ts:List TypeId} {vs:List Value} {ds:List (DataW H)} {ps:List MemPlace},ts.all (fun t=>P.readableRec t&&decide (t<P.types.size))=true→DataW.TrodAll enc P W 0 (fun _=>true) true ts vs ds ps→
 DataW.TrodAll enc P W' 0 (fun b=>decide (b<W.heap.size)) true ts vs ds ps
 |[],vs,ds,ps,_,h=>by
  obtain⟨rfl,rfl,rfl⟩:=ChangeShapes.trodAll_nil h;exact ChangeShapes.trodAll_mk0
 |t::ts,vs,ds,ps,hr,h=>by
  obtain⟨v,vs',d,ds',p,q,rfl,rfl,rfl,h1,h2⟩:=ChangeShapes.trodAll_cons h;simp only[qq,eY,decide_eq_true_eq] at hr
  have hlt: ∀x∈p,x.block<W.heap.size:=by obtain⟨n,hn⟩:=h1;exact DataW.trod_lt n _ _ _ hn
  exact trodAll_cons_mk (Below.trod hl hr.1.1 hr.1.2 h1 hb hlt) (aei hl hb hr.2 h2)
theorem Sl {P:Program} {W:World}: ∀{ts:List TypeId} {vs:List Value} {ds:List (DataW H)} {ps:List MemPlace},DataW.TrodAll enc P W 0 (fun _=>true) true ts vs ds ps→ds.length=ts.length
 |[],vs,ds,ps,h=>by obtain⟨rfl,rfl,rfl⟩:=ChangeShapes.trodAll_nil h;rfl
 |t::ts,vs,ds,ps,h=>by
  obtain⟨v,vs',d,ds',p,q,rfl,rfl,rfl,h1,h2⟩:=ChangeShapes.trodAll_cons h;simp[Sl h2]
theorem aki (hC:aec C) {f:FuncId} {fn:Func} {s:ChangeSpec} {ts:List TypeId} {tb:TypeId} {m base:Nat} {W:World} {args:Array Value} {ds gs:List (DataW H)} {before:List MemPlace} (ars:laidOutB C.P=true)
 (hfn:fn.params.toList=ts) (hres:fn.resultTypes= #[tb]) (htb:C.P.underlying tb=some .bool) (hvars:s.vars=[]) (art:ts.all (fun t=>C.P.readableRec t&&decide (t<C.P.types.size))=true) (ho:ts.all (okP C.tt m)=true)
 (hps:(C.sig f).ps=ts.map fun _=> .borrow) (hn:ts.length≤50) (aru: ∀ds:List (DataW H),ds.length=ts.length→(s.fn H ds).results=[.lit (.bool true)]∧(s.fn H ds).args=ds∧(s.fn H ds).vars=[])
 (law: ∀vs,aee C.tt ts vs→ ∃k,lJ C k f vs (.c (.sc (.bool true))) [])
 (hval: ∀(j:Nat) t v,fn.params[j]?=some t→args[j]?=some v→Value.okWide C.P W .any base t v) (hW:DataW.Whole enc C.P fn.params.toList s.vars false W args.toList ds gs before)
 (hsz:(DataW.weightsEach C.P (fn.params.toList++s.plain.varTypes C.P) (ds++gs)).all (· ≤reachBytes)=true):
 Calls C.P f args W fun e W'=> ∃v,e= .returned v∧s.post enc C.P fn false true false false W args v W':=by
 have hW':=hW;obtain⟨p,q,hA,hV,rfl,hfz,hnd⟩:=hW;rw[hvars] at hV;obtain⟨rfl,rfl⟩:=ChangeShapes.trodVars_none hV
 have hvt:s.plain.varTypes C.P=[]:=by
  unfold ChangeSpec.plain DataSpec.varTypes;rw[hvars];rfl
 rw[hvt,qt,qt,hfn] at hsz;rw[hfn] at hA;refine(ah8 hC hA ho (fun j t v h1 h2=>hval j t v (by rw[←hfn] at h1;simpa using h1) h2) hsz hps hn law).mono fun e W' ⟨he,bel⟩=> ?_;subst he;obtain⟨s1,s2,s3⟩:=aru ds (Sl hA);refine⟨_,rfl,ds,[],_,[],p,[],hW',?_,?_,?_,bel.frame _,fun h=>by cases h⟩
 ·rw[qt,s1,hres]
  exact ChangeShapes.trodAll_mk1 (shut_bool htb _)
 ·rw[qt,s2,hfn]
  exact aei ars bel art hA
 ·rw[qt,s3,hvars]
  rfl
end
end Go.T
