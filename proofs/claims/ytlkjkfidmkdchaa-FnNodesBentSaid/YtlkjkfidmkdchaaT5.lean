import Derived.Test.YtlkjkfidmkdchaaT4
import Derived.LoopN
import Derived.ChangeArms
import Derived.ChangeSlices
import Derived.WideShapes
import Derived.SizedLaws
import Derived.RowKit
import Derived.ChangeOld
import Derived.Test.YtlkjkfidmkdchaaT1
import Derived.IntWalk
import Derived.Carry
import Derived.OpenShut
set_option linter.all false
namespace Go.T
variable {F : Nat → Prop} {A : Arg} {w0 w w' : World} {φ φ' φ1 : Fp} {st st' sta bD gn : TS} {tm sO : Array Value} {C : e7}
variable {R : Type} {cf : Cf} {lp : Lp} {Q : R → Prop}
variable {fx : List Nat} {g : Nat → Value} {n : Nat}
def jQ (o:Oper):Bool:=match o.op with| .load _ _=>true|_=>false
def uF (o:Oper):Bool:=match o.op with| .select _ _=>true|_=>false
def lM (C:e7) (o:Oper):Bool:=match qE C o with|true=>true|false=>jQ o
def gV (o:Oper):List Nat:=(o.after.toList.filter (Region.binds .any)).map (·.on)
def ES:List Nat→List Nat→Bool
 |[],_=>true
 |a::r,l=>match ek a l with|true=>ES r l|false=>false
def nV (ops:Array Oper):Nat→Nat→List Nat→List Nat
 |0,_,W=>W
 |k+1,j,W=>match ops[j]? with
  |some o=>match kz (gV o) W with|true=>nV ops k (j+1) (j::W)|false=>nV ops k (j+1) W
  |none=>W
def IB (ops:Array Oper) (W:List Nat) (i:Nat) (oi:Oper) (j:Nat) (oj:Oper):Bool:=
 ((match oj.dst with|some d=> !ek d (oi.looksAt ops)|none=>true)||(!jQ oi&&ek j W))&&
 (ek j W||((match oj.dst with|some d=>(match oi.dst with|some e=> !Nat.beq d e|none=>true)|none=>true)&&
 (ek i (gV oj)||(match oi.dst with|some d=> !ek d (oj.looksAt ops)|none=>true))))
def zb (ops:Array Oper) (oi:Oper):Bool:=match oi.dst with|some d=> !ek d (oi.looksAt ops)|none=>true
def zc (f:Nat→Bool):Nat→Bool
 |0=>true
 |k+1=>match f k with|true=>zc f k|false=>false
theorem nW {f:Nat→Bool}: ∀{k:Nat},zc f k=true→ ∀j,j<k→f j=true
 |0,_,j,h=>absurd h az
 |k+1,h,j,hj=>by
  simp only[zc] at h
  split at h
  ·by_cases e:j=k
   ·subst e;assumption
   ·exact nW h j az
  ·cases h
def rF.mJ:rF→List Nat
 | .nil=>[]
 | .op i _ _=>[i]
 | .alt a b=>a.mJ++b.mJ
def rF.len:rF→Nat
 | .nil=>0
 | .op _ _ r=>r.len+1
 | .alt a _=>a.len
def Qo (C:e7) (ops:Array Oper) (hs:Option (List Nat)) (S:List Nat) (i:Nat) (fl:List Nat) (o:Oper):Bool:=
 !ek i S&&ES (gV o) S&& !uF o&&(match lM C o with
   |true=>hs.isNone&&zb ops o&&fL fN (nV ops ops.size 0 [i]) fun W=>zc (fun j=>ek j S||Nat.beq j i||(match ops[j]? with|some oj=>IB ops W i o j oj|none=>true)) ops.size
   |false=>zc (fun j=>ek j S||Nat.beq j i||ek j (hs.getD [])||(match ops[j]? with|some oj=> !ES (gV oj) S|none=>true)) ops.size&&
     zc (fun l=> !ek l S||ek l fl||(match ops[l]? with|some ol=> !jQ ol|none=>true)||ek i (nV ops ops.size 0 [l])) ops.size)
def cC (C:e7) (ops:Array Oper):Option (List Nat)→List Nat→rF→Bool
 |none,S,.nil=>zc (fun j=>ek j S) ops.size
 |some _,_,.nil=>false
 |hs,S,.op i fl r=>match ops[i]? with
  |none=>false
  |some o=>Qo C ops hs S i fl o&&cC C ops none (i::S) r
 |hs,S,.alt a b=>cC C ops (some (hs.getD (a.mJ++b.mJ))) S a&&cC C ops (some (hs.getD (a.mJ++b.mJ))) S b&&Nat.beq a.len b.len
theorem Kb {a l:List Nat} (h:ES a l=true): ∀x∈a,x∈l:=by
 induction a with
 |nil=>intro x hx;cases hx
 |cons y r ih=>
  simp only[ES] at h
  split at h
  ·intro x hx
   rcases bC.1 hx with rfl|hx
   ·exact dQ.1 MF
   ·exact ih h x hx
  ·cases h
theorem Kd {a l:List Nat} (h: ∀x∈a,x∈l):ES a l=true:=by
 induction a with
 |nil=>rfl
 |cons y r ih=>
  simp only[ES,dQ.2 (h y (.head _))];exact ih fun x hx=>h x (.tail _ hx)
def YN (P:Program) (ops:Array Oper) (o:Oper) (v:Value) (a:Act) (w:World):Prop:=
 (Region.wanted o (yielded ops a.tmps)=true∧(execOp a.eval o).run P w= .ok (.value v) w)∨(Region.wanted o (yielded ops a.tmps)=false∧v=undef)
def Kp (C:e7) (ops:Array Oper) (o:Oper) (v:Value) (a:Act) (w:World):Prop:=
 (Region.wanted o (yielded ops a.tmps)=false∧v=undef)∨(Region.wanted o (yielded ops a.tmps)=true∧
   ((∀w,(execOp a.eval o).run C.P w= .ok (.value v) w)∨ ∃t x ad vs,o.op= .load t x∧a.eval x= .pointer (some ad)∧known (C.tt t)=true∧vs.length=(C.tt t).size∧(∀(j:Nat) (u:Value),vs[j]?=some u→w.cell? (ad.add j)=some u)∧v=valOf (C.tt t) vs))
theorem Kp.yn (hT:ct C) {ops:Array Oper} {o:Oper} {v:Value} {a:Act} (h:Kp C ops o v a w):YN C.P ops o v a w:=by
 rcases h with⟨h1,h2⟩|⟨h1,h2|⟨t,x,ad,vs,ho,hx,hk,hl,hc,rfl⟩⟩
 ·exact .inr ⟨h1,h2⟩
 ·exact .inl ⟨h1,h2 w⟩
 ·refine .inl ⟨h1,?_⟩
  have:=oG (hT t hk) w ad vs hl hc;unfold execOp;rw[ho];simp only[hx,Instr.loadAt,Instr.sureAddr,Sem.run_bind,Sem.run_pure,Result.andThen];rw[this]
  rfl
theorem Kp.same {ops:Array Oper} {o:Oper} {v:Value} {a a':Act} (h:Kp C ops o v a w) (he:execOp a'.eval o=execOp a.eval o) (hx: ∀t x,o.op= .load t x→a'.eval x=a.eval x) (hw:Region.wanted o (yielded ops a'.tmps)=Region.wanted o (yielded ops a.tmps)):Kp C ops o v a' w:=by
 unfold Kp at*;rw[hw,he];rcases h with h|⟨h1,h2|⟨t,x,ad,vs,ho,hx',hr⟩⟩
 ·exact .inl h
 ·exact .inr ⟨h1,.inl h2⟩
 ·exact .inr ⟨h1,.inr ⟨t,x,ad,vs,ho,(hx t x ho).trans hx',hr⟩⟩
theorem Kp.world (hT:ct C) {ops:Array Oper} {o:Oper} {v:Value} {a:Act} (h:Kp C ops o v a w) (hw: ∀t x ad,o.op= .load t x→a.eval x= .pointer (some ad)→Region.wanted o (yielded ops a.tmps)=true→ad.block<w.heap.size→w'.heap[ad.block]?=w.heap[ad.block]?):Kp C ops o v a w':=by
 rcases h with h|⟨h1,h2|⟨t,x,ad,vs,ho,hx,hk,hl,hc,hv⟩⟩
 ·exact .inl h
 ·exact .inr ⟨h1,.inl h2⟩
 ·refine .inr ⟨h1,.inr ⟨t,x,ad,vs,ho,hx,hk,hl,fun j u hj=> ?_,hv⟩⟩
  have QT:=hc j u hj;have hlt:=World.block_lt_of_cell? w _ QT;rw[aQ] at hlt;rw[bZ (w:=w) (by rw[aQ];exact hw t x ad ho hx h1 hlt)];exact QT
theorem ET (hT:ct C) {a:Act} (h:aq F A w0 φ st a.tmps w) {t:TypeId} {x:Operand} {K:TE→Ev R} (hk:(su C st t (iZ C st 0 x) K).holds cf lp Q):
 ∃(ad:Addr) (vs:List Value),a.eval x= .pointer (some ad)∧known (C.tt t)=true∧vs.length=(C.tt t).size∧ ∀(j:Nat) (u:Value),vs[j]?=some u→w.cell? (ad.add j)=some u:=by
 have ht:=bM hT h 0 x
 have fin: ∀(ad:Addr) (xs:List CE) (K:TE→Ev R),a.eval x= .pointer (some ad)→(∀(j:Nat) (e:CE),xs[j]?=some e→ ∃u,w.cell? (ad.add j)=some u)→(sr C t xs K).holds cf lp Q→
  ∃(ad:Addr) (vs:List Value),a.eval x= .pointer (some ad)∧known (C.tt t)=true∧vs.length=(C.tt t).size∧ ∀(j:Nat) (u:Value),vs[j]?=some u→w.cell? (ad.add j)=some u:=by
  intro ad xs K hv hx hk;unfold sr at hk
  split at hk
  ·rename_i hkn hl
   obtain⟨vs,h1,h2⟩:=uq (Pr:=fun j (e:CE) u=>w.cell? (ad.add j)=some u) xs 0 (fun j e he=>by rw[eK];exact hx j e he);refine⟨ad,vs,hv,hkn,by rw[h1];exact cY hl,fun j u hj=> ?_⟩
   have hlt:j<xs.length:=by rw[←h1];exact(List.getElem?_eq_some_iff.1 hj).1
   obtain⟨u',g1,g2⟩:=h2 j xs[j] (aO hlt);rw[hj] at g1;cases g1;rw[eK] at g2;exact g2
  ·exact hk.elim
 cases he:iZ C st 0 x with
 |bp b off=>
  rw[he] at ht hk;simp only[su] at hk
  split at hk
  ·rename_i cs hb
   refine fin _ _ _ ht (fun j e he=> ?_) hk;have he:=cc he;rw[iL] at he;obtain⟨u,g1,g2⟩:=h.box b cs hb _ e he;exact⟨u,by rw[Addr.add_add];exact g1⟩
  ·exact hk.elim
 |ep ds cells=>
  rw[he] at ht hk;simp only[su] at hk;obtain⟨hd,ad,hv,hr,hc⟩:=ht;refine fin ad _ _ hv (fun j e he=> ?_) hk;obtain⟨tc,g1,rfl⟩:=jX _ _ _ _ _ _ he;obtain⟨u,g2,g3⟩:=hc j tc (cc g1);exact⟨u,g2⟩
 |er o path i f=>
  rw[he] at ht hk;simp only[su] at hk;obtain⟨ad,cells,hv,hr,hc,hk,hl⟩:=yJ h.obj ht hk;refine fin ad _ _ hv (fun j e he=> ?_) hk;obtain⟨tc,g1,rfl⟩:=jX _ _ _ _ _ _ he;obtain⟨u,g2,g3⟩:=hc j tc (cc g1);exact⟨u,g2⟩
 |_=>rw[he] at hk;exact hk.elim
theorem vH (hT:ct C) {a:Act} (h:aq F A w0 φ st a.tmps w) {ops:Array Oper} {o:Oper}: ∀{fl:List Nat},qw C ops st o fl=true→ ∀l∈fl,∀ol,ops[l]?=some ol→ ∀t x ad,ol.op= .load t x→a.eval x= .pointer (some ad)→Region.wanted ol (yielded ops a.tmps)=true→
 ¬Wr st φ (writes C st o) ad.block
 |[],_,l,hl,_,_,_,_,_,_,_,_=>by cases hl
 |l0::r,hf,l,hl,ol,hol,t,x,ad,ho,hx,hw=>by
  simp only[qw] at hf
  split at hf
  ·rename_i ol0 KJ
   split at hf
   ·rename_i rE
    rcases bC.1 hl with rfl|hl
    ·exfalso
     rw[hol] at KJ;cases KJ;unfold KU at rE
     split at rE
     ·cases rE
     ·rename_i j want hg
      split at rE
      ·rename_i oj hj
       split at rE
       ·rename_i tt ht
        split at rE
        ·rename_i b hb
         have hv:=h.tmp tt;rw[hb] at hv;have hy:=th hj ht hv;unfold Region.wanted at hw;rw[hg] at hw;simp only[hy] at hw
         split at rE
         ·cases hw
         ·cases hw
         ·cases rE
        ·rename_i hb
         have hv:=h.tmp tt;rw[hb] at hv;have hy:=za hj ht (FV hv);unfold Region.wanted at hw;rw[hg] at hw;simp only[hy] at hw
         cases hw
        ·cases rE
       ·cases rE
      ·cases rE
    ·exact vH hT h hf l hl ol hol t x ad ho hx hw
   ·split at hf
    ·rename_i rdl hrd
     split at hf
     ·cases hf
     ·rename_i Gq
      rcases bC.1 hl with rfl|hl
      ·rw[hol] at KJ;cases KJ
       have Gq:=fun {y} (hy:y∈rdl)=>iN Gq hy;have ht:=bM hT h 0 x
       have obj: ∀{oo k},2*oo∈rdl→aj st.ob oo→φ.S oo k→ ¬Wr st φ (writes C st o) k:=fun {oo k} hm hd hS KI=>by
        rcases KI with⟨b,cs,b1,b2,b3,b4⟩|⟨o2,o1,o3,o4⟩
        ·exact h.fU hd hS b2 b4.symm
        ·have:=h.sep.apart oo o2 k hd o3 hS o4
         subst this;exact Gq hm o1
       have roI: ∀{k},φ.I k→ ¬Wr st φ (writes C st o) k:=fun {k} hI KI=>by
        rcases KI with⟨b,cs,b1,b2,b3,b4⟩|⟨o2,o1,o3,o4⟩
        ·subst b4;exact(h.sep.box b cs b2 b3).1 hI
        ·exact h.sep.read o2 k o3 o4 hI
       have arg: ∀{k},φ.S 0 k→ ¬Wr st φ (writes C st o) k:=fun {k} hS KI=>by
        rw[h.sep.arg] at hS;have hc:=h.sep.fz k hS;rcases KI with⟨b,cs,b1,b2,b3,b4⟩|⟨o2,o1,o3,o4⟩
        ·subst b4
         rcases (h.sep.box b cs b2 b3).2.2.1 with h3|h3
         ·omega
         ·exact hc.2 h3
        ·rcases (h.sep.fresh o2 k o3 o4).2 with h3|h3
         ·omega
         ·exact hc.2 h3
       unfold HC at hrd;rw[ho] at hrd;simp only at hrd
       split at hrd
       ·rename_i b off he
        rw[he] at ht
        split at hrd
        ·rename_i cs hb
         cases hrd
         have ht:a.eval x= .pointer (some ((φ.β b).add off)):=ht;rw[hx] at ht
         cases ht
         rw[aQ];intro KI;rcases KI with⟨b',cs',b1,b2,b3,b4⟩|⟨o2,o1,o3,o4⟩
         ·by_cases Aa:b=b'
          ·subst Aa;exact Gq (.head _) b1
          ·exact(h.sep.box b' cs' b2 b3).2.2.2 b cs hb Aa b4
         ·exact h.fU o3 o4 hb rfl
        ·cases hrd
       ·rename_i ds c0 cells he
        rw[he] at ht
        cases hrd
        obtain⟨hd,ad',hv,hr,_⟩:=ht;rw[hx] at hv
        cases hv
        rcases hr dh with hI|⟨d,hm,hS⟩
        ·exact roI hI
        ·rcases hd d hm with rfl|Gj
         ·exact arg hS
         ·exact obj (List.mem_map.2 ⟨d,hm,rfl⟩) Gj hS
       ·rename_i oo i f he
        rw[he] at ht
        cases hrd
        obtain⟨b,hb,_,ad0,n0,c0,hV,hp⟩:=ht;have hp:a.eval x= .pointer (some (ad0.add (i.toNat*b.z+f))):=hp;rw[hx] at hp
        cases hp
        rw[aQ];have hO:=h.obj oo b hb;unfold fD at hO;rw[hV] at hO;refine obj (.head _) ⟨b,hb⟩ ?_
        cases hO with
        |sub _ _ _ _ _ _ u T k hn=>exact(k.own (by unfold OB.m;split<;>simp)).2 ad0 rfl|>.1
       ·rename_i oo q i f he
        rw[he] at ht
        split at hrd
        ·rename_i z rows hb
         cases hrd
         obtain⟨b,hb',_,ad0,n0,c0,hV,hp⟩:=ht;rw[hb] at hb';cases hb';obtain⟨i0,f0⟩:=q;obtain⟨_,z1,ie,Hf,ad1,n1,c1,hcell,hp⟩:=hp;rw[hx] at hp
         cases hp
         rw[aQ];have hO:=h.obj oo _ hb;unfold fD at hO;rw[hV] at hO;refine obj (.head _) ⟨_,hb⟩ ?_
         cases hO with
         |sub _ _ _ _ _ _ u T k hn=>
          have hin:=hn _ _ _ Hf;have hu:=k.cell ad0 rfl _ _ _ Hf;rw[hcell] at hu;simp only[aE] at hu;rw[←hu] at hin
          have:T i0.toNat f0 ad1.block:=by
           cases hin with
           |sub _ _ _ _ _ _ u' T' k' hn'=>exact(k'.own (by simp[OB.m,Mode.nx])).2 ad1 rfl|>.1
          exact(k.gZ rfl _ _ _ this).1
        ·cases hrd
       ·cases hrd
      ·exact vH hT h hf l hl ol hol t x ad ho hx hw
    ·cases hf
  ·cases hf
theorem EU (hC:COk C) {fl:List Nat} {ops:Array Oper} {a:Act} (hi:Inv F A w0 fx g n st a w) {o:Oper} (CK:y7 n o=true) (hq:lM C o=true) {K:TS→Ev R} (hk:(guarded C fx fl ops st o K).holds cf lp Q):
 ∃v st',Kp C ops o v a w∧Inv F A w0 fx g n st' (a.put o.dst v) w∧(K st').holds cf lp Q:=by
 obtain⟨⟨φ,h⟩,Jr,Js,hsz⟩:=hi;obtain⟨hok,hc⟩:=nv h hk;have mk: ∀{st' v},Rel F A w0 st' (a.put o.dst v).tmps w→Inv F A w0 fx g n st' (a.put o.dst v) w:=fun hr=>⟨hr,Cc hok Jr _,by rw[put_defers];exact Js,by rw[uE];exact hsz⟩;rcases hc with⟨hw,bD,φ1,h1,_,wH⟩|⟨hw,bD,h1,wH⟩
 ·have hpure:(AO C bD o K).holds cf lp Q:=by
   unfold lM qE jQ at hq;unfold gv at wH
   split at wH
   ·rename_i e;rw[e] at hq;cases hq
   ·rename_i e;rw[e] at hq;cases hq
   ·rename_i e;rw[e] at hq;cases hq
   ·rename_i e;rw[e] at hq;cases hq
   ·rename_i e;rw[e] at hq;cases hq
   ·rename_i src dst x e
    rw[e] at hq;simp only at hq
    split at wH
    ·rename_i et h1 h2
     rw[h1,h2] at hq
     cases hq
    ·exact wH
   ·rename_i e;rw[e] at hq;cases hq
   ·rename_i e;rw[e] at hq;cases hq
   ·rename_i e;rw[e] at hq;cases hq
   ·rename_i e;rw[e] at hq;cases hq
   ·exact wH
  unfold AO at hpure
  split at hpure
  ·rename_i d hd
   obtain⟨v,e,g1,g2,g3,g4⟩:=Dm hC.ty h1 hpure;refine⟨v,_,.inr ⟨hw,?_⟩,mk ⟨φ1,?_⟩,g3⟩
   ·cases hb:qE C o with
    |true=>exact .inl (g4 hb)
    |false=>
     right;unfold lM at hq;rw[hb] at hq;unfold jQ at hq;simp only at hq
     split at hq
     ·rename_i t x ho
      unfold c6 at hpure;rw[ho] at hpure;obtain⟨ad,vs,l1,l2,l3,l4⟩:=ET hC.ty h1 hpure;refine⟨t,x,ad,vs,ho,l1,l2,l3,l4,?_⟩;have hr:=oG (hC.ty t l2) w ad vs l3 l4
      have:(execOp a.eval o).run C.P w= .ok (.value (valOf (C.tt t) vs)) w:=by
       unfold execOp;rw[ho];simp only[l1,Instr.loadAt,Instr.sureAddr,Sem.run_bind,Sem.run_pure,Result.andThen];rw[hr]
       rfl
      rw[g1] at this
      cases this
      rfl
     ·cases hq
   ·rw[hd]
    refine h1.Ae ?_ g2;unfold y7 at CK;rw[hd] at CK;have CK:Nat.ble (d+1) n=true:=CK;exact dI (show d<n from iX CK) hsz
  ·exact hpure.elim
 ·exact⟨undef,bD,.inl ⟨hw,rfl⟩,mk ⟨φ,h1⟩,wH⟩
theorem DC (hC:COk C) (sg:y8 C cf) {fl:List Nat} {ops:Array Oper} {a:Act} (hi:Inv F A w0 fx g n st a w) {o:Oper} (CK:y7 n o=true) {K:TS→Ev R} (hk:(guarded C fx fl ops st o K).holds cf lp Q) {Kc:Act→World→Prop} {Qc:Exit→Act→World→Prop}
 (hK: ∀st' v w',Inv F A w0 fx g n st' (a.put o.dst v) w'→(K st').holds cf lp Q→(∀l∈fl,∀ol,ops[l]?=some ol→ ∀t x ad,ol.op= .load t x→a.eval x= .pointer (some ad)→Region.wanted ol (yielded ops a.tmps)=true→ad.block<w.heap.size→w'.heap[ad.block]?=w.heap[ad.block]?)→Kc (a.put o.dst v) w'):
 if Region.wanted o (yielded ops a.tmps) then o.wp C.P a w Kc Qc else Kc (a.put o.dst undef) w:=by
 obtain⟨⟨φ,h⟩,Jr,Js,hsz⟩:=hi;obtain⟨hok,hc⟩:=nv h hk;have mk: ∀{st' v w'},Rel F A w0 st' (a.put o.dst v).tmps w'→Inv F A w0 fx g n st' (a.put o.dst v) w':=fun hr=>⟨hr,Cc hok Jr _,by rw[put_defers];exact Js,by rw[uE];exact hsz⟩;rcases hc with⟨hw,bD,φ1,h1,hfl,wH⟩|⟨hw,bD,h1,wH⟩
 ·rw[aY hw]
  exact DB hC sg h1 (fun d hd=>by
   unfold y7 at CK;rw[hd] at CK;have CK:Nat.ble (d+1) n=true:=CK
   exact dI (show d<n from iX CK) hsz) wH fun st' v w' hr hk' _ hfr=>hK st' v w' (mk hr) hk' fun l hl ol hol t x ad ho hx RY hlt=>hfr _ hlt (vH hC.ty h1 hfl l hl ol hol t x ad ho hx RY)
 ·rw[aH (by rw[hw];exact Bool.false_ne_true)]
  exact hK bD undef w (mk ⟨φ,h1⟩) wH fun _ _ _ _ _ _ _ _ _ _ _=>rfl
end Go.T
namespace Go.T
variable {F : Nat → Prop} {A : Arg} {w0 w w' : World} {φ φ' φ1 : Fp} {st st' sta bD gn : TS} {tm sO : Array Value} {C : e7}
variable {R : Type} {cf : Cf} {lp : Lp} {Q : R → Prop}
variable {fx : List Nat} {g : Nat → Value} {n : Nat} {ops : Array Oper}
structure Pe where
 i:Nat
 o:Oper
 v:Value
def jG:List Pe→Act→Act
 |[],a=>a
 |p::r,a=>jG r (a.put p.o.dst p.v)
def pF (C:e7) (ops:Array Oper):List Pe→Act→World→Prop
 |[],_,_=>True
 |p::r,a,w=>Kp C ops p.o p.v a w∧pF C ops r (a.put p.o.dst p.v) w
inductive mK (ops:Array Oper) (i:Nat):Nat→Prop
 |base {j:Nat} {o:Oper} (h:ops[j]?=some o) (hd:i∈gV o):mK ops i j
 |step {j d:Nat} {o:Oper} (h:ops[j]?=some o) (hd:d∈gV o) (hw:mK ops i d):mK ops i j
theorem mL {i:Nat}: ∀(k j:Nat) (W:List Nat),(∀x∈W,x=i∨mK ops i x)→ ∀x∈nV ops k j W,x=i∨mK ops i x
 |0,_,W,h=>h
 |k+1,j,W,h=>by
  simp only[nV]
  split
  ·rename_i o ho
   split
   ·rename_i hm
    refine mL k (j+1) _ fun x hx=> ?_;rcases bC.1 hx with rfl|hx
    ·obtain⟨d,h1,h2⟩:=sY hm
     rcases h d h2 with rfl|hw
     ·exact .inr (.base ho h1)
     ·exact .inr (.step ho h1 hw)
    ·exact h x hx
   ·exact mL k (j+1) W h
  ·exact h
theorem mK.listed {listed:Array Bool} (hcl: ∀(j:Nat) (oj:Oper),listed.getD j false=true→ops[j]?=some oj→ ∀d∈gV oj,listed.getD d false=true) {i j:Nat} (h:mK ops i j):(∀o,ops[j]?=some o→ ∀d∈gV o,listed.getD d false=true)→listed.getD i false=true:=by
 induction h with
 |base h hd=>exact fun hh=>hh _ h _ hd
 |step h hd hw ih=>exact fun hh=>ih fun o ho d Gj=>hcl _ o (hh _ h _ hd) ho d Gj
def FW (ops:Array Oper) (oi oj:Oper):Prop:=(∀d,oj.dst=some d→d∉oi.looksAt ops)∧(∀d,oi.dst=some d→oj.dst≠some d)∧ ∀d,oi.dst=some d→d∉oj.looksAt ops
def zd (ops:Array Oper) (i:Nat) (oi:Oper) (j:Nat) (oj:Oper):Prop:=((∀d,oj.dst=some d→d∉oi.looksAt ops)∨(jQ oi=false∧mK ops i j))∧
 (mK ops i j∨((∀d,oi.dst=some d→oj.dst≠some d)∧(i∈gV oj∨ ∀d,oi.dst=some d→d∉oj.looksAt ops)))
theorem zd.now {i j:Nat} {oi oj:Oper} (h:zd ops i oi j oj) (hj:ops[j]?=some oj) (hn: ¬mK ops i j):FW ops oi oj:=by
 obtain⟨h1,h2⟩:=h;obtain⟨h3,h4⟩:=h2.resolve_left hn;exact⟨h1.resolve_right fun h=>hn h.2,h3,h4.resolve_left fun h=>hn (.base hj h)⟩
theorem IC {i j:Nat} {oi oj:Oper} {W:List Nat} (hne:j≠i) (hW: ∀x∈W,x=i∨mK ops i x) (h:IB ops W i oi j oj=true):zd ops i oi j oj:=by
 unfold IB at h;simp only[cJ,Bool.or_eq_true] at h;obtain⟨h1,h2⟩:=h;have hw:ek j W=true→mK ops i j:=fun h=>(hW j (dQ.1 h)).resolve_left hne;refine⟨h1.imp (fun h1 d hd=> ?_) (fun h=>⟨by simpa using h.1,hw h.2⟩),h2.imp hw fun⟨h2,h3⟩=>⟨fun d hd hd'=> ?_,h3.imp dQ.1 fun h3 d hd=> ?_⟩⟩
 ·rw[hd] at h1
  simp only[o9] at h1;exact bF.1 h1
 ·rw[hd',hd] at h2
  simp only[o9] at h2;exact absurd rfl (iY h2)
 ·rw[hd] at h3
  simp only[o9] at h3;exact bF.1 h3
theorem ID {o:Oper} (h:zb ops o=true): ∀d,o.dst=some d→d∉o.looksAt ops:=fun d hd=>by
 unfold zb at h;rw[hd] at h;simp only[o9] at h;exact bF.1 h
theorem FX {o:Oper} (h:uF o=false): ∀cs b,o.op≠ .select cs b:=fun cs b e=>by
 unfold uF at h;rw[e] at h
 cases h
theorem vJ {o:Oper} {t:TypeId} {x:Operand} (ho:o.op= .load t x) {a:Act} {dst:Option Tmp} {v:Value} (h: ∀d,dst=some d→d∉o.looksAt ops):(a.put dst v).eval x=a.eval x:=
 Act.eval_put fun d hd hx=>h d hd (by
  subst hx;refine dD _ (List.mem_filterMap.2 ⟨.tmp d,?_,rfl⟩);rw[ho]
  simp[Op.operands])
theorem Kp.put {o:Oper} {v u:Value} {a:Act} {dst:Option Tmp} (hs:uF o=false) (hl: ∀d,dst=some d→d∉o.looksAt ops):Kp C ops o v (a.put dst u) w↔Kp C ops o v a w:=by
 have e1:=execOp_put (ops:=ops) o (FX hs) a dst u hl;have e2:=wanted_put (ops:=ops) o a dst u hl;exact⟨fun h=>h.same e1.symm (fun t x ho=>(vJ ho hl).symm) e2.symm,fun h=>h.same e1 (fun t x ho=>vJ ho hl) e2⟩
theorem ze {dst:Option Tmp} {u:Value}: ∀(L:List Pe) (a:Act),(∀p∈L,uF p.o=false∧(∀d,dst=some d→d∉p.o.looksAt ops)∧ ∀d,p.o.dst=some d→dst≠some d)→(pF C ops L a w→pF C ops L (a.put dst u) w)∧jG L (a.put dst u)=(jG L a).put dst u
 |[],a,_=>⟨id,rfl⟩
 |p::r,a,h=>by
  obtain⟨h1,h2,h3⟩:=h p (.head _);have hc:(a.put dst u).put p.o.dst p.v=(a.put p.o.dst p.v).put dst u:=(Act.put_comm a p.v u h3).symm;obtain⟨i1,i2⟩:=ze r (a.put p.o.dst p.v) fun q hq=>h q (.tail _ hq);refine⟨fun⟨k1,k2⟩=>⟨(Kp.put h1 h2).2 k1,?_⟩,?_⟩
  ·rw[hc];exact i1 k2
  ·show jG r ((a.put dst u).put p.o.dst p.v)=_
   rw[hc];exact i2
theorem DD {p:Pe} {L2:List Pe} (hsp:uF p.o=false): ∀(L1:List Pe) (a:Act),(∀q∈L1,uF q.o=false∧FW ops q.o p.o)→pF C ops (L1++p::L2) a w→Kp C ops p.o p.v a w∧pF C ops (L1++L2) (a.put p.o.dst p.v) w∧jG (L1++L2) (a.put p.o.dst p.v)=jG (L1++p::L2) a
 |[],a,_,⟨h1,h2⟩=>⟨h1,h2,rfl⟩
 |q::L1,a,h,⟨h1,h2⟩=>by
  obtain⟨hs,p1,p2,p3⟩:=h q (.head _);obtain⟨i1,i2,i3⟩:=DD hsp L1 (a.put q.o.dst q.v) (fun q' hq=>h q' (.tail _ hq)) h2;have hc:(a.put p.o.dst p.v).put q.o.dst q.v=(a.put q.o.dst q.v).put p.o.dst p.v:=(Act.put_comm a q.v p.v p2).symm;refine⟨(Kp.put hsp p3).1 i1,⟨(Kp.put hs p1).2 h1,?_⟩,?_⟩
  ·rw[hc];exact i2
  ·show jG (L1++L2) ((a.put p.o.dst p.v).put q.o.dst q.v)=_
   rw[hc];exact i3
theorem vK {o:Oper} (hs:uF o=false): ∀(L:List Pe) (a:Act),(∀q∈L,∀d,q.o.dst=some d→d∉o.looksAt ops)→execOp (jG L a).eval o=execOp a.eval o∧Region.wanted o (yielded ops (jG L a).tmps)=Region.wanted o (yielded ops a.tmps)∧ ∀t x,o.op= .load t x→(jG L a).eval x=a.eval x
 |[],a,_=>⟨rfl,rfl,fun _ _ _=>rfl⟩
 |q::r,a,h=>by
  obtain⟨i1,i2,i3⟩:=vK hs r (a.put q.o.dst q.v) fun q' hq=>h q' (.tail _ hq);have hq:=h q (.head _);exact⟨i1.trans (execOp_put (ops:=ops) o (FX hs) a _ _ hq),i2.trans (wanted_put (ops:=ops) o a _ _ hq),fun t x ho=>(i3 t x ho).trans (vJ ho hq)⟩
theorem zf (hT:ct C): ∀(L:List Pe) (a:Act),(L.Pairwise fun p q=>zd ops p.i p.o q.i q.o∧p.i≠q.i)→(∀p∈L,zb ops p.o=true∧uF p.o=false)→
 (∀p∈L,∀t x ad,p.o.op= .load t x→(jG L a).eval x= .pointer (some ad)→Region.wanted p.o (yielded ops (jG L a).tmps)=true→ad.block<w.heap.size→w'.heap[ad.block]?=w.heap[ad.block]?)→pF C ops L a w→pF C ops L a w'
 |[],a,_,_,_,_=>trivial
 |p::r,a,hp,hs,hf,⟨h1,h2⟩=>by
  have Oh:=List.pairwise_cons.1 hp;obtain⟨s1,s2⟩:=hs p (.head _);refine⟨h1.world hT fun t x ad ho hx hw hlt=> ?_,?_⟩
  ·have h3:=vK (ops:=ops) s2 (p::r) a fun q hq d hd=>by
    rcases bC.1 hq with rfl|hq
    ·exact ID s1 d hd
    ·exact(Oh.1 q hq).1.1.resolve_right (fun h=>by have:=h.1;unfold jQ at this;rw[ho] at this;cases this) d hd
   exact hf p (.head _) t x ad ho (by rw[h3.2.2 t x ho];exact hx) (by rw[h3.2.1];exact hw) hlt
  exact zf hT r _ Oh.2 (fun q hq=>hs q (.tail _ hq)) (fun q hq=>hf q (.tail _ hq)) h2
variable {l : List Nat} {K : TS → Ev R}
structure DE (C:e7) (F:Nat→Prop) (A:Arg) (w0:World) (fx:List Nat) (g:Nat→Value) (n:Nat) (l:List Nat) (K:TS→Ev R) (cf:Cf) (lp:Lp) (Q:R→Prop) (ops:Array Oper) (listed:Array Bool) (aM:Act) (w:World) (L:List Pe) (rest:rF) (S:List Nat):Prop where
 sz:listed.size=ops.size
 mem: ∀j,j∈S↔(listed.getD j false=true∨ ∃p∈L,p.i=j)
 yj:cC C ops none S rest=true
 pend:pF C ops L aM w
 pw:L.Pairwise fun p q=>zd ops p.i p.o q.i q.o∧p.i≠q.i
 pe: ∀p∈L,ops[p.i]?=some p.o∧lM C p.o=true∧zb ops p.o=true∧uF p.o=false∧listed.getD p.i false=false
 later: ∀p∈L,∀(j:Nat) (oj:Oper),j∉S→ops[j]?=some oj→zd ops p.i p.o j oj
 closed: ∀(j:Nat) (oj:Oper),listed.getD j false=true→ops[j]?=some oj→ ∀d∈gV oj,listed.getD d false=true
 pd: ∀L1 p L2,L=L1++p::L2→ ∀d∈gV p.o,listed.getD d false=true∨ ∃q∈L1,q.i=d
 go: ∃st,Inv F A w0 fx g n st (jG L aM) w∧(jc C fx l ops rest st K).holds cf lp Q
theorem DF {o:Oper} {listed:Array Bool}:(∀e∈o.after,Region.binds .any e=true→listed.getD e.on false=true)↔ ∀d∈gV o,listed.getD d false=true:=by
 unfold gV
 constructor
 ·intro h d hd
  obtain⟨e,he,rfl⟩:=List.mem_map.1 hd;obtain⟨h1,h2⟩:=List.mem_filter.1 he;exact h e (by simpa using h1) h2
 ·intro h e he hb
  exact h _ (List.mem_map.2 ⟨e,List.mem_filter.2 ⟨by simpa using he,hb⟩,rfl⟩)
theorem FY {listed:Array Bool} {j:Nat} (h:j<listed.size) (a b:Bool):listed.getD j a=listed.getD j b:=by
 simp[ko,lq h]
theorem gD {hs:Option (List Nat)} {S:List Nat} {i:Nat} {fl:List Nat} {r:rF} (h:cC C ops hs S (.op i fl r)=true): ∃o,ops[i]?=some o∧i∉S∧(∀d∈gV o,d∈S)∧uF o=false∧cC C ops none (i::S) r=true∧
 ((lM C o=true∧hs=none∧zb ops o=true∧ ∀(j:Nat) (oj:Oper),j∉S→j≠i→ops[j]?=some oj→zd ops i o j oj)∨
  (lM C o=false∧(∀(j:Nat) (oj:Oper),j∉S→j≠i→j∉hs.getD []→ops[j]?=some oj→ ∃d∈gV oj,d∉S)∧ ∀(k:Nat) (ok:Oper),k∈S→ops[k]?=some ok→jQ ok=true→k∈fl∨mK ops k i)):=by
 simp only[cC] at h
 split at h
 ·cases h
 ·rename_i o ho
  unfold Qo at h;simp only[cJ,o9] at h;obtain⟨⟨⟨⟨h1,h2⟩,h3⟩,h4⟩,h5⟩:=h;refine⟨o,ho,bF.1 h1,Kb h2,h3,h5,?_⟩
  cases hq:lM C o with
  |true=>
   rw[hq] at h4;simp only[cJ] at h4;refine .inl ⟨rfl,by simpa using h4.1.1,h4.1.2,fun j oj hj hne nF=> ?_⟩;have QU:=h4.2;rw[lB HH] at QU;have:=nW QU j (Array.getElem?_eq_some_iff.1 nF).1;rw[nF,bF.2 hj,beq_false hne] at this;exact IC hne (mL ops.size 0 [i] fun x hx=> .inl (by simpa using hx)) (by simpa using this)
  |false=>
   rw[hq] at h4;simp only[cJ] at h4;refine .inr ⟨rfl,fun j oj hj hne hh nF=> ?_,fun k ok hk hok My=> ?_⟩
   ·have:=nW h4.1 j (Array.getElem?_eq_some_iff.1 nF).1
    rw[nF,bF.2 hj,beq_false hne,bF.2 hh] at this;simp only[yl,o9] at this
    apply Classical.byContradiction
    intro hno;have:=Kd (a:=gV oj) (l:=S) fun d hd=>Classical.byContradiction fun hn=>hno ⟨d,hd,hn⟩;simp_all
   ·have:=nW h4.2 k (Array.getElem?_eq_some_iff.1 hok).1
    rw[hok,dQ.2 hk] at this;simp only[My] at this;simp only[AG,yl,Bool.or_false,Bool.or_eq_true] at this;exact this.imp dQ.1 fun h=>(mL ops.size 0 [k] (fun x hx=> .inl (by simpa using hx)) i (dQ.1 h)).resolve_left fun e=>bF.1 h1 (e▸hk)
def MG (lp:Lp):Prop:= ∀f i c st (Q Q':TX→TS→Prop),(∀x s,Q x s→Q' x s)→lp f i c st Q→lp f i c st Q'
theorem vL (vf:MG lp) {j:Nat}: ∀{T:rF} {hs:Option (List Nat)} {S:List Nat},cC C ops hs S T=true→j∈T.mJ→(jc C fx l ops T st K).holds cf lp Q→
 ∃fl r hs',cC C ops hs' S (.op j fl r)=true∧r.len+1=T.len∧(jc C fx l ops (.op j fl r) st K).holds cf lp Q
 | .nil,_,_,_,hj,_=>by cases hj
 | .op i fl r,hs,S,h,hj,hk=>by
   simp only[rF.mJ,eG] at hj;subst hj;exact⟨fl,r,hs,h,rfl,hk⟩
 | .alt a b,hs,S,h,hj,hk=>by
   simp only[cC,cJ] at h;obtain⟨⟨h1,h2⟩,h3⟩:=h;have h3:=cY h3;simp only[jc] at hk;obtain⟨r,k1,k2,k3⟩:=hk;rcases List.mem_append.1 hj with hj|hj
   ·obtain⟨fl,r',hs',g1,g2,g3⟩:=vL vf h1 hj (bY (fun _ _ _ _ h=>h) vf (fun r' e=>by subst e;exact k3) _ k1)
    exact⟨fl,r',hs',g1,g2,g3⟩
   ·obtain⟨fl,r',hs',g1,g2,g3⟩:=vL vf h2 hj (bY (fun _ _ _ _ h=>h) vf (fun r' e=>by subst e;exact k3) _ k2)
    exact⟨fl,r',hs',g1,by rw[g2];exact h3.symm,g3⟩
theorem zg: ∀{T:rF} {H:List Nat} {S:List Nat},cC C ops (some H) S T=true→ ∀(j:Nat) (oj:Oper),j∉S→j∉H→j∉T.mJ→ops[j]?=some oj→ ∃d∈gV oj,d∉S
 | .nil,_,_,h,_,_,_,_,_,_=>by simp[cC] at h
 | .op i fl r,H,S,h,j,oj,hj,hH,hh,nF=>by
   obtain⟨o,_,_,_,_,_,hc⟩:=gD h;rcases hc with⟨_,e,_⟩|⟨_,h1,_⟩
   ·cases e
   ·exact h1 j oj hj (fun e=>hh (by rw[e];exact .head _)) hH nF
 | .alt a b,H,S,h,j,oj,hj,hH,hh,nF=>by
   simp only[cC,cJ] at h;exact zg h.1.1 j oj hj hH (fun e=>hh (dD _ e)) nF
theorem rR: ∀{T:rF} {H:List Nat} {S:List Nat},cC C ops (some H) S T=true→ ∀{j oj},j∈T.mJ→ops[j]?=some oj→lM C oj=true→False
 | .nil,_,_,h,_,_,_,_,_=>by simp[cC] at h
 | .op i fl r,H,S,h,j,oj,hj,nF,hq=>by
   simp only[rF.mJ,eG] at hj;subst hj;obtain⟨o,ho,_,_,_,_,hc⟩:=gD h;rw[nF] at ho;cases ho;rcases hc with⟨_,e,_⟩|⟨zW,_⟩
   ·cases e
   ·rw[hq] at zW;cases zW
 | .alt a b,H,S,h,j,oj,hj,nF,hq=>by
   simp only[cC,cJ] at h;rcases List.mem_append.1 hj with hj|hj
   ·exact rR h.1.1 hj nF hq
   ·exact rR h.1.2 hj nF hq
theorem Cd {a b:rF} {S:List Nat} (h:cC C ops none S (.alt a b)=true) {j:Nat} {oj:Oper} (hj:j∈(rF.alt a b).mJ) (nF:ops[j]?=some oj) (hq:lM C oj=true):False:=by
 simp only[cC,cJ] at h;rcases List.mem_append.1 hj with hj|hj
 ·exact rR h.1.1 hj nF hq
 ·exact rR h.1.2 hj nF hq
theorem wX: ∀{T:rF} {H:List Nat} {S:List Nat},cC C ops (some H) S T=true→ ∃j∈T.mJ,∃oj,ops[j]?=some oj∧j∉S∧ ∀d∈gV oj,d∈S
 | .nil,_,_,h=>by simp[cC] at h
 | .op i fl r,H,S,h=>by
   obtain⟨o,h1,h2,h3,_⟩:=gD h;exact⟨i,.head _,o,h1,h2,h3⟩
 | .alt a b,H,S,h=>by
   simp only[cC,cJ] at h;obtain⟨j,h1,h2⟩:=wX h.1.1;exact⟨j,dD _ h1,h2⟩
theorem DE.advance (hC:COk C) (hb:xg n ops.toList=true) {listed:Array Bool} {aM:Act} {L:List Pe} {i:Nat} {fl:List Nat} {r:rF} {S:List Nat} (s:DE C F A w0 fx g n l K cf lp Q ops listed aM w L (.op i fl r) S) {o:Oper} (ho:ops[i]?=some o) (hq:lM C o=true):
 ∃v,DE C F A w0 fx g n l K cf lp Q ops listed aM w (L++[⟨i,o,v⟩]) r (i::S):=by
 obtain⟨o',ho',KK,xd,hsel,Fm,ng⟩:=gD s.yj;rw[ho] at ho';cases ho';rcases ng with⟨_,_,Ln,Lo⟩|⟨zW,_⟩
 ·obtain⟨st,hinv,hk⟩:=s.go
  simp only[jc,ho] at hk
  have CK:y7 n o=true:=by
   have: ∀(os:List Oper),xg n os=true→ ∀x∈os,y7 n x=true:=by
    intro os
    induction os with
    |nil=>intro _ x hx;cases hx
    |cons y q ih=>
     intro h x hx;simp only[xg] at h
     split at h
     ·rcases bC.1 hx with rfl|hx
      ·assumption
      ·exact ih h x hx
     ·cases h
   exact this _ hb o (dw (by rw[CT];exact ho))
  obtain⟨v,st',k1,k2,k3⟩:=EU hC hinv CK hq hk;rw[jd] at k3
  have Oj: ∀(L:List Pe) (a:Act),pF C ops L a w→Kp C ops o v (jG L a) w→pF C ops (L++[⟨i,o,v⟩]) a w:=by
   intro L
   induction L with
   |nil=>intro a _ h;exact⟨h,trivial⟩
   |cons p q ih=>intro a h h2;exact⟨h.1,ih _ h.2 h2⟩
  have Ok: ∀(L:List Pe) (a:Act),jG (L++[⟨i,o,v⟩]) a=(jG L a).put o.dst v:=by
   intro L
   induction L with
   |nil=>intro a;rfl
   |cons p q ih=>intro a;exact ih _
  have RZ:listed.getD i false=false:=by
   cases h:listed.getD i false with
   |false=>rfl
   |true=>exact absurd ((s.mem i).2 (.inl h)) KK
  refine⟨v,s.sz,fun j=> ?_,Fm,Oj L aM s.pend k1,?_,fun p hp=> ?_,fun p hp j oj hj nF=> ?_,s.closed,fun L1 p L2 he d hd=> ?_,st',by rw[Ok];exact k2,k3⟩
  ·rw[bC,s.mem]
   constructor
   ·rintro(rfl|h|⟨p,hp,e⟩)
    ·exact .inr ⟨_,ga _ (.head _),rfl⟩
    ·exact .inl h
    ·exact .inr ⟨p,dD _ hp,e⟩
   ·rintro(h|⟨p,hp,e⟩)
    ·exact .inr (.inl h)
    ·rcases List.mem_append.1 hp with hp|hp
     ·exact .inr (.inr ⟨p,hp,e⟩)
     ·simp only[eG] at hp
      subst hp;exact .inl e.symm
  ·refine List.pairwise_append.2 ⟨s.pw,List.pairwise_singleton _ _,fun p hp q hq=> ?_⟩
   simp only[eG] at hq;subst hq;exact⟨s.later p hp i o KK ho,fun e=>KK ((s.mem i).2 (.inr ⟨p,hp,e⟩))⟩
  ·rcases List.mem_append.1 hp with hp|hp
   ·exact s.pe p hp
   ·simp only[eG] at hp
    subst hp;exact⟨ho,hq,Ln,hsel,RZ⟩
  ·have hj:j≠i∧j∉S:=by simpa using hj
   rcases List.mem_append.1 hp with hp|hp
   ·exact s.later p hp j oj hj.2 nF
   ·simp only[eG] at hp
    subst hp;exact Lo j oj hj.2 hj.1 nF
  ·rcases List.append_eq_append_iff.1 he with⟨a',e1,e2⟩|⟨c',e1,e2⟩
   ·
    cases a' with
    |nil=>
     simp only[lu,mj] at e1 e2
     cases e2
     subst e1;rcases (s.mem d).1 (xd d hd) with h|h
     ·exact .inl h
     ·exact .inr h
    |cons x xs=>simp at e2
   ·cases c' with
    |nil=>
     simp only[lu,mj] at e1 e2
     cases e2
     subst e1;rcases (s.mem d).1 (xd d hd) with h|h
     ·exact .inl h
     ·exact .inr h
    |cons x xs=>
     simp only[sk,List.cons.injEq] at e2;obtain⟨rfl,_⟩:=e2;exact s.pd L1 p xs e1 d hd
 ·rw[hq] at zW;cases zW
theorem LX (hb:xg n ops.toList=true) {i:Nat} {o:Oper} (ho:ops[i]?=some o):y7 n o=true:=by
 have: ∀(os:List Oper),xg n os=true→ ∀x∈os,y7 n x=true:=by
  intro os
  induction os with
  |nil=>intro _ x hx;cases hx
  |cons y q ih=>
   intro h x hx;simp only[xg] at h
   split at h
   ·rcases bC.1 hx with rfl|hx
    ·assumption
    ·exact ih h x hx
   ·cases h
 exact this _ hb o (dw (by rw[CT];exact ho))
theorem DG {P:Program} {o:Oper} {aS aM:Act} {w:World} {Kc Kc':Act→World→Prop} {Qc:Exit→Act→World→Prop} (he:execOp aM.eval o=execOp aS.eval o) (hk: ∀a' w',Kc a' w'→ ∃v,a'=aS.put o.dst v∧Kc' (aM.put o.dst v) w') (hd: ∀v v',aS.put o.dst v=aS.put o.dst v'→ ∀w',Kc' (aM.put o.dst v) w'→Kc' (aM.put o.dst v') w')
 (h:o.wp P aS w Kc fun _ _ _=>False):o.wp P aM w Kc' Qc:=by
 unfold Oper.wp at*;rw[he];generalize (execOp aS.eval o).run P w=r at*
 have use: ∀v w',Kc (aS.put o.dst v) w'→Kc' (aM.put o.dst v) w':=fun v w' h=>by
  obtain⟨v',e,hk'⟩:=hk _ _ h;exact hd v' v e.symm w' hk'
 cases r with
 |ok nx w'=>
  cases nx<;>simp only[Oper.upon] at h ⊢
  case value u=>exact use u w' h
  case skip=>exact use undef w' h
  case defer d=>
   exfalso
   obtain⟨v,e,_⟩:=hk _ _ h;have:=congrArg Act.defers e;rw[put_defers,put_defers] at this;have h2:=congrArg List.length this;simp at h2
  case enter f args=>
   refine Calls.mono h fun e w'' he=> ?_
   cases e with
   |returned u=>exact use u w'' he
   |panicked c=>exact he.elim
   |outgrown=>exact(LetsOut_false he).elim
  case row row args=>exact Rows.mono h fun u w'' he=>use u w'' he
 |halt x w'=>
  cases x<;>simp only[Oper.upon] at h
where
 LetsOut_false:LetsOut (fun(_:Exit) (_:Act) (_:World)=>False)→False:=fun⟨_,_,h⟩=>h
theorem Bh: ∀(L:List Pe) (a:Act),(jG L a).tmps.size=a.tmps.size
 |[],_=>rfl
 |p::r,a=>by show(jG r _).tmps.size=_;rw[Bh r,uE]
theorem GP {a a':Act} {d:Option Tmp} {v v':Value} (hs:a'.tmps.size=a.tmps.size) (h:a.put d v=a.put d v'):a'.put d v=a'.put d v':=by
 cases d with
 |none=>rfl
 |some d=>
  have h1:a.tmps.setIfInBounds d v=a.tmps.setIfInBounds d v':=congrArg Act.tmps h;show({a' with tmps:=a'.tmps.setIfInBounds d v}:Act)={a' with tmps:=a'.tmps.setIfInBounds d v'}
  by_cases hd:d<a.tmps.size
  ·have:v=v':=by
    have h2:=congrArg (fun x:Array Value=>x[d]?) h1;simpa [AF,hd] using h2
   rw[this]
  ·have hle:a'.tmps.size≤d:=by rw[hs];exact Nat.le_of_not_lt hd
   rw[Array.setIfInBounds_eq_of_size_le hle,Array.setIfInBounds_eq_of_size_le hle]
theorem LY (hC:COk C) (sg:y8 C cf) (vf:MG lp) (hb:xg n ops.toList=true) {Qc:Exit→Act→World→Prop} (hQ: ∀st a w,Inv F A w0 fx g n st a w→(K st).holds cf lp Q→Qc .normal a w):
 ∀(fuel:Nat) (listed:Array Bool) (aM:Act) (w:World) (L:List Pe) (rest:rF) (S:List Nat),DE C F A w0 fx g n l K cf lp Q ops listed aM w L rest S→fuel=rest.len+L.length→wpAny C.P .any ops Qc fuel listed aM w:=by
 have ready0: ∀{listed:Array Bool} {j:Nat},listed.size=ops.size→j∈Region.ready .any ops listed→listed.getD j false=false∧ ∃oj,ops[j]?=some oj∧ ∀d∈gV oj,listed.getD d false=true:=fun {listed j} hsz hj=>by
  obtain⟨h1,oj,h2,h3⟩:=mem_ready.1 hj
  have hlt:j<listed.size:=by rw[hsz];exact(Array.getElem?_eq_some_iff.1 h2).1
  exact⟨by rw[FY hlt false true];exact h1,oj,h2,DF.1 h3⟩
 have ready1: ∀{listed:Array Bool} {j:Nat} {oj:Oper},listed.size=ops.size→listed.getD j false=false→ops[j]?=some oj→(∀d∈gV oj,listed.getD d false=true)→j∈Region.ready .any ops listed:=fun {listed j oj} hsz h1 h2 h3=>by
  have hlt:j<listed.size:=by rw[hsz];exact(Array.getElem?_eq_some_iff.1 h2).1
  exact mem_ready.2 ⟨by rw[FY hlt true false];exact h1,oj,h2,DF.2 h3⟩
 intro fuel
 induction fuel with
 |zero=>
  intro listed aM w L rest S s hf;have hL:L=[]:=sn az
  have hr:rest= .nil:=by
   have h0:rest.len=0:=by omega
   have hsc:=s.yj;clear s hf
   cases rest with
   |nil=>rfl
   |op i fl r=>simp[rF.len] at h0
   |alt a b=>
    exfalso
    simp only[cC,cJ] at hsc
    have: ∀{T:rF} {H:List Nat} {S:List Nat},cC C ops (some H) S T=true→T.len≠0:=by
     intro T
     induction T with
     |nil=>intro _ _ h;simp[cC] at h
     |op i fl r _=>intro _ _ _;simp[rF.len]
     |alt a b iha _=>intro _ _ h;simp only[cC,cJ] at h;exact iha h.1.1
    exact this hsc.1.1 h0
  subst hL hr
  constructor
  ·cases hrd:Region.ready .any ops listed with
   |nil=>rfl
   |cons j js=>
    exfalso
    obtain⟨h1,oj,h2,_⟩:=ready0 s.sz (j:=j) (by rw[hrd];exact .head _);have hs:=s.yj;simp only[cC] at hs;have:=dQ.1 (nW hs j (Array.getElem?_eq_some_iff.1 h2).1);rcases (s.mem j).1 this with h|⟨p,hp,_⟩
    ·rw[h1] at h;cases h
    ·cases hp
  ·obtain⟨st,hinv,hk⟩:=s.go
   simp only[jc] at hk;rw[jd] at hk;obtain⟨⟨φ,h⟩,h2,h3,h4⟩:=hinv;exact hQ _ aM w ⟨⟨φ,h.keep l⟩,h2,h3,h4⟩ hk
 |succ fuel ih=>
  intro listed aM w L rest S s hf
  have up: ∀{L:List Pe} {rest:rF} {S:List Nat},DE C F A w0 fx g n l K cf lp Q ops listed aM w L rest S→fuel+1=rest.len+L.length→ ∀p∈L,(∀d∈gV p.o,listed.getD d false=true)→wpOp C.P ops Qc p.i (wpAny C.P .any ops Qc fuel (listed.setIfInBounds p.i true)) aM w:=fun {L rest S} s hf p hp QW=>by
   obtain⟨L1,L2,rfl⟩:=List.append_of_mem hp;obtain⟨e1,e2,e3,e4,e5⟩:=s.pe p hp;have Lq:=List.pairwise_append.1 s.pw
   have R0: ∀q∈L1,uF q.o=false∧FW ops q.o p.o:=fun q hq=>by
    have:=s.pe q (dD _ hq);refine⟨this.2.2.2.1,(Lq.2.2 q hq p (.head _)).1.now e1 fun hd=> ?_⟩
    have h1:=hd.listed s.closed fun o ho=>by rw[e1] at ho;cases ho;exact QW
    rw[this.2.2.2.2] at h1
    cases h1
   obtain⟨k1,k2,k3⟩:=DD e4 L1 aM R0 s.pend
   have hlt:p.i<listed.size:=by rw[s.sz];exact(Array.getElem?_eq_some_iff.1 e1).1
   have hne: ∀q,q∈L1∨q∈L2→q.i≠p.i:=fun q hq=>by
    rcases hq with hq|hq
    ·exact(Lq.2.2 q hq p (.head _)).2
    ·exact fun e=>((List.pairwise_cons.1 Lq.2.1).1 q hq).2 e.symm
   have qm: ∀j,(listed.setIfInBounds p.i true).getD j false=true↔j=p.i∨listed.getD j false=true:=fun j=>by
    by_cases hj:j=p.i
    ·subst hj;simp[ko,AF,hlt]
    ·rw[Go.getD_set_ne false (Ne.symm hj)];simp[hj]
   have hs':DE C F A w0 fx g n l K cf lp Q ops (listed.setIfInBounds p.i true) (aM.put p.o.dst p.v) w (L1++L2) rest S:=by
    refine⟨by simp[s.sz],fun j=> ?_,s.yj,k2,?_,fun q hq=> ?_,fun q hq=> ?_,fun j oj hj nF d hd=> ?_,fun M1 q M2 he d hd=> ?_,?_⟩
    ·rw[s.mem,qm]
     constructor
     ·rintro(h|⟨q,hq,e⟩)
      ·exact .inl (.inr h)
      ·rcases List.mem_append.1 hq with hq|hq
       ·exact .inr ⟨q,dD _ hq,e⟩
       ·rcases bC.1 hq with rfl|hq
        ·exact .inl (.inl e.symm)
        ·exact .inr ⟨q,ga _ hq,e⟩
     ·rintro((rfl|h)|⟨q,hq,e⟩)
      ·exact .inr ⟨p,hp,rfl⟩
      ·exact .inl h
      ·rcases List.mem_append.1 hq with hq|hq
       ·exact .inr ⟨q,dD _ hq,e⟩
       ·exact .inr ⟨q,ga _ (.tail _ hq),e⟩
    ·exact List.pairwise_append.2 ⟨Lq.1,(List.pairwise_cons.1 Lq.2.1).2,fun a ha b hb=>Lq.2.2 a ha b (.tail _ hb)⟩
    ·have zW:q∈L1++p::L2:=by
      rcases List.mem_append.1 hq with hq|hq
      ·exact dD _ hq
      ·exact ga _ (.tail _ hq)
     obtain⟨f1,f2,f3,f4,f5⟩:=s.pe q zW;refine⟨f1,f2,f3,f4,?_⟩;rw[Go.getD_set_ne false (Ne.symm (hne q (List.mem_append.1 hq)))];exact f5
    ·have zW:q∈L1++p::L2:=by
      rcases List.mem_append.1 hq with hq|hq
      ·exact dD _ hq
      ·exact ga _ (.tail _ hq)
     exact s.later q zW
    ·rcases (qm j).1 hj with rfl|hj
     ·rw[e1] at nF;cases nF
      exact(qm d).2 (.inr (QW d hd))
     ·exact(qm d).2 (.inr (s.closed j oj hj nF d hd))
    ·have old:listed.getD d false=true∨ ∃q'∈L1++p::L2,q'.i=d∧(q'=p∨q'∈M1):=by
      rcases List.append_eq_append_iff.1 he with⟨a',x1,x2⟩|⟨c',x1,x2⟩
      ·
       have:=s.pd (L1++p::a') q M2 (by rw[x2];simp) d hd;rcases this with h|⟨q',zW,e⟩
       ·exact .inl h
       ·refine .inr ⟨q',?_,e,?_⟩
        ·rcases List.mem_append.1 zW with h|h
         ·exact dD _ h
         ·rcases bC.1 h with rfl|h
          ·exact ga _ (.head _)
          ·exact ga _ (.tail _ (by rw[x2];exact dD _ h))
        ·rcases List.mem_append.1 zW with h|h
         ·exact .inr (by rw[x1];exact dD _ h)
         ·rcases bC.1 h with rfl|h
          ·exact .inl rfl
          ·exact .inr (by rw[x1];exact ga _ h)
      ·cases c' with
       |nil=>
        simp only[lu,mj] at x1 x2;subst x1;have:=s.pd (L1++[p]) q M2 (by rw[←x2];simp) d hd;rcases this with h|⟨q',zW,e⟩
        ·exact .inl h
        ·rcases List.mem_append.1 zW with h|h
         ·exact .inr ⟨q',dD _ h,e,.inr h⟩
         ·simp only[eG] at h
          exact .inr ⟨q',by rw[h];exact hp,e,.inl h⟩
       |cons y ys=>
        simp only[sk,List.cons.injEq] at x2;obtain⟨rfl,_⟩:=x2;have:=s.pd M1 q (ys++p::L2) (by rw[x1];simp) d hd;rcases this with h|⟨q',zW,e⟩
        ·exact .inl h
        ·exact .inr ⟨q',by rw[x1];exact dD _ (dD _ zW),e,.inr zW⟩
     rcases old with h|⟨q',_,e,rfl|h⟩
     ·exact .inl ((qm d).2 (.inr h))
     ·exact .inl ((qm d).2 (.inl e.symm))
     ·exact .inr ⟨q',h,e⟩
    ·obtain⟨st,g1,g2⟩:=s.go
     exact⟨st,by rw[k3];exact g1,g2⟩
   have hnext:=ih _ _ w (L1++L2) rest S hs' (by simp only[cE,dL] at hf ⊢;omega);have R1:=k1.yn hC.ty;unfold Go.wpOp;simp only[e1];rcases R1 with⟨hw,hv⟩|⟨hw,hv⟩
   ·rw[aY hw]
    refine .inl ?_;unfold Oper.wp;rw[hv];exact hnext
   ·rw[aH (by rw[hw];exact Bool.false_ne_true)]
    rw[hv] at hnext;exact hnext
  constructor
  ·intro hnil
   exfalso
   cases L with
   |nil=>
    have first: ∃(i:Nat) (o:Oper),ops[i]?=some o∧i∉S∧ ∀d∈gV o,d∈S:=by
     cases rest with
     |nil=>simp[rF.len] at hf
     |op i fl r=>
      obtain⟨o,ho,KK,xd,_⟩:=gD s.yj;exact⟨i,o,ho,KK,xd⟩
     |alt a b=>
      have hs:=s.yj;simp only[cC,cJ] at hs;obtain⟨j,_,oj,h1,h2,h3⟩:=wX hs.1.1;exact⟨j,oj,h1,h2,h3⟩
    ·obtain⟨i,o,ho,KK,xd⟩:=first
     have hi:listed.getD i false=false:=by
      cases h:listed.getD i false with
      |false=>rfl
      |true=>exact absurd ((s.mem i).2 (.inl h)) KK
     have:=ready1 s.sz hi ho fun d hd=>by
      rcases (s.mem d).1 (xd d hd) with h|⟨p,hp,_⟩
      ·exact h
      ·cases hp
     rw[hnil] at this
     cases this
   |cons p L2=>
    obtain⟨e1,e2,e3,e4,e5⟩:=s.pe p (.head _)
    have:=ready1 s.sz e5 e1 fun d hd=>by
     rcases s.pd [] p L2 rfl d hd with h|⟨q,hq,_⟩
     ·exact h
     ·cases hq
    rw[hnil] at this
    cases this
  ·intro j hj
   obtain⟨hjl,oj,nF,Lr⟩:=ready0 s.sz hj
   have doEff: ∀{rest:rF} {L:List Pe} {S:List Nat} {fl:List Nat} {r:rF},DE C F A w0 fx g n l K cf lp Q ops listed aM w L rest S→fuel+1=rest.len+L.length→r.len+1=rest.len→j∉S→uF oj=false→cC C ops none (j::S) r=true→
    (∀(k:Nat) (ok:Oper),k∈S→ops[k]?=some ok→jQ ok=true→k∈fl∨mK ops k j)→(∃st,Inv F A w0 fx g n st (jG L aM) w∧(jc C fx l ops (.op j fl r) st K).holds cf lp Q)→wpOp C.P ops Qc j (wpAny C.P .any ops Qc fuel (listed.setIfInBounds j true)) aM w:=fun {rest L S fl r} s hf hrl Hg hsel Fm z7 OY=>by
    have KL: ∀p∈L,uF p.o=false∧zb ops p.o=true∧FW ops p.o oj:=fun p hp=>by
     obtain⟨f1,f2,f3,f4,f5⟩:=s.pe p hp;refine⟨f4,f3,(s.later p hp j oj Hg nF).now nF fun hd=> ?_⟩
     have:=hd.listed s.closed fun o' ho'=>by rw[nF] at ho';cases ho';exact Lr
     rw[f5] at this;cases this
    have lX: ∀q∈L,∀d,q.o.dst=some d→d∉oj.looksAt ops:=fun q hq=>(KL q hq).2.2.2.2;obtain⟨x1,x2,_⟩:=vK (ops:=ops) hsel L aM lX;obtain⟨st,hinv,hk⟩:=OY;simp only[jc,nF] at hk
    have hlt:j<listed.size:=by rw[s.sz];exact(Array.getElem?_eq_some_iff.1 nF).1
    have qm: ∀d,(listed.setIfInBounds j true).getD d false=true↔d=j∨listed.getD d false=true:=fun d=>by
     by_cases hd:d=j
     ·subst hd;simp[ko,AF,hlt]
     ·rw[Go.getD_set_ne false (Ne.symm hd)];simp[hd]
    have St: ∀(v:Value),(pF C ops L aM w→pF C ops L (aM.put oj.dst v) w)∧jG L (aM.put oj.dst v)=(jG L aM).put oj.dst v:=fun v=>
     ze L aM fun p hp=>⟨(KL p hp).1,(KL p hp).2.2.1,(KL p hp).2.2.2.1⟩
    have next: ∀(v:Value) (w':World) (st':TS),Inv F A w0 fx g n st' ((jG L aM).put oj.dst v) w'→(jc C fx l ops r st' K).holds cf lp Q→(∀x∈fl,∀ox,ops[x]?=some ox→ ∀t y ad,ox.op= .load t y→(jG L aM).eval y= .pointer (some ad)→Region.wanted ox (yielded ops (jG L aM).tmps)=true→ad.block<w.heap.size→w'.heap[ad.block]?=w.heap[ad.block]?)→
     wpAny C.P .any ops Qc fuel (listed.setIfInBounds j true) (aM.put oj.dst v) w':=fun v w' st' hinv' hk' hfr=>by
     have Lq:=zf (w':=w') hC.ty L aM s.pw (fun p hp=>⟨(KL p hp).2.1,(KL p hp).1⟩) (fun p hp t y ad hop hy hwp hlt'=>by
      obtain⟨f1,f2,f3,f4,f5⟩:=s.pe p hp;have R2:p.i∈S:=(s.mem _).2 (.inr ⟨p,hp,rfl⟩);rcases z7 p.i p.o R2 f1 (by unfold jQ;rw[hop]) with hfl|JG
      ·exact hfr p.i hfl p.o f1 t y ad hop hy hwp hlt'
      ·exfalso
       have:=JG.listed s.closed fun o' ho'=>by rw[nF] at ho';cases ho';exact Lr
       rw[f5] at this;cases this) s.pend
     have Ol:=(ze (C:=C) (ops:=ops) (w:=w') (dst:=oj.dst) (u:=v) L aM fun p hp=>⟨(KL p hp).1,(KL p hp).2.2.1,(KL p hp).2.2.2.1⟩);refine ih _ _ w' L r (j::S) ⟨by simp[s.sz],fun d=> ?_,Fm,Ol.1 Lq,s.pw,fun p hp=> ?_,fun p hp d od hd Om=>s.later p hp d od (fun hs=>hd (.tail _ hs)) Om,fun d od hd Om e he=> ?_,fun L1 p L2 he d hd=> ?_,st',by rw[Ol.2];exact hinv',hk'⟩ az
     ·rw[bC,s.mem,qm]
      constructor
      ·rintro(h|h|h)
       ·exact .inl (.inl h)
       ·exact .inl (.inr h)
       ·exact .inr h
      ·rintro((h|h)|h)
       ·exact .inl h
       ·exact .inr (.inl h)
       ·exact .inr (.inr h)
     ·obtain⟨f1,f2,f3,f4,f5⟩:=s.pe p hp
      refine⟨f1,f2,f3,f4,?_⟩;rw[Go.getD_set_ne false (fun e=>Hg ((s.mem j).2 (.inr ⟨p,hp,e.symm⟩)))];exact f5
     ·rcases (qm d).1 hd with rfl|hd
      ·rw[nF] at Om;cases Om
       exact(qm e).2 (.inr (Lr e he))
      ·exact(qm e).2 (.inr (s.closed d od hd Om e he))
     ·exact(s.pd L1 p L2 he d hd).imp (fun h=>(qm d).2 (.inr h)) id
    have Jt:=DC hC sg hinv (LX hb nF) hk (Qc:=fun _ _ _=>False) (Kc:=fun a' w'=> ∃v,a'=(jG L aM).put oj.dst v∧wpAny C.P .any ops Qc fuel (listed.setIfInBounds j true) (aM.put oj.dst v) w') fun st' v w' hi' hk' hfr=>by
     rw[jd] at hk';exact⟨v,rfl,next v w' st' hi' hk' hfr⟩
    have QY: ∀v v',(jG L aM).put oj.dst v=(jG L aM).put oj.dst v'→aM.put oj.dst v=aM.put oj.dst v':=fun v v' h=>GP (Bh L aM).symm h;unfold Go.wpOp;simp only[nF];rw[x2] at Jt
    by_cases hw:Region.wanted oj (yielded ops aM.tmps)=true
    ·rw[aY hw] at Jt ⊢
     exact .inl (DG (Kc':=wpAny C.P .any ops Qc fuel (listed.setIfInBounds j true)) x1.symm (fun a' w' h=>h) (fun v v' h w' PR=>by rw[←QY v v' h];exact PR) Jt)
    ·rw[aH hw] at Jt ⊢
     obtain⟨v,e,hn⟩:=Jt;rw[QY undef v e];exact hn
   have go: ∀(rest:rF) (L:List Pe) (S:List Nat),DE C F A w0 fx g n l K cf lp Q ops listed aM w L rest S→fuel+1=rest.len+L.length→wpOp C.P ops Qc j (wpAny C.P .any ops Qc fuel (listed.setIfInBounds j true)) aM w:=by
    intro rest
    induction rest with
    |nil=>
     intro L S s hf;have hs:=s.yj;simp only[cC] at hs;have Hg:=dQ.1 (nW hs j (Array.getElem?_eq_some_iff.1 nF).1);rcases (s.mem j).1 Hg with h|⟨p,hp,rfl⟩
     ·rw[hjl] at h;cases h
     ·have e1:=(s.pe p hp).1
      rw[nF] at e1;cases e1;exact up s hf p hp Lr
    |op i fl r ihr=>
     intro L S s hf
     by_cases Hg:j∈S
     ·rcases (s.mem j).1 Hg with h|⟨p,hp,rfl⟩
      ·rw[hjl] at h;cases h
      ·have e1:=(s.pe p hp).1
       rw[nF] at e1;cases e1;exact up s hf p hp Lr
     ·obtain⟨o,ho,KK,xd,hsel,Fm,ng⟩:=gD s.yj
      rcases ng with⟨hq,_,_,_⟩|⟨hq,Ls,z7⟩
      ·obtain⟨v,s'⟩:=s.advance hC hb ho hq
       exact ihr _ _ s' (by simp only[cE,dL,List.length_nil,rF.len] at hf ⊢;omega)
      ·have hij:j=i:=by
        apply Classical.byContradiction
        intro hne;obtain⟨d,hd,Qf⟩:=Ls j oj Hg hne dh nF;exact Qf ((s.mem d).2 (.inl (Lr d hd)))
       subst hij;rw[nF] at ho;cases ho;exact doEff s hf rfl Hg hsel Fm z7 s.go
    |alt a b _ _=>
     intro L S s hf
     by_cases Hg:j∈S
     ·rcases (s.mem j).1 Hg with h|⟨p,hp,rfl⟩
      ·rw[hjl] at h;cases h
      ·have e1:=(s.pe p hp).1
       rw[nF] at e1;cases e1;exact up s hf p hp Lr
     ·have QZ:j∈(rF.alt a b).mJ:=by
       apply Classical.byContradiction
       intro hne;have hs:=s.yj;simp only[cC,cJ] at hs;obtain⟨d,hd,Qf⟩:=zg hs.1.1 j oj Hg hne (fun e=>hne (dD _ e)) nF;exact Qf ((s.mem d).2 (.inl (Lr d hd)))
      obtain⟨st,hinv,hk⟩:=s.go;obtain⟨fl,r,hs',g1,g2,g3⟩:=vL vf s.yj QZ hk;obtain⟨o,ho,KK,xd,hsel,Fm,ng⟩:=gD g1;rw[nF] at ho;cases ho;rcases ng with⟨hq,_,Ln,Lo⟩|⟨hq,Ls,z7⟩
      ·exfalso
       have hs:=s.yj;exact Cd hs QZ nF hq
      ·exact doEff s hf g2 Hg hsel Fm z7 ⟨st,hinv,g3⟩
   exact go rest L S s hf
theorem GQ (hC:COk C) (sg:y8 C cf) (vf:MG lp) (hm:C.P.follows .mixedOrders=true) (hb:xg n ops.toList=true) {Qc:Exit→Act→World→Prop} (hQ: ∀st a w,Inv F A w0 fx g n st a w→(K st).holds cf lp Q→Qc .normal a w) {yj:rF} (hs:cC C ops none [] yj=true) (hl:yj.len=ops.size)
 {a:Act} (hi:Inv F A w0 fx g n st a w) (hk:(jc C fx l ops yj st K).holds cf lp Q) {id:Nat}:(Code.region id ops true).wp C.P Qc a w:=by
 refine wp_region_any hm ?_;obtain⟨⟨φ,h⟩,h2,h3,h4⟩:=hi;have hi':Inv F A w0 fx g n st a {w with drawn:=w.drawn+1}:=⟨⟨φ,h.Er (gx.drew w)⟩,h2,h3,h4⟩
 have nE: ∀j,(Array.replicate ops.size false).getD j false=false:=fun j=>by
  rw[ko,Array.getElem?_replicate]
  split<;>rfl
 refine LY (l:=l) hC sg vf hb hQ ops.size _ a _ [] yj [] ⟨by simp,fun j=> ?_,hs,trivial,.nil,fun p hp=>(by cases hp),fun p hp=>(by cases hp),fun j oj hj=> ?_,fun L1 p L2 he=> ?_,st,hi',hk⟩ (by simp[hl])
 ·rw[nE];simp
 ·rw[nE] at hj;cases hj
 ·cases L1<;>cases he
end Go.T
namespace Go.T
variable {F : Nat → Prop} {A : Arg} {w0 w w' : World} {φ φ' φ1 : Fp} {st st' sta bD gn : TS} {tm sO : Array Value} {C : e7}
variable {R : Type} {cf : Cf} {lp : Lp} {Q : R → Prop}
variable {fx : List Nat} {g : Nat → Value} {n : Nat} {f : FuncId}
def qj (C:e7) (f:FuncId):Code→Bool
 | .region id ops draw=>match draw with
   |false=>true
   |true=>match C.yj f id with
    |some l=>match Nat.beq l.len ops.size with
     |true=>cC C ops none [] l
     |false=>false
    |none=>true
 | .seq a b=>match qj C f a with|true=>qj C f b|false=>false
 | .cond _ a b=>match qj C f a with|true=>qj C f b|false=>false
 | .block _ b=>qj C f b
 | .loop b=>qj C f b
 |_=>true
structure DH (C:e7):Prop extends COk C where
 yj: ∀(f:Nat) (fn:Func) (c:Code),C.P.funcs[f]?=some fn→fn.body=some c→qj C f c=true
 mix:C.P.follows .mixedOrders=true
 ext: ∀(f:FuncId) (p:List TV→Option (TV×List TV)) (vs:List TV) (r:TV) (fs:List TV),C.ext f=some p→p vs=some (r,fs)→Ca C f vs r fs
def QK (F:Nat→Prop) (A:Arg) (w0:World) (fx:List Nat) (g:Nat→Value) (n:Nat) (Qt:TX→TS→Prop):Exit→Act→World→Prop
 | .normal,a,w=> ∃st,Inv F A w0 fx g n st a w∧Qt .norm st
 | .exit id,a,w=> ∃st,Inv F A w0 fx g n st a w∧Qt (.ex id) st
 | .ret,a,w=> ∃st,Inv F A w0 fx g n st a w∧Qt .ret st
 |_,_,_=>False
def LZ (C:e7) (F:Nat→Prop) (A:Arg) (w0:World) (fx:List Nat) (g:Nat→Value) (n:Nat) (f:FuncId) (lp:Lp):Prop:=
 ∀(i:Nat) (c:Code) (st:TS) (Qt:TX→TS→Prop) (a:Act) (w:World),jZ n c=true→qj C f c=true→lp f i c st Qt→Inv F A w0 fx g n st a w→(Code.loop c).wp C.P (QK F A w0 fx g n Qt) a w
theorem IE (hC:DH C) (sg:y8 C cf) (O2:MG lp) (vf:LZ C F A w0 fx g n f lp): ∀(c:Code) (i:Nat) (st:TS) (K:TX→TS→Ev R) (a:Act) (w:World),jZ n c=true→qj C f c=true→Inv F A w0 fx g n st a w→(run C fx f i c st K).holds cf lp Q→
 c.wp C.P (QK F A w0 fx g n fun x st=>(K x st).holds cf lp Q) a w:=by
 intro c
 induction c with
 |skip=>intro i st K a w _ _ hi hk;exact wp_skip ⟨st,hi,hk⟩
 |region id ops draw=>
  intro i st K a w hb hs hi hk
  cases draw with
  |false=>
   simp only[run] at hk;exact wp_region_list (Bg hC.toCOk sg (K:=K .norm) (fun st a w hi hk=>⟨st,hi,hk⟩) ops.toList st a w hb hi hk)
  |true=>
   simp only[run] at hk;simp only[qj] at hs
   split at hk
   ·rename_i l hl
    rw[hl] at hs;simp only at hs
    split at hs
    ·rename_i hlen
     exact GQ hC.toCOk sg O2 hC.mix hb (K:=K .norm) (fun st a w hi hk=>⟨st,hi,hk⟩) hs (cY hlen) hi hk
    ·cases hs
   ·exact hk.elim
 |seq x y ihx ihy=>
  intro i st K a w hb hs hi hk;simp only[run] at hk
  have hb':jZ n x=true∧jZ n y=true:=by
   simp only[jZ] at hb
   split at hb
   ·exact⟨by assumption,hb⟩
   ·cases hb
  have hs':qj C f x=true∧qj C f y=true:=by
   simp only[qj] at hs
   split at hs
   ·exact⟨by assumption,hs⟩
   ·cases hs
  refine wp_seq (Code.wp_mono (fun e a w q=> ?_) (ihx i st _ a w hb'.1 hs'.1 hi hk))
  cases e with
  |normal=>obtain⟨st',hi',hk'⟩:=q;exact ihy i st' K a w hb'.2 hs'.2 hi' hk'
  |exit id=>exact q
  |ret=>exact q
  |_=>exact q.elim
 |cond c x y ihx ihy=>
  intro i st K a w hb hs hi hk;simp only[run] at hk
  have hb':jZ n x=true∧jZ n y=true:=by
   simp only[jZ] at hb
   split at hb
   ·exact⟨by assumption,hb⟩
   ·cases hb
  have hs':qj C f x=true∧qj C f y=true:=by
   simp only[qj] at hs
   split at hs
   ·exact⟨by assumption,hs⟩
   ·cases hs
  obtain⟨φ,h⟩:=hi.rel;have hc:=bM hC.ty h 0 c
  split at hk
  ·rename_i p hp
   rw[hp] at hc;have hc:a.eval c= .bool p:=hc;refine wp_cond hc ?_
   cases p with
   |true=>exact ihx i st K a w hb'.1 hs'.1 hi hk
   |false=>exact ihy i st K a w hb'.2 hs'.2 hi hk
  ·rename_i p hp
   rw[hp] at hc;have hc:=gz hc;refine wp_cond hc ?_
   cases p with
   |true=>exact ihx i st K a w hb'.1 hs'.1 hi hk
   |false=>exact ihy i st K a w hb'.2 hs'.2 hi hk
  ·exact hk.elim
 |block id x ih=>
  intro i st K a w hb hs hi hk;simp only[run] at hk;refine wp_block (Code.wp_mono (fun e a w q=> ?_) (ih id st _ a w hb hs hi hk))
  cases e with
  |normal=>exact q
  |exit id'=>
   obtain⟨st',hi',hk'⟩:=q;simp only at hk';simp only[Exit.inBlock]
   cases O3:Nat.beq id' id with
   |true=>
    have:=cY O3;rw[O3] at hk';rw[aY this];exact⟨st',hi',hk'⟩
   |false=>
    rw[O3] at hk';rw[aH (iY O3)];exact⟨st',hi',hk'⟩
  |ret=>exact q
  |_=>exact q.elim
 |loop x ih=>
  intro i st K a w hb hs hi hk;simp only[run] at hk;rw[jd] at hk;obtain⟨⟨φ,h⟩,h2,h3,h4⟩:=hi;exact vf i x _ _ a w hb hs hk ⟨h.head _,h2,h3,h4⟩
 |exit id=>intro i st K a w _ _ hi hk;exact wp_exit ⟨st,hi,hk⟩
 |ret=>intro i st K a w _ _ hi hk;exact wp_ret ⟨st,hi,hk⟩
 |_=>intro i st K a w _ _ hi hk;exact hk.elim
theorem FZ (hC:DH C) (sg:y8 C cf) (O2:MG lp) (vf:LZ C F A w0 fx g n f lp) {i:Nat} {c:Code} {Qt:TX→TS→Prop} (hb:jZ n c=true) (hs:qj C f c=true): ∀(k:Nat) (st:TS) (a:Act) (w:World),iter C cf lp fx f i c Qt k st→Inv F A w0 fx g n st a w→Code.rounds C.P c (QK F A w0 fx g n Qt) k a w
 |0,_,_,_,h,_=>h.elim
 |k+1,st,a,w,h,hi=>by
  refine Code.wp_mono (fun e a w q=> ?_) (IE hC sg O2 vf c i st AQ a w hb hs hi h)
  cases e with
  |normal=>
   obtain⟨st',hi',hk'⟩:=q;simp only[AQ,Ev.holds] at hk';rw[jd] at hk';obtain⟨⟨φ,h⟩,h2,h3,h4⟩:=hi';exact FZ hC sg O2 vf hb hs k _ a w hk' ⟨h.head _,h2,h3,h4⟩
  |exit id=>exact q
  |ret=>exact q
  |_=>exact q.elim
theorem F0 {k:Nat} {fx:List Nat} (d:Nat):MG (Eo C cf k fx d):=fun f i c st Q Q' hQ h=>h9 (fun _ _ _ _ h=>h) (bE _) d f i c st Q Q' hQ h
theorem IF (hC:DH C) (sg:y8 C cf) {k:Nat}: ∀(d:Nat),LZ C F A w0 fx g n f (Eo C cf k fx d)
 |0=>fun i c st Qt a w _ _ h _=>h.elim
 |d+1=>fun i c st Qt a w hb hs h hi=>wp_loop_rounds k (FZ hC sg (F0 d) (IF hC sg d) hb hs k st a w h hi)
theorem Bi: ∀{ps:List aF} {i j:Nat} {ms:List Mode},ps[j]?=some (.inout ms)→i+j∈vr ps i
 |[],_,_,_,h=>by simp at h
 |p::r,i,0,ms,h=>by
  simp only[bK,aE] at h;subst h;exact .head _
 |p::r,i,j+1,ms,h=>by
  have:=Bi (ps:=r) (i:=i+1) (j:=j) (by simpa using h);rw[show i+(j+1)=i+1+j by omega]
  cases p with
  |inout _=>exact .tail _ this
  |borrow=>exact this
  |consume _=>exact this
theorem IG {g:Gr} {i:Nat} (h:i∈vr g.ps 0):i∈yC g:=by
 unfold yC
 split
 ·exact .tail _ h
 ·exact h
theorem DI (hC:DH C): ∀(k:Nat),y8 C (dz C k)
 |0=>fun f vs r fs h=>h.elim
 |k+1=>fun f vs r fs h=>by
  have sg:=DI hC k;unfold dz at h
  cases hx:C.ext f with
  |some p=>rw[hx] at h;exact hC.ext f p vs r fs hx h
  |none=>
  rw[hx] at h;have h:(body C f vs).holds (dz C k) (Eo C (dz C k) k (yC (C.sig f)) 4) fun p=>p=(r,fs):=h;unfold body at h
  split at h
  ·exact h.elim
  ·rename_i fn hfn
   split at h
   ·exact h.elim
   ·rename_i c hc
    refine⟨⟨fn,c,hfn,hc⟩,fun w xs Rg BB X Y hin hlen=> ?_⟩;rw[jd] at h
    have o6: ∀(i:Nat) (x:Value),xs[i]?=some x→(xs.toArray++Array.replicate (fn.ntmps-xs.toArray.size) undef).getD i undef=x:=fun i x hx=>by
     have hlt:i<xs.length:=(List.getElem?_eq_some_iff.1 hx).1;rw[ko,Array.getElem?_append_left (by simpa using hlt)];simp[hx]
    have hstart:=Ib (C.sig f) hin o6
    have hinv:Inv (kE X Y) (uv true Rg BB) w (yC (C.sig f)) (fun i=>xs.getD i undef) fn.ntmps (qy (C.sig f) vs) {tmps:=xs.toArray++Array.replicate (fn.ntmps-xs.toArray.size) undef,defers:=[]} w:=by
     refine⟨⟨_,hstart⟩,fun i _=> ?_,rfl,?_⟩
     ·cases hx:xs[i]? with
      |some x=>rw[show xs.getD i undef=x by simp[List.getD,hx]];exact o6 i x hx
      |none=>
       have hge:xs.length≤i:=by
        rcases Nat.lt_or_ge i xs.length with h'|h'
        ·rw[aO h'] at hx;cases hx
        ·exact h'
       rw[show xs.getD i undef=undef by simp[List.getD,hx]];rw[ko,Array.getElem?_append_right (by simpa using hge),Array.getElem?_replicate]
       split<;>rfl
     ·simp;omega
    have hrun:=IE hC sg (F0 _) (IF hC sg 4) c 0 _ _ _ w (hC.dst f fn c hfn hc) (hC.yj f fn c hfn hc) hinv h;refine calls_of_wp hfn hc (Code.wp_mono (fun e a w' q=> ?_) hrun)
    have fin: ∀x st,Inv (kE X Y) (uv true Rg BB) w (yC (C.sig f)) (fun i=>xs.getD i undef) fn.ntmps st a w'→(HF C (C.sig f) fn.results.toList x st).holds (dz C k) (Eo C (dz C k) k (yC (C.sig f)) 4) (fun p=>p=(r,fs))→
     a.defers=[]∧ ∃v,(results fn a.tmps).run C.P w'= .ok v w'∧ ∃v',Ending.returned v= .returned v'∧yQ (kE X Y) (uv true Rg BB) w w' (C.sig f) xs r fs v':=fun x st hi hk=>by
     obtain⟨⟨φ,h⟩,h2,h3,h4⟩:=hi;obtain⟨v,g1,g2⟩:=LQ hC.ty (C.sig f) h hlen (fun j ms hj=>h2 j (IG (by have:=Bi (i:=0) hj;rwa [eK] at this))) hk;exact⟨h3,v,g1,v,rfl,g2⟩
    cases e with
    |normal=>obtain⟨st,hi,hk⟩:=q;exact fin _ st hi hk
    |ret=>obtain⟨st,hi,hk⟩:=q;exact fin _ st hi hk
    |exit id=>obtain⟨st,hi,hk⟩:=q;exact hk.elim
    |_=>exact q.elim
end Go.T
namespace Go.T
variable {C : e7} {w w' : World}
inductive vM (tt:TypeId→ec):TypeId→List TC→Prop
 |int {t:TypeId} {k:IntKind} {n:Int} (h:(tt t).ti= .int k) (hw:(Lit.int k n).wf=true):vM tt t [.sc (.int k n)]
 |bool {t:TypeId} {b:Bool} (h:(tt t).ti= .bool):vM tt t [.sc (.bool b)]
 |str {t:TypeId} {s:ByteArray} (h:(tt t).ti= .str) (hs:s.size≤reachBytes):vM tt t [.sc (.string s)]
 |slice {t e:TypeId} (h:(tt t).ti= .slice e) (rows:List (List TC)) (hr: ∀r∈rows,vM tt e r) (hl:rows.length*(tt e).bytes≤reachBytes):vM tt t [.sub (tt e).size rows]
 |struct {t:TypeId} {fs:List (Nat×TypeId)} (h:(tt t).ti= .struct fs) (parts:List (List TC)) (hl:parts.length=fs.length) (hf: ∀(j:Nat) (p:Nat×TypeId) (q:List TC),fs[j]?=some p→parts[j]?=some q→vM tt p.2 q):vM tt t parts.flatten
def GR (tt:TypeId→ec):Nat→List (Nat×TypeId)→Nat→Bool
 |off,[],size=>Nat.beq off size
 |off,(o,t)::r,size=>match Nat.beq o off with|true=>GR tt (off+(tt t).size) r size|false=>false
def II (tt:TypeId→ec):Nat→TypeId→Bool
 |0,_=>false
 |n+1,t=>match(tt t).ti with
  | .int _=>true
  | .bool=>true
  | .str=>true
  | .slice e=>II tt n e
  | .struct fs=>GR tt 0 fs (tt t).size&&fs.all fun f=>II tt n f.2
  |_=>false
def Rp (ps:List MemPlace) (k:Nat):Prop:= ∃x∈ps,x.block=k
section
variable {H : Type} {enc : TypeId × Value → H}
theorem tj (hT:ct C) {t:TypeId} (hk:known (C.tt t)=true):C.P.cellsOf t=(C.tt t).size∧C.P.bytesOf t=(C.tt t).bytes:=by
 obtain⟨i,z,h1,h2,h3,_⟩:=(hT t hk).info;unfold Program.cellsOf Program.bytesOf;rw[h1];exact⟨h2,h3⟩
theorem vN {tt:TypeId→ec} {m:Nat} {t:TypeId} (h:II tt m t=true):known (tt t)=true:=by
 cases m with
 |zero=>cases h
 |succ m=>
  unfold II at h;unfold known
  split at h<;>first|(rename_i e;rw[e])|cases h
theorem vM.len (hT:ct C): ∀(m:Nat) (t:TypeId) (cs:List TC),II C.tt m t=true→vM C.tt t cs→cs.length=(C.tt t).size
 |0,_,_,h,_=>by cases h
 |m+1,t,cs,h,hw=>by
  have hk:=vN h
  cases hw with
  |int h1 _=>exact((hT t hk).one fun fs e=>by rw[h1] at e;cases e).symm
  |bool h1=>exact((hT t hk).one fun fs e=>by rw[h1] at e;cases e).symm
  |str h1 _=>exact((hT t hk).one fun fs e=>by rw[h1] at e;cases e).symm
  |slice h1 _ _ _=>exact((hT t hk).one fun fs e=>by rw[h1] at e;cases e).symm
  | @struct _ fs h1 parts hl hf=>
    unfold II at h;rw[h1] at h;simp only[cJ,List.all_eq_true] at h;obtain⟨hc,ho⟩:=h
    have key: ∀(fs:List (Nat×TypeId)) (parts:List (List TC)) (off:Nat),parts.length=fs.length→(∀(j:Nat) (p:Nat×TypeId) (q:List TC),fs[j]?=some p→parts[j]?=some q→q.length=(C.tt p.2).size)→GR C.tt off fs (C.tt t).size=true→off+parts.flatten.length=(C.tt t).size:=by
     intro fs
     induction fs with
     |nil=>
      intro parts off hl _ hc;have:parts=[]:=sn hl;subst this;exact cY hc
     |cons f r ih=>
      intro parts off hl hf hc
      cases parts with
      |nil=>cases hl
      |cons q qs=>
       obtain⟨o,ft⟩:=f;simp only[GR] at hc
       split at hc
       ·have h2:=ih qs _ (by simpa using hl) (fun j p q' h1 h2=>hf (j+1) p q' (by simpa using h1) (by simpa using h2)) hc
        have h3:=hf 0 _ q rfl rfl;simp only at h3;rw[qn,cE,h3];omega
       ·cases hc
    have:=key fs parts 0 hl (fun j p q xb h2=>vM.len hT m p.2 q (ho p (dw xb)) (hf j p q xb h2)) hc;omega
theorem vO (hT:ct C): ∀(m:Nat) (t:TypeId) (fuel:Nat) (cs:List Value) (x:DataW H×List MemPlace),II C.tt m t=true→DataW.trod enc C.P w 0 (fun _=>true) true fuel t cs=some x→(x.1.weights C.P t).all (· ≤reachBytes)=true→
 ∃tcs,vM C.tt t tcs∧tcs.length=cs.length∧ ∀(j:Nat) (c:TC) (v:Value),tcs[j]?=some c→cs[j]?=some v→ah w (Rp x.2) .snap vg c v
 |0,_,_,_,_,h,_,_=>by cases h
 |m+1,t,fuel,cs,x,h,hx,JG=>by
  have hk:=vN h;have hd:=(hT t hk).desc
  have one: ∀{c0:TC} {v0:Value} {ps:List MemPlace},ah w (Rp ps) .snap vg c0 v0→ ∀(j:Nat) (c:TC) (v:Value),[c0][j]?=some c→[v0][j]?=some v→ah w (Rp ps) .snap vg c v:=fun {c0 v0 ps} h j c v h1 h2=>by
   cases j with
   |zero=>simp only[bK,aE] at h1 h2;subst h1 h2;exact h
   |succ j=>simp at h1
  unfold II at h
  cases ht:(C.tt t).ti with
  |int k=>
   rw[ht] at hd;obtain⟨n,rfl,rfl,hw⟩:=DataW.trod_int hd hx;exact⟨_,.int ht hw,rfl,one (.sc _ _ _ trivial)⟩
  |bool=>
   rw[ht] at hd;obtain⟨b,rfl,rfl⟩:=DataW.trod_bool hd hx;exact⟨_,.bool ht,rfl,one (.sc _ _ _ trivial)⟩
  |str=>
   rw[ht] at hd;obtain⟨s,rfl,rfl,_⟩:=DataW.trod_string hd hx;refine⟨_,.str ht ?_,rfl,one (.sc _ _ _ trivial)⟩;simp only[DataW.weights,tV,AH,o8,decide_eq_true_eq] at JG;simpa using JG
  |slice e=>
   rw[ht] at hd h;simp only at h hd;obtain⟨hu,MT⟩:=hd;obtain⟨hce,R4⟩:=tj hT MT;have hpos:=(hT e MT).pos;rcases DataW.trod_slice hu hx with⟨rfl,rfl⟩|⟨a,len,cap,elems,rest,n,rfl,rfl,rfl,hb,hl,hm,hlen,hel,hsp,_⟩
   ·exact⟨_,.slice ht [] (fun r hr=>(by cases hr)) dh,rfl,one (mF hpos)⟩
   ·obtain⟨hrl,_⟩:=hsp rfl
    simp only[DataW.weights,hu,tV,List.all_append,cJ,decide_eq_true_eq,dH] at JG;obtain⟨hw1,CJ,_⟩:=JG
    have On: ∀(i:Nat) (d:DataW H),(elems.map (·.1))[i]?=some d→(d.weights C.P e).all (· ≤reachBytes)=true:=by
     intro i d hi
     have: ∀(l:List (DataW H)),(DataW.weightsAll C.P e l).all (· ≤reachBytes)=true→ ∀d∈l,(d.weights C.P e).all (· ≤reachBytes)=true:=by
      intro l
      induction l with
      |nil=>intro _ d hd;cases hd
      |cons y r ih=>
       intro h d hd;simp only[DataW.weightsAll,List.all_append,cJ] at h;rcases bC.1 hd with rfl|hd
       ·exact h.1
       ·exact ih h.2 d hd
     exact this _ CJ d (dw hi)
    have each: ∀i,i<len→ ∃row:List TC,vM C.tt e row∧row.length=(C.tt e).size∧ ∀(f:Nat) (c:TC),row[f]?=some c→ ∃u,w.cell? (a.add (i*(C.tt e).size+f))=some u∧ah w (Rp (elems.flatMap (·.2))) .snap vg c u:=by
     intro i hi;have h1:=hel i hi
     have Qg:i<elems.length:=by omega
     rw[aO Qg,hce,Option.bind_eq_some_iff] at h1;obtain⟨vs,hvs,R5⟩:=h1;obtain⟨row,r1,r2,r3⟩:=vO hT m e n vs elems[i] h R5 (On i _ (by rw[ei,aO Qg];rfl));unfold World.cells? at hvs;rw[aY (so _)] at hvs
     have hvl:vs.length=(C.tt e).size:=by simpa using mapM_some_length hvs
     refine⟨row,r1,by rw[r2,hvl],fun f c hf=> ?_⟩
     have hfl:f<(C.tt e).size:=by rw[←hvl,←r2];exact(List.getElem?_eq_some_iff.1 hf).1
     have hg:=mapM_some_get hvs f f (by simp[hfl]);rw[Addr.add_add] at hg;have hv:vs[f]?=some vs[f]:=aO (by rw[hvl];exact hfl);exact⟨vs[f],by rw[hg];exact hv,(r3 f c _ hf hv).gU fun k ⟨y,hy,hk⟩=>⟨y,List.mem_flatMap.2 ⟨_,qo Qg,hy⟩,hk⟩⟩
    obtain⟨rows,Ea,hrow⟩: ∃rows:List (List TC),rows.length=len∧ ∀i row,rows[i]?=some row→vM C.tt e row∧row.length=(C.tt e).size∧ ∀(f:Nat) (c:TC),row[f]?=some c→ ∃u,w.cell? (a.add (i*(C.tt e).size+f))=some u∧ah w (Rp (elems.flatMap (·.2))) .snap vg c u:=by
     refine⟨(List.range len).map fun i=>if hi:i<len then Classical.choose (each i hi) else [],by simp,fun i row hi=> ?_⟩
     have N7:i<len:=by have:=(List.getElem?_eq_some_iff.1 hi).1;simpa using this
     simp[N7] at hi;subst hi;exact Classical.choose_spec (each i N7)
    refine⟨_,.slice ht rows (fun r hr=> ?_) ?_,rfl,one ?_⟩
    ·obtain⟨i,hi,rfl⟩:=List.mem_iff_getElem.1 hr
     exact(hrow i _ (aO hi)).1
    ·rw[Ea,←R4,←hlen]
     exact kr (iM _ (Nat.le_add_right _ _)) hw1
    ·have Lm:=ah.sub (w:=w) (R:=Rp (MemPlace.row a ((elems.length+rest.length)*C.P.cellsOf e)++(elems++rest).flatMap (·.2))) .snap vg (C.tt e).size rows (some a) cap
      (fun i f=>(w.cell? (a.add (i*(C.tt e).size+f))).getD undef) (fun _ _ _=>False) ?_ ?_
     ·rw[Ea] at Lm;exact Lm
     ·refine⟨by omega,hm,hpos,fun r hr=> ?_,fun _=>⟨a,rfl⟩,fun ad ha i f tc ht'=> ?_,fun _ ad ha hne=> ?_,fun hm=>absurd rfl hm,fun hm=>absurd rfl hm,fun hm=>(by cases hm)⟩
      ·obtain⟨i,hi,rfl⟩:=List.mem_iff_getElem.1 hr
       exact(hrow i _ (aO hi)).2.1
      ·cases ha
       unfold mB at ht'
       cases hr:rows[i]? with
       |none=>rw[hr] at ht';cases ht'
       |some row=>
        rw[hr] at ht';obtain⟨u,u1,_⟩:=(hrow i row hr).2.2 f tc ht';rw[u1];rfl
      ·cases ha
       refine⟨.cell a.block (a.off+0),dD _ (List.mem_map.2 ⟨0,List.mem_range.2 ?_,rfl⟩),rfl⟩;rw[hce]
       have:0<rows.length:=by
        cases rows with
        |nil=>exact absurd rfl hne
        |cons _ _=>simp
       exact Nat.mul_pos az hpos
     ·intro i f tc ht'
      unfold mB at ht'
      cases hr:rows[i]? with
      |none=>rw[hr] at ht';cases ht'
      |some row=>
       rw[hr] at ht';obtain⟨u,u1,u2⟩:=(hrow i row hr).2.2 f tc ht';rw[u1];refine u2.gU fun k ⟨y,hy,hk⟩=>⟨y,ga _ ?_,hk⟩;rw[List.flatMap_append];exact dD _ hy
  |struct fs=>
   rw[ht] at hd h;simp only[cJ,List.all_eq_true] at h;obtain⟨hc,ho⟩:=h;obtain⟨fields,hu,hfl,PK⟩:=hd;obtain⟨xs,n,rfl,rfl,hcl,R6,hxs⟩:=DataW.trod_struct hu hx;have R7:=(tj hT hk).1;rw[R7] at hcl;simp only[DataW.weights,hu] at JG
   have each: ∀(j:Nat) (p:Nat×TypeId),fs[j]?=some p→ ∃q:List TC,vM C.tt p.2 q∧q.length=(C.tt p.2).size∧ ∀(i:Nat) (c:TC),q[i]?=some c→ ∃u,cs[p.1+i]?=some u∧ah w (Rp (xs.flatMap (·.2))) .snap vg c u:=by
    intro j p hj;obtain⟨fd,f1,f2,f3,f4,f5⟩:=PK j p hj;have h1:=hxs j fd f1;rw[f2,f3,(tj hT f4).1] at h1
    have Qh:j<xs.length:=by rw[R6,hfl];exact(List.getElem?_eq_some_iff.1 hj).1
    rw[aO Qh] at h1
    have hw:(xs[j].1.weights C.P p.2).all (· ≤reachBytes)=true:=by
     rw[←f3];have:=List.all_eq_true.1 JG;refine List.all_eq_true.2 fun y hy=>this y (DataW.weights_mem_each (ts:=fields.toList.map (·.type)) (ds:=xs.map (·.1)) (j:=j) (by rw[ei];simp[f1]) (by rw[ei,aO Qh];rfl) y hy)
    obtain⟨q,q1,q2,q3⟩:=vO hT m p.2 n _ xs[j] (ho p (dw hj)) h1 hw
    have Q0:q.length=(C.tt p.2).size:=by rw[q2,g7,pg,hcl];omega
    refine⟨q,q1,Q0,fun i c hi=> ?_⟩
    have N7:i<(C.tt p.2).size:=by rw[←Q0];exact(List.getElem?_eq_some_iff.1 hi).1
    have hlt:p.1+i<cs.length:=by rw[hcl];omega
    refine⟨cs[p.1+i],aO hlt,(q3 i c _ hi ?_).gU fun k ⟨y,hy,hk⟩=>⟨y,List.mem_flatMap.2 ⟨_,qo Qh,hy⟩,hk⟩⟩;rw[wI,aY N7,iL];exact aO hlt
   have parts: ∀(fs:List (Nat×TypeId)) (off:Nat),(∀(j:Nat) (p:Nat×TypeId),fs[j]?=some p→ ∃q:List TC,vM C.tt p.2 q∧q.length=(C.tt p.2).size∧ ∀(i:Nat) (c:TC),q[i]?=some c→ ∃u,cs[p.1+i]?=some u∧ah w (Rp (xs.flatMap (·.2))) .snap vg c u)→
    GR C.tt off fs (C.tt t).size=true→ ∃ps:List (List TC),ps.length=fs.length∧(∀(j:Nat) (p:Nat×TypeId) (q:List TC),fs[j]?=some p→ps[j]?=some q→vM C.tt p.2 q)∧off+ps.flatten.length=(C.tt t).size∧
     ∀(i:Nat) (c:TC),ps.flatten[i]?=some c→ ∃u,cs[off+i]?=some u∧ah w (Rp (xs.flatMap (·.2))) .snap vg c u:=by
    intro fs
    induction fs with
    |nil=>intro off _ hc;exact⟨[],rfl,fun j p q h=>by simp at h,cY hc,fun i c h=>by simp at h⟩
    |cons f r ih=>
     intro off he hc;obtain⟨o,ft⟩:=f;simp only[GR] at hc
     split at hc
     ·rename_i hoff
      have hoff:=cY hoff;subst hoff;obtain⟨q,q1,q2,q3⟩:=he 0 _ rfl;simp only at q1 q2 q3;obtain⟨ps,p1,p2,p3,p4⟩:=ih _ (fun j p hj=>he (j+1) p (by simpa using hj)) hc;refine⟨q::ps,by simp[p1],fun j p q' h1 h2=> ?_,by rw[qn,cE,q2];omega,fun i c hi=> ?_⟩
      ·cases j with
       |zero=>simp only[bK,aE] at h1 h2;subst h1 h2;exact q1
       |succ j=>exact p2 j p q' (by simpa using h1) (by simpa using h2)
      ·rw[qn] at hi
       by_cases hlt:i<q.length
       ·rw[e9 hlt] at hi;exact q3 i c hi
       ·rw[fZ az] at hi
        obtain⟨u,u1,u2⟩:=p4 _ c hi;exact⟨u,by rw[←u1];congr 1;omega,u2⟩
     ·cases hc
   obtain⟨ps,p1,p2,p3,p4⟩:=parts fs 0 each hc;refine⟨ps.flatten,.struct ht ps p1 p2,by omega,fun j c v h1 h2=> ?_⟩;obtain⟨u,u1,u2⟩:=p4 j c h1;rw[eK,h2] at u1
   cases u1
   exact u2
  |ptr e=>rw[ht] at h;cases h
  |other=>rw[ht] at h;cases h
end
end Go.T
namespace Go.T
open Go.RowKit
variable {C : e7} {w w' : World}
inductive KZ (tt:TypeId→ec) (t:TypeId):TV→Prop
 |c {c:TC} (h: ∀fs,(tt t).ti≠ .struct fs) (hw:vM tt t [c]):KZ tt t (.c c)
 |ag {fs:List (Nat×TypeId)} {cs:List TC} (h:(tt t).ti= .struct fs) (hw:vM tt t cs):KZ tt t (.ag cs)
inductive DJ (tt:TypeId→ec):List TypeId→List TV→Prop
 |nil:DJ tt [] []
 |cons {t:TypeId} {ts:List TypeId} {v:TV} {vs:List TV} (h:KZ tt t v) (hs:DJ tt ts vs):DJ tt (t::ts) (v::vs)
def Nn (tt:TypeId→ec) (m:Nat) (t:TypeId):Bool:=II tt m t&&Nat.ble (tt t).size 16
section
variable {H : Type} {enc : TypeId × Value → H}
theorem IJ (hT:ct C) {m:Nat} {t:TypeId} {v:Value} {d:DataW H} {p:List MemPlace} {base:Nat} (ht:Nn C.tt m t=true) (hv:Value.okWide C.P w .any base t v)
 (hd:DataW.Trod enc C.P w 0 (fun _=>true) true t v d p) (JG:(d.weights C.P t).all (· ≤reachBytes)=true):
 ∃tv,KZ C.tt t tv∧mz tv=true∧ ∀BB:Nat→Prop,nQ w .borrow (Rp p) BB (fun _ _=>False) (fun _=>False) tv v:=by
 unfold Nn at ht;simp only[cJ] at ht;obtain⟨hok,hsz⟩:=ht;obtain⟨fuel,hf⟩:=hd;obtain⟨tcs,h1,h2,h3⟩:=vO hT m t fuel _ _ hok hf JG;have hk:=vN hok;have hlen:=vM.len hT m t tcs hok h1;have AE:=(hT t hk).desc
 have one:(∀fs,(C.tt t).ti≠ .struct fs)→v.cells= #[v]→ ∃tv,KZ C.tt t tv∧mz tv=true∧ ∀BB:Nat→Prop,nQ w .borrow (Rp p) BB (fun _ _=>False) (fun _=>False) tv v:=by
  intro hn hc;rw[hc] at h2 h3
  match tcs,h1,h2,h3 with
  |[c],h1,h2,h3=>exact⟨.c c,.c hn h1,rfl,fun BB=>h3 0 c v rfl rfl⟩
 cases CH:(C.tt t).ti with
 |int k=>
  rw[CH] at AE;obtain⟨n,rfl⟩:=WideShapes.okWide_int AE hv;exact one (fun fs e=>by rw[CH] at e;cases e) rfl
 |bool=>
  rw[CH] at AE;obtain⟨n,rfl⟩:=WideShapes.okWide_bool AE hv;exact one (fun fs e=>by rw[CH] at e;cases e) rfl
 |str=>
  rw[CH] at AE;obtain⟨n,rfl⟩:=WideShapes.okWide_string AE hv;exact one (fun fs e=>by rw[CH] at e;cases e) rfl
 |slice e=>
  rw[CH] at AE;obtain⟨a,l,c,rfl⟩:=WideShapes.okWide_slice AE.1 hv;exact one (fun fs e=>by rw[CH] at e;cases e) rfl
 |struct fs=>
  rw[CH] at AE;obtain⟨fields,hu,_⟩:=AE;simp only[Value.okWide,hu] at hv;obtain⟨cs,rfl,hcs,_⟩:=hv;refine⟨.ag tcs,.ag CH h1,?_,fun BB=>⟨cs,rfl,?_,fun j c hj=> ?_⟩⟩
  ·simp only[mz,hlen];exact hsz
  ·rw[h2];simp[Value.cells]
  ·have hjl:j<cs.size:=by
    have:=(List.getElem?_eq_some_iff.1 hj).1;rw[h2] at this;simpa [Value.cells] using this
   exact⟨cs[j],lq hjl,h3 j c _ hj (by simp[Value.cells,hjl])⟩
 |ptr e=>
  cases m with
  |zero=>cases hok
  |succ m=>unfold II at hok;rw[CH] at hok;cases hok
 |other=>
  cases m with
  |zero=>cases hok
  |succ m=>unfold II at hok;rw[CH] at hok;cases hok
def yg (v:TV):Prop:=match v with| .c _=>True| .ag _=>True|_=>False
theorem nQ.mono {w:World} {R R' BB:Nat→Prop} {v:TV} {x:Value} (hR: ∀k,R k→R' k) (h:nQ w .borrow R BB (fun _ _=>False) (fun _=>False) v x) (hn:yg v):
 nQ w .borrow R' BB (fun _ _=>False) (fun _=>False) v x:=by
 cases v with
 |c c=>exact ah.gU h hR
 |ag cs=>
  obtain⟨xs,h1,h2,h3⟩:=h;exact⟨xs,h1,h2,fun j c hj=>by obtain⟨u,u1,u2⟩:=h3 j c hj;exact⟨u,u1,u2.gU hR⟩⟩
 |_=>exact hn.elim
theorem KZ.plain {tt:TypeId→ec} {t:TypeId} {v:TV} (h:KZ tt t v):yg v:=by
 cases h<;>trivial
theorem Bj (hT:ct C) {m base:Nat}: ∀(ts:List TypeId) (xs:List Value) (ds:List (DataW H)) (ps:List MemPlace),DataW.TrodAll enc C.P w 0 (fun _=>true) true ts xs ds ps→ts.all (Nn C.tt m)=true→
 (∀(j:Nat) (t:TypeId) (v:Value),ts[j]?=some t→xs[j]?=some v→Value.okWide C.P w .any base t v)→(DataW.weightsEach C.P ts ds).all (· ≤reachBytes)=true→
 ∃vs,DJ C.tt ts vs∧vs.length=ts.length∧xs.length=ts.length∧hJ vs=true∧ ∀(i:Nat) (v:TV),vs[i]?=some v→ ∃x,xs[i]?=some x∧ ∀BB:Nat→Prop,nQ w .borrow (Rp ps) BB (fun _ _=>False) (fun _=>False) v x
 |[],xs,ds,ps,h,_,_,_=>by
  obtain⟨rfl,rfl,rfl⟩:=ChangeShapes.trodAll_nil h;exact⟨[],.nil,rfl,rfl,rfl,fun i v hi=>by simp at hi⟩
 |t::ts,xs,ds,ps,h,ho,hv,hw=>by
  obtain⟨x,xs',d,ds',p,q,rfl,rfl,rfl,h1,h2⟩:=ChangeShapes.trodAll_cons h;simp only[tV,cJ] at ho;simp only[DataW.weightsEach,List.all_append,cJ] at hw;obtain⟨tv,a1,a2,a3⟩:=IJ hT ho.1 (hv 0 t x rfl rfl) h1 hw.1;obtain⟨vs,b1,b2,b3,b4,b5⟩:=Bj hT ts xs' ds' q h2 ho.2 (fun j t v hj Fj=>hv (j+1) t v (by simpa using hj) (by simpa using Fj)) hw.2;refine⟨tv::vs,.cons a1 b1,by simp[b2],by simp[b3],by simp[hJ,a2,b4],fun i v hi=> ?_⟩
  cases i with
  |zero=>
   simp only[bK,aE] at hi;subst hi;exact⟨x,rfl,fun BB=>(a3 BB).mono (fun k ⟨y,hy,hk⟩=>⟨y,dD _ hy,hk⟩) a1.plain⟩
  |succ i=>
   simp only[ju] at hi;obtain⟨x',c1,c2⟩:=b5 i v hi
   have CO:yg v:=by
    have: ∀(ts:List TypeId) (vs:List TV),DJ C.tt ts vs→ ∀(i:Nat) (v:TV),vs[i]?=some v→yg v:=by
     intro ts vs h
     induction h with
     |nil=>intro i v hi;simp at hi
     |cons h hs ih=>
      intro i v hi
      cases i with
      |zero=>simp only[bK,aE] at hi;subst hi;exact h.plain
      |succ i=>exact ih i v (by simpa using hi)
    exact this _ _ b1 i v hi
   exact⟨x',by simpa using c1,fun BB=>(c2 BB).mono (fun k ⟨y,hy,hk⟩=>⟨y,ga _ hy,hk⟩) CO⟩
theorem GS (hC:DH C) {f:FuncId} {ts:List TypeId} {m base:Nat} {W:World} {args:Array Value} {ds:List (DataW H)} {ps:List MemPlace}
 (hA:DataW.TrodAll enc C.P W 0 (fun _=>true) true ts args.toList ds ps) (ho:ts.all (Nn C.tt m)=true)
 (hv: ∀(j:Nat) (t:TypeId) (v:Value),ts[j]?=some t→args[j]?=some v→Value.okWide C.P W .any base t v) (hw:(DataW.weightsEach C.P ts ds).all (· ≤reachBytes)=true)
 (hps:(C.sig f).ps=ts.map fun _=> .borrow) (hn:ts.length≤50)
 (law: ∀vs,DJ C.tt ts vs→ ∃k,dz C k f vs (.c (.sc (.bool true))) []):
 Calls C.P f args W fun e W'=>e= .returned (.bool true)∧Below W.heap.size W W':=by
 have hlt: ∀(ts:List TypeId) (xs:List Value) (ds:List (DataW H)) (ps:List MemPlace),DataW.TrodAll enc C.P W 0 (fun _=>true) true ts xs ds ps→ ∀x∈ps,x.block<W.heap.size:=by
  intro ts
  induction ts with
  |nil=>intro xs ds ps h x hx;obtain⟨_,_,rfl⟩:=ChangeShapes.trodAll_nil h;cases hx
  |cons t ts ih=>
   intro xs ds ps h x hx;obtain⟨_,_,_,_,p,q,_,_,rfl,⟨n,h1⟩,h2⟩:=ChangeShapes.trodAll_cons h;rcases List.mem_append.1 hx with hx|hx
   ·exact DataW.trod_lt n _ _ _ h1 x hx
   ·exact ih _ _ _ h2 x hx
 obtain⟨vs,v1,v2,v3,v4,v5⟩:=Bj hC.ty ts args.toList ds ps hA ho (fun j t v h1 h2=>hv j t v h1 (by simpa using h2)) hw;obtain⟨k,hk⟩:=law vs v1
 have hargs:B1 W (C.sig f).ps vs args.toList (Rp ps) (fun _=>False) (fun _ _ _=>False) (fun _ _=>False):=by
  refine⟨fun i v hi=> ?_,?_,fun i j k h=>h.elim,fun i k h=>h.elim,fun k ⟨x,hx,hk⟩=>hk▸hlt _ _ _ _ hA x hx,fun k h=>h.elim⟩
  ·obtain⟨x,x1,x2⟩:=v5 i v hi
   refine⟨x,x1,?_⟩
   have:(C.sig f).ps.getD i .borrow= .borrow:=by
    rw[hps,ym,ei]
    cases ts[i]?<;>rfl
   rw[this];exact x2 _
  ·unfold lA
   rw[show Nat.ble vs.length 50=true from yq az];exact v4
 have:=(DI hC k f vs _ _ hk).calls W args.toList _ _ _ _ hargs (by rw[hps];simp[v3]);refine Calls.mono this fun e W' ⟨v,he,hp⟩=> ?_;subst he;obtain⟨hf,I,X,ri,fi,hb,hr,_⟩:=hp;obtain⟨CQ,BA⟩:=hr;refine⟨?_,hf.os,hf.tape,hf.output,hf.size,fun k hk=>hf.block k hk (by rintro(⟨_,_,h⟩|⟨_,h⟩)<;>exact h)⟩;have h1:=CQ.2.2.2 (by decide);rw[h1] at BA;have h0:=hb.ok 0 _ (by rw[BA];rfl)
 cases h0
 rfl
end
end Go.T
namespace Go.T
def Bk (C:e7) (f:Nat) (fn:Func):Bool:= !(fn.name== "runtime.NumGoroutine")&&match fn.body with
 |none=>true
 |some c=>jZ fn.ntmps c&&qj C f c
def DK (C:e7):Nat→List Func→Bool
 |_,[]=>true
 |f,fn::r=>Bk C f fn&&DK C (f+1) r
theorem Bl {C:e7}: ∀{f:Nat} {l:List Func},DK C f l=true→ ∀(i:Nat) (fn:Func),l[i]?=some fn→Bk C (f+i) fn=true
 |f,[],_,i,fn,h=>by simp at h
 |f,fn'::r,h,i,fn,hi=>by
  simp only[DK,cJ] at h
  cases i with
  |zero=>simp only[bK,aE] at hi;subst hi;exact h.1
  |succ i=>have:=Bl h.2 i fn (by simpa using hi);rw[show f+(i+1)=f+1+i by omega];exact this
theorem Ke {C:e7} (ty:ct C) (h:DK C 0 C.P.funcs.toList=true) (mix:C.P.follows .mixedOrders=true)
 (ext: ∀(f:FuncId) (p:List TV→Option (TV×List TV)) (vs:List TV) (r:TV) (fs:List TV),C.ext f=some p→p vs=some (r,fs)→Ca C f vs r fs):DH C:=by
 have key: ∀(f:Nat) (fn:Func),C.P.funcs[f]?=some fn→Bk C f fn=true:=fun f fn hf=>by
  have:=Bl h f fn (by simpa using hf)
  rwa [eK] at this
 refine {ty:=ty,name:=fun f fn hf=> ?_,dst:=fun f fn c hf hc=> ?_,yj:=fun f fn c hf hc=> ?_,mix:=mix,ext:=ext}
 ·have:=key f fn hf
  unfold Bk at this;simp only[cJ,o9] at this;exact this.1
 ·have:=key f fn hf
  unfold Bk at this;rw[hc] at this;simp only[cJ] at this;exact this.2.1
 ·have:=key f fn hf
  unfold Bk at this;rw[hc] at this;simp only[cJ] at this;exact this.2.2
end Go.T
namespace Go.T
variable {C : e7}
def ak (C:e7) (f:FuncId) (vs:List TV) (r:TV) (fs:List TV):Prop:= ∃k,dz C k f vs r fs
def z8 (C:e7) (fx:List Nat):Nat→Lp
 |0=>fun _ _ _ _ _=>False
 |n+1=>fun f i c st Q=> ∃k m x st',vt C k fx n f i c m st x st'∧Q x st'
def bL (C:e7) (f:FuncId) (vs:List TV) (Q:TV→List TV→Prop):Prop:= ∃r fs,ak C f vs r fs∧Q r fs
theorem uG {R:Type} {k k':Nat} (hk:k≤k') {fx:List Nat} {n:Nat} {Q:R→Prop} {e:Ev R} (h:e.holds (dz C k) (Eo C (dz C k) k fx n) Q):e.holds (dz C k') (Eo C (dz C k') k' fx n) Q:=
 bY (fun _ _ _ _ h=>fm hk h) (h9 (fun _ _ _ _ h=>fm hk h) hk n) (fun _ h=>h) e h
theorem vt.up {k k' m m':Nat} (hk:k≤k') (hm:m≤m') {fx:List Nat} {n f i:Nat} {c:Code} {st st':TS} {x:TX} (h:vt C k fx n f i c m st x st'):vt C k' fx n f i c m' st x st':=
 rJ (fun _ _ _ _ h=>fm hk h) (h9 (fun _ _ _ _ h=>fm hk h) hk n) (fun _ _ h=>h) m m' hm st h
theorem fK {R:Type} {fx:List Nat} {n:Nat} {Q:R→Prop}: ∀(e:Ev R),e.holds (ak C) (z8 C fx n) Q→ ∃k r,e.holds (dz C k) (Eo C (dz C k) k fx n) (fun r'=>r'=r)∧Q r
 | .fail,h=>h.elim
 | .ret r,h=>⟨0,r,rfl,h⟩
 | .test b k,h=>fK (k b) h
 | .row rows i k,⟨c,h1,h2⟩=>by
   obtain⟨k',r,h3,h4⟩:=fK (k c) h2;exact⟨k',r,⟨c,h1,h3⟩,h4⟩
 | .byte rows i k,⟨c,h1,h2⟩=>by
   obtain⟨k',r,h3,h4⟩:=fK (k c) h2;exact⟨k',r,⟨c,h1,h3⟩,h4⟩
 | .bytes rows k,⟨c,h1,h2⟩=>by
   obtain⟨k',r,h3,h4⟩:=fK (k c) h2;exact⟨k',r,⟨c,h1,h3⟩,h4⟩
 | .call f vs k,⟨r0,fs,⟨k0,h1⟩,h2⟩=>by
   obtain⟨k',r,h3,h4⟩:=fK (k r0 fs) h2;exact⟨max k0 k',r,⟨r0,fs,fm (AK _ _) h1,uG (Nat.le_max_right _ _) h3⟩,h4⟩
 | .loop f i c st k,h=>by
   cases n with
   |zero=>exact h.elim
   |succ n=>
    obtain⟨k0,m,x,st',h1,h2⟩:=h;obtain⟨k',r,h3,h4⟩:=fK (k x st') h2;refine⟨max (max k0 m) k',r,?_,h4⟩;have h5:=(h1.up (k':=max (max k0 m) k') (m':=max (max k0 m) k') az az).ok (bE _);refine h9 (fun _ _ _ _ h=>h) (bE _) (n+1) _ _ _ _ _ _ (fun x1 bD hh=> ?_) h5;obtain⟨rfl,rfl⟩:=hh;exact uG (Nat.le_max_right _ _) h3
 | .both a b,⟨r,h1,h2,h3⟩=>by
   obtain⟨k1,r1,g1,e1⟩:=fK a h1;obtain⟨k2,r2,g2,e2⟩:=fK b h2;rw[e1] at g1;rw[e2] at g2;exact⟨max k1 k2,r,⟨r,uG (AK _ _) g1,uG (Nat.le_max_right _ _) g2,rfl⟩,h3⟩
theorem bL.IK {f:FuncId} {vs:List TV} {Q:TV→List TV→Prop} (h:(body C f vs).holds (ak C) (z8 C (yC (C.sig f)) 4) fun p=>Q p.1 p.2) (hx:C.ext f=none:=by rfl):bL C f vs Q:=by
 obtain⟨k,⟨r,fs⟩,h1,h2⟩:=fK _ h;exact⟨r,fs,⟨k+1,Ep hx h1⟩,h2⟩
theorem ak.ext {f:FuncId} {vs:List TV} {r:TV} {fs:List TV} {p:List TV→Option (TV×List TV)} (hx:C.ext f=some p) (h:p vs=some (r,fs)):ak C f vs r fs:=⟨1,Gu hx h⟩
theorem z8.round {fx:List Nat} {n f i:Nat} {c:Code} {st:TS} {Q:TX→TS→Prop} (h:(run C fx f i c st AQ).holds (ak C) (z8 C fx n) fun p=>match p with
 |(.norm,st')=>Gt (C6 (C.lb f i) st') fun st'=>z8 C fx (n+1) f i c st' Q
 |(x,st')=>Q x st'):z8 C fx (n+1) f i c st Q:=by
 obtain⟨k,⟨x,bD⟩,h1,h2⟩:=fK _ h
 cases x with
 |norm=>
  simp only at h2;rw[jd] at h2;obtain⟨k0,m,x,st',h3,h4⟩:=h2;refine⟨max k k0,m+1,x,st',?_,h4⟩;have h5:=h3.up (k':=max k k0) (m':=m) (Nat.le_max_right _ _) (bE _);refine bY (fun _ _ _ _ h=>fm (AK _ _) h) (h9 (fun _ _ _ _ h=>fm (AK _ _) h) (AK _ _) n) (fun r hr=> ?_) _ h1;subst hr;simp only;rw[jd];exact h5
 |ex id=>exact⟨k,1,.ex id,bD,bY (fun _ _ _ _ h=>h) (h9 (fun _ _ _ _ h=>h) (bE _) n) (fun r hr=>by subst hr;exact⟨rfl,rfl⟩) _ h1,h2⟩
 |ret=>exact⟨k,1,.ret,bD,bY (fun _ _ _ _ h=>h) (h9 (fun _ _ _ _ h=>h) (bE _) n) (fun r hr=>by subst hr;exact⟨rfl,rfl⟩) _ h1,h2⟩
theorem z8.mono {fx:List Nat} {n f i:Nat} {c:Code} {st:TS} {Q Q':TX→TS→Prop} (hQ: ∀x s,Q x s→Q' x s) (h:z8 C fx n f i c st Q):z8 C fx n f i c st Q':=by
 cases n with
 |zero=>exact h.elim
 |succ n=>obtain⟨k,m,x,st',h1,h2⟩:=h;exact⟨k,m,x,st',h1,hQ _ _ h2⟩
inductive Sh where
 |int (k:IntKind)|bool|str|sub (z:Nat)
inductive CM where
 |c (s:Sh)|ag (l:List Sh)|tu (l:List (Nat×List Sh))|bx (l:List Sh)
inductive Hint where
 |z|br (a b:Hint)|both (a b:Hint)|nest (a b:Hint)|row (l:List Sh) (h:Hint)|call (r:CM) (fs:List CM) (h:Hint)|n (h:Hint)
def Pf:Sh→(TC→Prop)→Prop
 | .int k,P=> ∃n:Int,P (.sc (.int k n))
 | .bool,P=> ∃b:Bool,P (.sc (.bool b))
 | .str,P=> ∃s:ByteArray,P (.sc (.string s))
 | .sub z,P=> ∃rows:List (List TC),P (.sub z rows)
def GU:List Sh→(List TC→Prop)→Prop
 |[],P=>P []
 |s::r,P=>Pf s fun c=>GU r fun cs=>P (c::cs)
def Pg:List (Nat×List Sh)→(List (Nat×List TC)→Prop)→Prop
 |[],P=>P []
 |(a,s)::r,P=>GU s fun c=>Pg r fun cs=>P ((a,c)::cs)
def Ph:CM→(TV→Prop)→Prop
 | .c s,P=>Pf s fun c=>P (.c c)
 | .ag l,P=>GU l fun c=>P (.ag c)
 | .tu l,P=>Pg l fun c=>P (.tu c)
 | .bx l,P=>GU l fun c=>P (.bx c)
def L0:List CM→(List TV→Prop)→Prop
 |[],P=>P []
 |s::r,P=>Ph s fun c=>L0 r fun cs=>P (c::cs)
theorem IL: ∀{s:Sh} {P:TC→Prop},Pf s P→ ∃c,P c
 | .int _,_,⟨_,h⟩=>⟨_,h⟩
 | .bool,_,⟨_,h⟩=>⟨_,h⟩
 | .str,_,⟨_,h⟩=>⟨_,h⟩
 | .sub _,_,⟨_,h⟩=>⟨_,h⟩
theorem uH: ∀{l:List Sh} {P:List TC→Prop},GU l P→ ∃c,P c
 |[],_,h=>⟨_,h⟩
 |_::_,_,h=>by obtain⟨c,h⟩:=IL h;obtain⟨cs,h⟩:=uH h;exact⟨_,h⟩
theorem IM: ∀{l:List (Nat×List Sh)} {P:List (Nat×List TC)→Prop},Pg l P→ ∃c,P c
 |[],_,h=>⟨_,h⟩
 |(_,_)::_,_,h=>by obtain⟨c,h⟩:=uH h;obtain⟨cs,h⟩:=IM h;exact⟨_,h⟩
theorem IN: ∀{s:CM} {P:TV→Prop},Ph s P→ ∃c,P c
 | .c _,_,h=>by obtain⟨c,h⟩:=IL h;exact⟨_,h⟩
 | .ag _,_,h=>by obtain⟨c,h⟩:=uH h;exact⟨_,h⟩
 | .tu _,_,h=>by obtain⟨c,h⟩:=IM h;exact⟨_,h⟩
 | .bx _,_,h=>by obtain⟨c,h⟩:=uH h;exact⟨_,h⟩
theorem F1: ∀{l:List CM} {P:List TV→Prop},L0 l P→ ∃c,P c
 |[],_,h=>⟨_,h⟩
 |_::_,_,h=>by obtain⟨c,h⟩:=IN h;obtain⟨cs,h⟩:=F1 h;exact⟨_,h⟩
def aX (b:Bool) (A B:Prop):Prop:=match b with|true=>A|false=>B
def Ev.pre {R:Type} (cf:Cf) (lp:Lp) (Q:R→Prop):Ev R→Hint→Prop
 | .fail,_=>False
 | .ret r,_=>Q r
 | .test b k,h=>match h with| .br h1 h2=>aX b ((k true).pre cf lp Q h1) ((k false).pre cf lp Q h2)|_=>False
 | .row rows i k,h=>match h with| .row l h=>GU l fun c=>rowAt rows i=some c∧(k c).pre cf lp Q h|_=>False
 | .byte s i k,h=>match h with| .n h=> ∃b,vi s i=some b∧(k b).pre cf lp Q h|_=>False
 | .bytes rows k,h=>match h with| .n h=> ∃ns,nJ rows=some ns∧(k ns).pre cf lp Q h|_=>False
 | .call f vs k,h=>match h with| .call r fs h=>Ph r fun r=>L0 fs fun fs=>cf f vs r fs∧(k r fs).pre cf lp Q h|_=>False
 | .loop f i c st k,_=>lp f i c st fun x st'=>(k x st').holds cf lp Q
 | .both a b,h=>match h with| .both h1 h2=> ∃r,a.pre cf lp (fun r'=>r'=r) h1∧b.pre cf lp (fun r'=>r'=r) h2∧Q r| .nest h1 h2=>a.pre cf lp (fun r=>b.pre cf lp (fun r'=>r'=r) h2∧Q r) h1|_=>False
theorem jH {R:Type} {fx:List Nat} {n:Nat} {Q:R→Prop}: ∀(e:Ev R),e.holds (ak C) (z8 C fx n) Q→ ∃r,e.holds (ak C) (z8 C fx n) (fun r'=>r'=r)∧Q r
 | .fail,h=>h.elim
 | .ret r,h=>⟨r,rfl,h⟩
 | .test b k,h=>jH (k b) h
 | .row rows i k,⟨c,h1,h2⟩=>by obtain⟨r,h3,h4⟩:=jH (k c) h2;exact⟨r,⟨c,h1,h3⟩,h4⟩
 | .byte rows i k,⟨c,h1,h2⟩=>by obtain⟨r,h3,h4⟩:=jH (k c) h2;exact⟨r,⟨c,h1,h3⟩,h4⟩
 | .bytes rows k,⟨c,h1,h2⟩=>by obtain⟨r,h3,h4⟩:=jH (k c) h2;exact⟨r,⟨c,h1,h3⟩,h4⟩
 | .call f vs k,⟨r0,fs,h1,h2⟩=>by obtain⟨r,h3,h4⟩:=jH (k r0 fs) h2;exact⟨r,⟨r0,fs,h1,h3⟩,h4⟩
 | .loop f i c st k,h=>by
   cases n with
   |zero=>exact h.elim
   |succ n=>
    obtain⟨k0,m,x,st',h1,h2⟩:=h;obtain⟨r,h3,h4⟩:=jH (k x st') h2;exact⟨r,⟨k0,m,x,st',h1,h3⟩,h4⟩
 | .both a b,⟨r,h1,h2,h3⟩=>⟨r,⟨r,h1,h2,rfl⟩,h3⟩
theorem jI {R:Type} {fx:List Nat} {n:Nat} {Q:R→Prop}: ∀(e:Ev R) (h:Hint),e.pre (ak C) (z8 C fx n) Q h→e.holds (ak C) (z8 C fx n) Q
 | .fail,_,h=>h
 | .ret r,_,h=>h
 | .test b k,.br h1 h2,h=>by
   cases b
   ·exact jI (k false) h2 h
   ·exact jI (k true) h1 h
 | .row rows i k,.row l hh,h=>by obtain⟨c,h1,h2⟩:=uH h;exact⟨c,h1,jI _ _ h2⟩
 | .byte s i k,.n hh,⟨b,h1,h2⟩=>⟨b,h1,jI _ _ h2⟩
 | .bytes s k,.n hh,⟨b,h1,h2⟩=>⟨b,h1,jI _ _ h2⟩
 | .call f vs k,.call r fs hh,h=>by obtain⟨r,h⟩:=IN h;obtain⟨fs,h1,h2⟩:=F1 h;exact⟨r,fs,h1,jI _ _ h2⟩
 | .loop f i c st k,_,h=>h
 | .both a b,.both ha hb,⟨r,h1,h2,h3⟩=>⟨r,jI a ha h1,jI b hb h2,h3⟩
 | .both a b,.nest ha hb,h=>by
   obtain⟨r,h1,h2,h3⟩:=jH a (jI a ha h);exact⟨r,h1,jI b hb h2,h3⟩
inductive uI where
 |l|r|b
def EV:Code→List uI→Code
 |c,[]=>c
 | .seq a b,d::p=>match d with| .l=>EV a p|_=>EV b p
 | .cond _ a b,d::p=>match d with| .l=>EV a p|_=>EV b p
 | .block _ a,_::p=>EV a p
 | .loop a,_::p=>EV a p
 |c,_=>c
def K0 (C:e7) (f:FuncId):Code:=match C.P.funcs[f]? with
 |none=> .skip
 |some fn=>match fn.body with
  |none=> .skip
  |some c=>c
def Pj (C:e7) (f:FuncId):List ResultVar:=match C.P.funcs[f]? with
 |none=>[]
 |some fn=>fn.results.toList
def EW (C:e7) (f:FuncId) (p:List uI):Code:=match EV (K0 C f) p with
 | .loop c=>c
 |c=>c
def after (C:e7) (fx:List Nat) (f:FuncId) {R:Type}:Nat→Code→List uI→(TX→TS→Ev R)→(TX→TS→Ev R)
 |i,.seq a b,d::p,K=>match d with
  | .l=>after C fx f i a p fun x st'=>match x with
    | .norm=>run C fx f i b st' K
    |x=>K x st'
  |_=>after C fx f i b p K
 |i,.cond _ a b,d::p,K=>match d with
  | .l=>after C fx f i a p K
  |_=>after C fx f i b p K
 |_,.block id a,_::p,K=>after C fx f id a p fun x st'=>match x with
  | .ex id'=>match Nat.beq id' id with|true=>K .norm st'|false=>K (.ex id') st'
  |x=>K x st'
 |_,_,_,K=>K
abbrev IP (C:e7) (f:FuncId):List Nat:=yC (C.sig f)
def IQ (C:e7) (f:FuncId) (p:List uI):TX→TS→Ev (TV×List TV):=after C (IP C f) f 0 (K0 C f) p (HF C (C.sig f) (Pj C f))
def an (C:e7) (f:FuncId) (p:List uI) (n i:Nat) (st:TS) (Q:TX→TS→Prop):Prop:=z8 C (IP C f) n f i (EW C f p) st Q
def aV (C:e7) (f:FuncId) (p:List uI) (x:TX) (st:TS) (Q:TV→List TV→Prop):Prop:=(IQ C f p x st).holds (ak C) (z8 C (IP C f) 4) fun p=>Q p.1 p.2
def No (C:e7) (f:FuncId) (p:List uI) (n i:Nat) (Q:TX→TS→Prop):TX×TS→Prop
 |(.norm,st')=>Gt (C6 (C.lb f i) st') fun st'=>an C f p n i st' Q
 |(x,st')=>Q x st'
theorem Np {f:FuncId} {vs:List TV} {Q:TV→List TV→Prop} {Φ:Prop} (h:Hint) (e:(body C f vs).pre (ak C) (z8 C (IP C f) 4) (fun p=>Q p.1 p.2) h=Φ) (hΦ:Φ) (hx:C.ext f=none:=by rfl):bL C f vs Q:=
 bL.IK (jI _ h (e▸hΦ)) hx
theorem L3 {f:FuncId} {p:List uI} {x:TX} {st:TS} {Q:TV→List TV→Prop} {Φ:Prop} (h:Hint) (e:(IQ C f p x st).pre (ak C) (z8 C (IP C f) 4) (fun p=>Q p.1 p.2) h=Φ) (hΦ:Φ):aV C f p x st Q:=
 jI _ h (e▸hΦ)
theorem L4 {f:FuncId} {p:List uI} {n i:Nat} {st:TS} {Q:TX→TS→Prop} {Φ:Prop} (h:Hint) (e:(run C (IP C f) f i (EW C f p) st AQ).pre (ak C) (z8 C (IP C f) n) (No C f p (n+1) i Q) h=Φ) (hΦ:Φ):an C f p (n+1) i st Q:=by
 refine z8.round ?_;have:=jI _ h (e▸hΦ);exact bY (fun _ _ _ _ h=>h) (fun f i c st Q Q' hQ hh=>hh.mono hQ) (fun r hr=>by obtain⟨x,st'⟩:=r;cases x<;>exact hr) _ this
theorem bL.run {f:FuncId} {vs:List TV} {r:TV} {fs:List TV} (h:bL C f vs fun r' fs'=>r'=r∧fs'=fs):ak C f vs r fs:=by
 obtain⟨r',fs',h1,rfl,rfl⟩:=h;exact h1
end Go.T
namespace Go.T
@[simp] theorem qK {A B:Prop}:aX true A B=A:=rfl
@[simp] theorem zh {A B:Prop}:aX false A B=B:=rfl
@[simp] theorem dy {b:Bool} {A B:Prop}:aX (!b) A B=aX b B A:=by cases b<;>rfl
@[simp] theorem jg {a b:Bool} {A B:Prop}:aX (a&&b) A B=aX a (aX b A B) B:=by cases a<;>rfl
@[simp] theorem lN {a b:Bool} {A B:Prop}:aX (a||b) A B=aX a A (aX b A B):=by cases a<;>rfl
@[simp] theorem dZ {p:Prop} [Decidable p] {A B:Prop}:aX (decide p) A B=if p then A else B:=by
  by_cases h:p<;>simp[h]
theorem au {b:Bool} {A B:Prop} (h:b=true) (hA:A):aX b A B:=by subst h;exact hA
theorem aL {b:Bool} {A B:Prop} (h:b=false) (hB:B):aX b A B:=by subst h;exact hB
theorem gE {b:Bool} {A B:Prop} (hA:b=true→A) (hB:b=false→B):aX b A B:=by cases b;exact hB rfl;exact hA rfl
@[simp] theorem vP (a b:Int):ej a b=decide (a<b):=by unfold ej;rfl
@[simp] theorem vQ (a b:Int):sQ a b=decide (a≤b):=by unfold sQ;rfl
@[simp] theorem fX (a b:Int):gW a b=decide (a=b):=by unfold gW;by_cases h:a=b<;>simp[h]
@[simp] theorem Pk (a b:Bool):Jv a b=decide (a=b):=by unfold Jv;cases a<;>cases b<;>rfl
theorem GV {a b:ByteArray} (h:a.toList=b.toList):a=b:=by
 rw[ByteArray.toList_eq,ByteArray.toList_eq] at h;obtain⟨⟨x⟩⟩:=a;obtain⟨⟨y⟩⟩:=b;simp only at h;rw[h]
@[simp] theorem Pm (a b:ByteArray):Ee a b=decide (a=b):=by
  unfold Ee
  by_cases h:a=b
  ·subst h;simp
  ·have:a.toList≠b.toList:=fun e=>h (GV e)
   simp[h,this]
@[simp] theorem Kf (n b:Nat):fits n b=decide (n*b≤140737488355328∧n≤140737488355328):=by unfold fits;rfl
@[simp] theorem Oy (n:Int):tY n=n.toNat:=by unfold tY;rfl
@[simp] theorem Nq (a b:Int):tZ a b=a+b:=by unfold tZ;rfl
@[simp] theorem Oz (a b:Int):Ho a b=if b<a then b else a:=by unfold Ho;rfl
theorem Kg {a b:Int} (h: -9223372036854775808≤a+b∧a+b≤9223372036854775807):Ef .i64 a b=a+b:=by unfold Ef;exact IntWalk.i64_in _ h
theorem Kh {a b:Int} (h: -9223372036854775808≤a-b∧a-b≤9223372036854775807):yu .i64 a b=a-b:=by unfold yu;exact IntWalk.i64_in _ h
theorem Ce {a b:Int} (h: -9223372036854775808≤a*b∧a*b≤9223372036854775807):Eg .i64 a b=a*b:=by unfold Eg;exact IntWalk.i64_in _ h
@[simp] theorem F2 (a b:Int):Eh a b=a.tmod b:=by unfold Eh;rfl
theorem EX (l:List (List TC)) (i f:Nat) (cs:List TC) {r:List TC} (h:l[i]?=some r):setRow l (i:Int) f cs=l.set i (r.take f++cs++r.drop (f+cs.length)):=by
 unfold setRow;rw[Hh,h]
theorem zi {α:Type} {e:α→List TC} {l:List α} {i:Nat} {a a':α} {f:Nat} {cs:List TC} (h:l[i]?=some a) (he:(e a).take f++cs++(e a).drop (f+cs.length)=e a'):setRow (l.map e) (i:Int) f cs=(l.set i a').map e:=by
 rw[EX (r:=e a) _ _ _ _ (by rw[ei,h];rfl),he,List.map_set]
section
variable {C : e7}
end
section
variable {tt : TypeId → ec} {t : TypeId} {cs : List TC}
theorem vM.Ki {k:IntKind} (ht:(tt t).ti= .int k) (h:vM tt t cs): ∃n,cs=[.sc (.int k n)]∧(Lit.int k n).wf=true:=by
 cases h with
 |int h1 h2=>rw[ht] at h1;cases h1;exact⟨_,rfl,h2⟩
 |bool h1=>rw[ht] at h1;cases h1
 |str h1 _=>rw[ht] at h1;cases h1
 |slice h1 _ _ _=>rw[ht] at h1;cases h1
 |struct h1 _ _ _=>rw[ht] at h1;cases h1
theorem Nr {n:Int} (h:(Lit.int .u8 n).wf=true):0≤n∧n≤255:=by
 simp only[Lit.wf,cJ,decide_eq_true_eq] at h;have h1:IntKind.u8.min=0:=rfl;have h2:IntKind.u8.max=255:=rfl;omega
theorem vM.GW {e:TypeId} (ht:(tt t).ti= .slice e) (h:vM tt t cs): ∃rows,cs=[.sub (tt e).size rows]∧(∀r∈rows,vM tt e r)∧rows.length*(tt e).bytes≤reachBytes:=by
 cases h with
 |int h1 h2=>rw[ht] at h1;cases h1
 |bool h1=>rw[ht] at h1;cases h1
 |str h1 h2=>rw[ht] at h1;cases h1
 |slice h1 rows h2 h3=>rw[ht] at h1;cases h1;exact⟨_,rfl,h2,h3⟩
 |struct h1 _ _ _=>rw[ht] at h1;cases h1
inductive Cg (tt:TypeId→ec):List (Nat×TypeId)→List TC→Prop
 |nil:Cg tt [] []
 |cons {p:Nat×TypeId} {fs:List (Nat×TypeId)} {q cs:List TC} (h:vM tt p.2 q) (hs:Cg tt fs cs):Cg tt (p::fs) (q++cs)
theorem zj {α:Type} {e:α→List TC} {W:α→Prop}: ∀{rows:List (List TC)},(∀r∈rows,∃a,r=e a∧W a)→ ∃l:List α,rows=l.map e∧ ∀a∈l,W a
 |[],_=>⟨[],rfl,fun a h=>by cases h⟩
 |r::rows,h=>by
  obtain⟨a,rfl,ha⟩:=h r (.head _);obtain⟨l,rfl,hl⟩:=zj (rows:=rows) fun r hr=>h r (.tail _ hr);refine⟨a::l,rfl,fun b hb=> ?_⟩;rcases bC.1 hb with rfl|hb
  ·exact ha
  ·exact hl b hb
end
end Go.T
namespace Go.T
open Go.RowKit
variable {C : e7}
section
variable {H : Type} {enc : TypeId × Value → H}
theorem DL {P:Program} {W W':World} (hl:laidOutB P=true) (hb:Below W.heap.size W W'): ∀{ts:List TypeId} {vs:List Value} {ds:List (DataW H)} {ps:List MemPlace},ts.all (fun t=>P.readableRec t&&decide (t<P.types.size))=true→DataW.TrodAll enc P W 0 (fun _=>true) true ts vs ds ps→
 DataW.TrodAll enc P W' 0 (fun b=>decide (b<W.heap.size)) true ts vs ds ps
 |[],vs,ds,ps,_,h=>by
  obtain⟨rfl,rfl,rfl⟩:=ChangeShapes.trodAll_nil h;exact ChangeShapes.trodAll_mk0
 |t::ts,vs,ds,ps,hr,h=>by
  obtain⟨v,vs',d,ds',p,q,rfl,rfl,rfl,h1,h2⟩:=ChangeShapes.trodAll_cons h;simp only[tV,cJ,decide_eq_true_eq] at hr
  have hlt: ∀x∈p,x.block<W.heap.size:=by obtain⟨n,hn⟩:=h1;exact DataW.trod_lt n _ _ _ hn
  exact trodAll_cons_mk (Below.trod hl hr.1.1 hr.1.2 h1 hb hlt) (DL hl hb hr.2 h2)
theorem wY {P:Program} {W:World}: ∀{ts:List TypeId} {vs:List Value} {ds:List (DataW H)} {ps:List MemPlace},DataW.TrodAll enc P W 0 (fun _=>true) true ts vs ds ps→ds.length=ts.length
 |[],vs,ds,ps,h=>by obtain⟨rfl,rfl,rfl⟩:=ChangeShapes.trodAll_nil h;rfl
 |t::ts,vs,ds,ps,h=>by
  obtain⟨v,vs',d,ds',p,q,rfl,rfl,rfl,h1,h2⟩:=ChangeShapes.trodAll_cons h;simp[wY h2]
theorem IS (hC:DH C) {f:FuncId} {fn:Func} {s:ChangeSpec} {ts:List TypeId} {tb:TypeId} {m base:Nat} {W:World} {args:Array Value} {ds gs:List (DataW H)} {before:List MemPlace} (Oo:laidOutB C.P=true)
 (hfn:fn.params.toList=ts) (hres:fn.resultTypes= #[tb]) (htb:C.P.underlying tb=some .bool) (hvars:s.vars=[]) (Oq:ts.all (fun t=>C.P.readableRec t&&decide (t<C.P.types.size))=true) (ho:ts.all (Nn C.tt m)=true)
 (hps:(C.sig f).ps=ts.map fun _=> .borrow) (hn:ts.length≤50) (Ot: ∀ds:List (DataW H),ds.length=ts.length→(s.fn H ds).results=[.lit (.bool true)]∧(s.fn H ds).args=ds∧(s.fn H ds).vars=[])
 (law: ∀vs,DJ C.tt ts vs→ ∃k,dz C k f vs (.c (.sc (.bool true))) [])
 (hval: ∀(j:Nat) t v,fn.params[j]?=some t→args[j]?=some v→Value.okWide C.P W .any base t v) (hW:DataW.Whole enc C.P fn.params.toList s.vars false W args.toList ds gs before)
 (hsz:(DataW.weightsEach C.P (fn.params.toList++s.plain.varTypes C.P) (ds++gs)).all (· ≤reachBytes)=true):
 Calls C.P f args W fun e W'=> ∃v,e= .returned v∧s.post enc C.P fn false true false false W args v W':=by
 have R8:=hW;obtain⟨p,q,hA,hV,rfl,hfz,Eb⟩:=hW;rw[hvars] at hV;obtain⟨rfl,rfl⟩:=ChangeShapes.trodVars_none hV
 have R9:s.plain.varTypes C.P=[]:=by
  unfold ChangeSpec.plain DataSpec.varTypes;rw[hvars];rfl
 rw[R9,lu,lu,hfn] at hsz;rw[hfn] at hA;refine(GS hC hA ho (fun j t v h1 h2=>hval j t v (by rw[←hfn] at h1;simpa using h1) h2) hsz hps hn law).mono fun e W' ⟨he,bel⟩=> ?_;subst he;obtain⟨s1,s2,s3⟩:=Ot ds (wY hA);refine⟨_,rfl,ds,[],_,[],p,[],R8,?_,?_,?_,bel.frame _,fun h=>by cases h⟩
 ·rw[lu,s1,hres]
  exact ChangeShapes.trodAll_mk1 (shut_bool htb _)
 ·rw[lu,s2,hfn]
  exact DL Oo bel Oq hA
 ·rw[lu,s3,hvars]
  rfl
end
end Go.T
