import Derived.Test.YtlkjkfidmkdchaaGreatT1
import Derived.Laws.Slices
import Derived.Laws.Strings
import Derived.Laws.Concat
import Derived.Laws.Cover1
import Derived.Laws.BytesString
import Derived.Laws.Entries
import Derived.Laws.Cells
import Derived.Laws.Small
import Derived.Laws.StructEq
import Derived.Laws.Unary
import Derived.Laws.Strings2
import Derived.Laws.Tables
import Derived.Laws.BytesArg
set_option linter.all false
namespace Go.T
def ahm:TC→Value
 | .sc v=>v
 | .sub _ _=> .slice none 0 0
 | .any=> .slice none 0 0
def aaP:TC→Bool
 | .sc (.int _ _)=>true
 | .sc (.bool _)=>true
 | .sc (.string _)=>true
 | .sub z []=>Nat.ble 1 z
 |_=>false
def ak7:TC→Bool
 | .sc _=>true
 |_=>false
def eqK (P:Program) (k:Nat) (t:TypeId):Bool:=match k,P.underlying t with
 |1,some (.int _)=>true
 |2,some .bool=>true
 |3,some .string=>true
 |_,_=>false
def aho (P:Program):List Nat→Nat→List Field→Bool
 |[],_,[]=>true
 |k::ks,j,f::r=>Nat.beq f.offset j&& !(f.name== "_")&&eqK P k f.type&&aho P ks (j+1) r
 |_,_,_=>false
def aeO (P:Program) (ks:List Nat) (t:TypeId):Bool:= !P.stoodInHeld t&& !P.eqGuardType P.depth t&&match P.underlying t with
 |some (.struct fields)=>aho P ks 0 fields.toList
 |_=>false
structure Hi (P:Program) (tt:TypeId→mK) (t:TypeId) where
 info: ∃i z,P.info? t=some i∧i.size=(tt t).size∧i.bytes=(tt t).bytes∧i.zero=some z∧((∀e,(tt t).ti≠ .ptr e)→z.cells.toList=(tt t).zero.map ahm∧(tt t).zero.length=(tt t).size∧(tt t).zero.all aaP=true∧
  ((∃fs,(tt t).ti= .struct fs)∧z= .agg z.cells∨(∀fs,(tt t).ti≠ .struct fs)∧z.cells= #[z]))
 pos:0<(tt t).size
 flat:(tt t).flat=(tt t).zero.all ak7
 eqs:(tt t).eqs≠[]→aeO P (tt t).eqs t=true
 one:(∀fs,(tt t).ti≠ .struct fs)→(tt t).size=1
 desc:match(tt t).ti with
  | .int k=>P.underlying t=some (.int k)
  | .bool=>P.underlying t=some .bool
  | .str=>P.underlying t=some .string
  | .slice e=>P.underlying t=some (.slice e)∧known (tt e)=true
  | .ptr e=>P.underlying t=some (.pointer e)∧known (tt e)=true
  | .struct fs=> ∃fields,P.underlying t=some (.struct fields)∧fields.size=fs.length∧ ∀(j:Nat) (p:Nat×TypeId),fs[j]?=some p→ ∃f,fields[j]?=some f∧f.offset=p.1∧f.type=p.2∧known (tt p.2)=true∧
      p.1+(tt p.2).size≤(tt t).size
  | .other=>False
def ij (C:mG):Prop:= ∀t,known (C.tt t)=true→Hi C.P C.tt t
def J8 (tt:TypeId→mK) (size:Nat):List (Nat×TypeId)→List Field→Bool
 |[],[]=>true
 |p::r,f::s=>Nat.beq f.offset p.1&&Nat.beq f.type p.2&&known (tt p.2)&&Nat.ble (p.1+(tt p.2).size) size&&J8 tt size r s
 |_,_=>false
def aaQ:IntKind→IntKind→Bool:=fun a b=>decide (a=b)
def aeP:Value→Value→Bool
 | .int k a,.int k' b=>aaQ k k'&&decide (a=b)
 | .bool a,.bool b=>a==b
 | .string a,.string b=>decide (a.data=b.data)
 | .slice none 0 0,.slice none 0 0=>true
 |_,_=>false
theorem aeQ {a b:Value} (h:aeP a b=true):a=b:=by
 unfold aeP at h
 split at h
 ·simp only[aaQ,dY,decide_eq_true_eq] at h;rw[h.1,h.2]
 ·rw[eq_of_beq h]
 ·rename_i a b
  have:=th h
  cases a;cases b;simp_all
 ·rfl
 ·cases h
def WC:List Value→List Value→Bool
 |[],[]=>true
 |a::r,b::s=>aeP a b&&WC r s
 |_,_=>false
theorem Vy: ∀{a b:List Value},WC a b=true→a=b
 |[],[],_=>rfl
 |a::r,b::s,h=>by
  simp only[WC,dY] at h;rw[aeQ h.1,Vy h.2]
 |[],_::_,h=>by cases h
 |_::_,[],h=>by cases h
def isStr (i:mK):Bool:=match i.ti with| .struct _=>true|_=>false
def aeR (i:mK):Bool:=match i.ti with| .ptr _=>true|_=>false
def zOk (i:mK) (z:Value):Bool:=aeR i||(WC z.cells.toList (i.zero.map ahm)&&Nat.beq i.zero.length i.size&&i.zero.all aaP&&
 match z with
 | .agg _=>isStr i
 | .tuple _=>false
 |_=> !isStr i)
def ace (P:Program) (tt:TypeId→mK) (t:TypeId):Bool:=
 !known (tt t)||(
   (match P.info? t with
     |some i=>Nat.beq i.size (tt t).size&&Nat.beq i.bytes (tt t).bytes&&match i.zero with
      |some z=>zOk (tt t) z
      |none=>false
     |none=>false)&&
   Nat.ble 1 (tt t).size&&(((tt t).flat==(tt t).zero.all ak7)&&((match(tt t).eqs with|[]=>true|_=>false)||aeO P (tt t).eqs t))&&(isStr (tt t)||Nat.beq (tt t).size 1)&&
   match(tt t).ti,P.underlying t with
   | .int k,some (.int k')=>aaQ k k'
   | .bool,some .bool=>true
   | .str,some .string=>true
   | .slice e,some (.slice e')=>Nat.beq e e'&&known (tt e)
   | .ptr e,some (.pointer e')=>Nat.beq e e'&&known (tt e)
   | .struct fs,some (.struct fields)=>J8 tt (tt t).size fs fields.toList
   |_,_=>false)
theorem Ia {tt:TypeId→mK} {size:Nat}: ∀{fs:List (Nat×TypeId)} {l:List Field},J8 tt size fs l=true→l.length=fs.length∧ ∀(j:Nat) (p:Nat×TypeId),fs[j]?=some p→
 ∃f,l[j]?=some f∧f.offset=p.1∧f.type=p.2∧known (tt p.2)=true∧p.1+(tt p.2).size≤size
 |[],[],_=>⟨rfl,fun j p h=>by simp at h⟩
 |p::r,f::s,h=>by
  simp only[J8,dY] at h;obtain⟨⟨⟨⟨h1,h2⟩,h3⟩,h4⟩,h5⟩:=h;obtain⟨g1,g2⟩:=Ia h5;refine⟨by simp[g1],fun j q hj=> ?_⟩
  cases j with
  |zero=>
   simp only[fu,bq] at hj;subst hj;exact⟨f,rfl,jw h1,jw h2,h3,tX h4⟩
  |succ j=>
   simp only[tU] at hj ⊢;exact g2 j q hj
 |[],_::_,h=>by cases h
 |_::_,[],h=>by cases h
theorem aaR {P:Program} {tt:TypeId→mK} {t:TypeId} (h:ace P tt t=true) (hk:known (tt t)=true):Hi P tt t:=by
 unfold ace at h;rw[hk] at h;simp only[QC,HZ,dY] at h;obtain⟨⟨⟨⟨h1,h2⟩,h3⟩,h4⟩,h5⟩:=h
 have hone:(∀fs,(tt t).ti≠ .struct fs)→(tt t).size=1:=fun hf=>by
  rcases Bool.or_eq_true _ _▸h4 with h|h
  ·unfold isStr at h
   split at h
   ·rename_i fs e;exact absurd e (hf fs)
   ·cases h
  ·exact jw h
 obtain⟨h3,h3'⟩:=h3
 refine⟨?_,tX h2,eq_of_beq h3,fun he=>by
  rcases Bool.or_eq_true _ _▸h3' with h|h
  ·split at h
   ·exact absurd ir he
   ·cases h
  ·exact h,hone,?_⟩
 ·split at h1
  ·rename_i i hi
   simp only[dY] at h1;obtain⟨⟨a1,a2⟩,a3⟩:=h1
   split at a3
   ·rename_i z hz
    refine⟨i,z,hi,jw a1,jw a2,hz,fun hp=> ?_⟩;unfold zOk at a3
    have X6:aeR (tt t)=false:=by
     unfold aeR
     split
     ·rename_i e he;exact absurd he (hp e)
     ·rfl
    rw[X6,HZ] at a3;simp only[dY] at a3;obtain⟨⟨⟨b1,b2⟩,b3⟩,b4⟩:=a3;refine⟨Vy b1,jw b2,b3,?_⟩
    have hs:isStr (tt t)=true→ ∃fs,(tt t).ti= .struct fs:=fun h=>by
     unfold isStr at h
     split at h
     ·rename_i fs e;exact⟨fs,e⟩
     ·cases h
    have hn:isStr (tt t)=false→ ∀fs,(tt t).ti≠ .struct fs:=fun h fs e=>by
     unfold isStr at h;rw[e] at h
     cases h
    cases z<;>first
     |(left;exact⟨hs b4,rfl⟩)
     |(right;exact⟨hn (by revert b4;cases isStr (tt t)<;>simp),rfl⟩)
     |cases b4
   ·cases a3
  ·cases h1
 ·split at h5
  ·rename_i e1 e2;rw[e1];simp only;rw[e2,th h5]
  ·rename_i e1 e2;rw[e1];exact e2
  ·rename_i e1 e2;rw[e1];exact e2
  ·rename_i e1 e2;rw[e1];simp only[dY] at h5;exact⟨by rw[e2,jw h5.1],h5.2⟩
  ·rename_i e1 e2;rw[e1];simp only[dY] at h5;exact⟨by rw[e2,jw h5.1],h5.2⟩
  ·rename_i fs fields e1 e2
   rw[e1];obtain⟨g1,g2⟩:=Ia h5
   exact⟨fields,e2,by simpa using g1,fun j p hj=>by
    obtain⟨f,k1,k2⟩:=g2 j p hj
    exact⟨f,by rw[←QB];exact k1,k2⟩⟩
  ·cases h5
theorem ahp {C:mG} {n:Nat} (hn: ∀t,n≤t→known (C.tt t)=false) (h:(List.range n).all (ace C.P C.tt)=true):ij C:=fun t hk=>by
 by_cases ht:t<n
 ·exact aaR (List.all_eq_true.1 h t (List.mem_range.2 ht)) hk
 ·rw[hn t (Nat.le_of_not_lt ht)] at hk;cases hk
end Go.T
namespace Go.T
variable {F : Nat → Prop} {A : Arg} {w0 w w' : World} {φ φ' : Fp} {st st' : TS} {C : mG}
variable {R : Type} {cf : Cf} {lp : Lp} {Q : R → Prop}
theorem WD {ob:List (Nat×OB)} {x v:Value} (h:ek ob w φ (.sc x) v):v=x:=h.1
theorem aaS {ob:List (Nat×OB)} {v:Value} (h:Oc v) (hc:v.cells= #[v]):dx ob w φ (S v) v:=⟨_,rfl,_,rfl,hc,rfl,h⟩
theorem qn {ob:List (Nat×OB)} {x v:Value} (h:dx ob w φ (S x) v):v=x:=by
 obtain⟨c,e1,h⟩:=h
 cases e1
 obtain⟨e,e2,_,h⟩:=h
 cases e2
 exact h.1
theorem Bu {ob:List (Nat×OB)} {c:CE} {v:Value} (h:dx ob w φ (one c) v):v.cells= #[v]∧ek ob w φ c v:=by
 obtain⟨c',e1,h⟩:=h
 cases e1
 obtain⟨e,e2,h1,h⟩:=h
 cases e2
 exact⟨h1,h⟩
theorem WE {ob:List (Nat×OB)} {c:CE} {v:Value} (h1:v.cells= #[v]) (h:ek ob w φ c v):dx ob w φ (one c) v:=⟨_,rfl,_,rfl,h1,h⟩
theorem aaT (hT:ij C) {ob:List (Nat×OB)} (ty:TypeId) (v:Value):dx ob w φ (Wq C ty v) v:=by
 unfold Wq
 split
 ·split
  ·rename_i e he
   have hk:known (C.tt ty)=true:=by unfold known;rw[he]
   have:=(hT ty hk).desc;rw[he] at this;exact WE rfl ⟨rfl,(hT e this.2).pos⟩
  ·trivial
 ·exact aaS trivial rfl
 ·rfl
 ·exact aaS trivial rfl
 ·trivial
theorem fC (hT:ij C) {a:Act} (h:bw F A w0 φ st a.tmps w) (ty:TypeId) (x:Operand):dx st.ob w φ (ua C st ty x) (a.eval x):=by
 cases x with
 |tmp i=>exact h.tmp i
 |const v=>exact aaT hT ty v
 |func f=>rfl
 |global g=>trivial
theorem WG {ob:List (Nat×OB)} {e:TE} {v x:Value} (h:dx ob w φ e v) (he:aer e=some x):v=x:=by
 unfold aer at he
 split at he
 ·cases he;exact qn h
 ·cases he;exact h
 ·cases he
theorem Bv {ob:List (Nat×OB)} {e:TE} {v:Value} {n:Int} (h:dx ob w φ e v) (he:asInt e=some n): ∃k,v= .int k n:=by
 unfold asInt at he
 split at he
 ·cases he;exact⟨_,qn h⟩
 ·cases he
theorem zR {ob:List (Nat×OB)} {e:TE} {v:Value} {c:CE} (h:dx ob w φ e v) (he:zy e=some c):v.cells= #[v]∧ek ob w φ c v:=by
 unfold zy at he
 split at he
 ·cases he;exact Bu h
 ·cases he
  have h:v=_:=h;subst h;exact⟨rfl,rfl,trivial⟩
 ·cases he
def Hj (ob:List (Nat×OB)) (w:World) (φ:Fp) (cs:List CE) (v:Value):Prop:=v.cells.size=cs.length∧ ∀(j:Nat) (e:CE),cs[j]?=some e→ ∃x,v.cells[j]?=some x∧x.cells= #[x]∧ek ob w φ e x
theorem vh {ob:List (Nat×OB)} {e:TE} {v:Value} {cs:List CE} (h:dx ob w φ e v) (he:He e=some cs):Hj ob w φ cs v:=by
 unfold He at he
 split at he
 ·rename_i ag cs'
  cases he
  obtain⟨c,e1,h⟩:=h
  cases e1
  cases ag with
  |true=>
   obtain⟨xs,rfl,h2,h3⟩:=h;exact⟨h2,h3⟩
  |false=>
   obtain⟨e,rfl,h2,h3⟩:=h;refine⟨by rw[h2];rfl,fun j e' hj=> ?_⟩
   cases j with
   |zero=>
    simp only[fu,bq] at hj;subst hj;exact⟨v,by rw[h2];rfl,h2,h3⟩
   |succ j=>simp at hj
 ·cases he
  have h:v=_:=h;subst h;refine⟨rfl,fun j e' hj=> ?_⟩
  cases j with
  |zero=>
   simp only[fu,bq] at hj;subst hj;exact⟨_,rfl,rfl,rfl,trivial⟩
  |succ j=>simp at hj
 ·cases he
theorem Vz {P:Program} {tt:TypeId→mK} {t:TypeId} (h:Hi P tt t) (w:World):(isAgg t).run P w= .ok (match(tt t).ti with| .struct _=>true|_=>false) w:=by
 have hd:=h.desc;unfold isAgg;rw[Sem.run_bind]
 cases ht:(tt t).ti<;>rw[ht] at hd<;>simp only at hd
 case struct fs=>obtain⟨fields,h1,_⟩:=hd;rw[run_underlying h1];rfl
 case slice e=>rw[run_underlying hd.1];rfl
 case ptr e=>rw[run_underlying hd.1];rfl
 all_goals (rw[run_underlying hd];rfl)
theorem vY {P:Program} {tt:TypeId→mK} {t:TypeId} (h:Hi P tt t) (w:World):(sizeOf t).run P w= .ok (tt t).size w:=by
 obtain⟨i,z,h1,h2,_⟩:=h.info;unfold sizeOf typeInfo;simp[Sem.run_bind,h1,h2]
theorem CI {P:Program} {tt:TypeId→mK} {t:TypeId} (h:Hi P tt t) (w:World) (ad:Addr) (vs:List Value) (hl:vs.length=(tt t).size) (hc: ∀(j:Nat) (v:Value),vs[j]?=some v→w.cell? (ad.add j)=some v):
 (loadVar t ad).run P w= .ok (match(tt t).ti with| .struct _=> .agg vs.toArray|_=>vs.headD undef) w:=by
 unfold loadVar;rw[Sem.run_bind,Vz h]
 cases ht:(tt t).ti with
 |struct fs=>
  simp only[Result.andThen,if_true,Sem.run_bind,vY h];rw[←hl];rw[run_loadCells_list w ad vs hc]
  rfl
 |_=>
  have h1:=h.one (by rw[ht];intro fs e;cases e);rw[h1] at hl
  cases vs with
  |nil=>cases hl
  |cons v r=>
   have:=hc 0 v rfl;rw[Addr.add_zero'] at this;simp[Result.andThen,run_load,this]
def valOf (i:mK) (vs:List Value):Value:=match i.ti with| .struct _=> .agg vs.toArray|_=>vs.headD undef
theorem QZ {v:Value} (h:Oc v):v.cells= #[v]:=by cases v<;>first|rfl|exact h.elim
theorem av.cells {R S:Nat→Prop} {m:Mode} {c:TC} {v:Value} (h:av w R m S c v):v.cells= #[v]:=by
 cases h with
 |any _ _ _ h=>exact h.2
 |sc _ _ _ h=>exact QZ h
 |sub=>rfl
theorem Yz (hT:ij C) {ob:List (Nat×OB)} {t:TypeId} {xs:List CE} {vs:List Value} {K:TE→Ev R} (hv:vs.length=xs.length) (hx: ∀(j:Nat) (e:CE),xs[j]?=some e→ ∃v,vs[j]?=some v∧ek ob w φ e v)
 (h1: ∀v∈vs,v.cells= #[v]) (hk:(H8 C t xs K).holds cf lp Q): ∃e,dx ob w φ e (valOf (C.tt t) vs)∧(K e).holds cf lp Q∧known (C.tt t)=true∧vs.length=(C.tt t).size:=by
 unfold H8 at hk
 split at hk
 ·rename_i hkn hl
  have hl:=jw hl;refine⟨_,?_,hk,hkn,hv.trans hl⟩;unfold aet JV valOf
  cases ht:(C.tt t).ti with
  |struct fs=>exact⟨_,rfl,vs.toArray,rfl,by simpa using hv,fun j e he=>by
    obtain⟨v,g1,g2⟩:=hx j e he
    exact⟨v,by simpa using g1,h1 v (iV g1),g2⟩⟩
  |_=>
   have hs:=(hT t hkn).one (by rw[ht];intro fs e;cases e);rw[hs] at hl
   cases xs with
   |nil=>cases hl
   |cons x r=>
    cases r with
    |cons _ _=>cases hl
    |nil=>
     obtain⟨v,g1,g2⟩:=hx 0 x rfl
     cases vs with
     |nil=>cases hv
     |cons v' r'=>
      simp only[fu,bq] at g1;subst g1;exact⟨_,rfl,_,rfl,h1 _ (List.mem_cons_self ..),g2⟩
 ·exact hk.elim
theorem gU {α:Type} {l:List α} {n j:Nat} {a:α} (h:(l.take n)[j]?=some a):l[j]?=some a:=by
 rw[zG] at h
 split at h
 ·exact h
 ·cases h
theorem vZ (ds:List Nat): ∀(cells:List TC) (loc:Option (Nat×Int×Nat)) (k j:Nat) (e:CE),(Cz ds loc k cells)[j]?=some e→ ∃c,cells[j]?=some c∧e=ajv ds loc (k+j) c
 |[],_,_,_,_,h=>by simp[Cz] at h
 |c::r,loc,k,j,e,h=>by
  cases j with
  |zero=>
   simp only[Cz,fu,bq] at h;exact⟨c,rfl,h.symm⟩
  |succ j=>
   simp only[Cz,tU] at h ⊢;obtain⟨c',h1,h2⟩:=vZ ds r loc (k+1) j e h;exact⟨c',h1,by rw[h2];congr 1;omega⟩
theorem J9 {α:Type} {Pr:Nat→α→Value→Prop}: ∀(xs:List α) (k:Nat),(∀(j:Nat) (e:α),xs[j]?=some e→ ∃v,Pr (k+j) e v)→ ∃vs:List Value,vs.length=xs.length∧ ∀(j:Nat) (e:α),xs[j]?=some e→ ∃v,vs[j]?=some v∧Pr (k+j) e v
 |[],_,_=>⟨[],rfl,fun j e h=>by simp at h⟩
 |x::r,k,h=>by
  obtain⟨v,hv⟩:=h 0 x rfl
  obtain⟨vs,h1,h2⟩:=J9 r (k+1) fun j e he=>by
   obtain⟨v,hv⟩:=h (j+1) e he;exact⟨v,by rw[nO,Nat.add_comm 1 j];exact hv⟩
  refine⟨v::vs,by simp[h1],fun j e he=> ?_⟩
  cases j with
  |zero=>
   simp only[fu,bq] at he;subst he;exact⟨v,rfl,hv⟩
  |succ j=>
   simp only[tU] at he ⊢;obtain⟨u,g1,g2⟩:=h2 j e he;exact⟨u,g1,by rw[←nO,Nat.add_right_comm];exact g2⟩
end Go.T
namespace Go.T
variable {F : Nat → Prop} {A : Arg} {w0 w w' : World} {φ φ' : Fp} {st st' : TS} {C : mG}
variable {R : Type} {cf : Cf} {lp : Lp} {Q : R → Prop}
attribute [local semireducible] rowAt in
theorem sL {rows:List (List TC)} {i:Int} {row:List TC} (h:rowAt rows i=some row):0≤i∧rows[i.toNat]?=some row:=by
 unfold rowAt at h
 split at h
 ·exact⟨by assumption,h⟩
 ·cases h
theorem xB {rows:List (List TC)} {i f:Nat} {row:List TC} {tc:TC} (h:rows[i]?=some row) (hf:row[f]?=some tc):zQ rows i f=some tc:=by
 unfold zQ;rw[h];exact hf
theorem av.at {Rd S:Nat→Prop} {m:Mode} {z:Nat} {rows:List (List TC)} {v:Value} (h:av w Rd m S (.sub z rows) v) {i f:Nat} {tc:TC} (ht:zQ rows i f=some tc):
 ∃ad n c u,v= .slice (some ad) n c∧n=rows.length∧(m= .snap→Rd ad.block)∧(m≠ .snap→S ad.block)∧w.cell? (ad.add (i*z+f))=some u∧ ∃T:Nat→Prop,av w Rd m.nx T tc u∧(m= .deep→ ∀k,T k→S k):=by
 cases h with
 |sub _ _ _ _ A c u T k hn=>
  obtain⟨ad,rfl⟩:=k.addr (LM ht);exact⟨ad,_,c,u i f,rfl,rfl,fun hm=>k.read hm ad rfl (LM ht),fun hm=>((k.own hm).2 ad rfl).1,k.cell ad rfl i f tc ht,T i f,hn i f tc ht,fun hm q hq=>(k.qh hm i f q hq).1⟩
theorem o7.at {o:Nat} {b:OB} (h:o7 w φ o b) {i f:Nat} {tc:TC} (ht:zQ b.rows i f=some tc):
 ∃ad n c u,φ.V o= .slice (some ad) n c∧n=b.rows.length∧φ.S o ad.block∧w.cell? (ad.add (i*b.z+f))=some u∧av w (rd φ [o]) .snap Lw tc u:=by
 obtain⟨ad,n,c,u,h1,h2,_,h3,h4,T,h5,h6⟩:=av.at h ht
 have hm:b.m≠ .snap:=by unfold OB.m;split<;>simp
 refine⟨ad,n,c,u,h1,h2,h3 hm,h4,h5.freeze (fun k hk=> .inl hk) fun hn k hk=> .inr ⟨o,by simp,h6 (xy hn) k hk⟩⟩
theorem ajH {o:Nat} {k:Nat} (h:φ.S o k):rd φ [o] k:= .inr ⟨o,by simp,h⟩
theorem Q1 (h: ∀o b,an o st.ob=some b→o7 w φ o b) {o:Nat} {path:Option (Int×Nat)} {i:Int} {f:Nat} {v:Value} (ht:dx st.ob w φ (.er o path i f) v) {K:List TC→Ev R} (hk:(ab3 st o path i f K).holds cf lp Q):
 ∃ad cells,v= .pointer (some ad)∧(cells≠[]→rd φ [o] ad.block)∧(∀(j:Nat) (tc:TC),cells[j]?=some tc→ ∃u,w.cell? (ad.add j)=some u∧av w (rd φ [o]) .snap Lw tc u)∧(K cells).holds cf lp Q∧
  (∀b,path=none→an o st.ob=some b→ ∀(j:Nat) (tc:TC),cells[j]?=some tc→zQ b.rows i.toNat (f+j)=some tc∧ ∃a0 n c,φ.V o= .slice (some a0) n c∧ad.add j=a0.add (i.toNat*b.z+(f+j))):=by
 obtain⟨b,hb,hi,a0,n0,c0,hV,hp⟩:=ht;have hO:=h o b hb;unfold ab3 at hk;rw[hb] at hk;obtain⟨dp,z,rows⟩:=b;simp only at hk
 cases path with
 |none=>
  simp only at hk hp;obtain⟨row,hr,hk⟩:=hk;obtain⟨_,hr⟩:=sL hr;refine⟨_,row.drop f,hp,fun hne=> ?_,fun j tc hj=> ?_,hk,fun b' _ hb' j tc hj=> ?_⟩
  ·cases hd:row.drop f with
   |nil=>exact absurd hd hne
   |cons tc r=>
    have h0:(row.drop f)[0]?=some tc:=by rw[hd];rfl
    rw[o5] at h0;obtain⟨ad,n,c,u,h1,h2,h3,h4,h5⟩:=hO.at (xB hr h0);rw[hV] at h1;cases h1;rw[cR];exact ajH h3
  ·rw[o5] at hj
   obtain⟨ad,n,c,u,h1,h2,h3,h4,h5⟩:=hO.at (xB hr hj);rw[hV] at h1;cases h1;rw[Addr.add_add,nO];exact⟨u,h4,h5⟩
  ·rw[hb] at hb';cases hb'
   rw[o5] at hj;exact⟨xB hr hj,a0,n0,c0,hV,by rw[Addr.add_add,nO]⟩
 |some q=>
  obtain⟨i0,f0⟩:=q;simp only at hk hp;obtain⟨hi0,z1,r5,ht1,ad1,n1,c1,hc1,rfl⟩:=hp;obtain⟨row0,hr0,hk⟩:=hk;obtain⟨_,hr0⟩:=sL hr0;simp only at hk
  split at hk
  ·rename_i z2 rows2 hf0
   have:=xB hr0 hf0;rw[ht1] at this
   cases this
   obtain⟨row,hr,hk⟩:=hk;obtain⟨_,hr⟩:=sL hr;obtain⟨ad,n,c,u,h1,h2,h3,h4,h5⟩:=hO.at ht1;rw[hV] at h1;cases h1;rw[hc1] at h4;cases h4
   have key: ∀f' tc,row[f']?=some tc→rd φ [o] ad1.block∧ ∃u,w.cell? (ad1.add (i.toNat*z1+f'))=some u∧av w (rd φ [o]) .snap Lw tc u:=fun f' tc hf'=>by
    obtain⟨ad2,n2,c2,u2,k1,k2,k3,_,k4,T,k5,_⟩:=h5.at (xB hr hf')
    cases k1
    exact⟨k3 rfl,u2,k4,k5.rm fun _ h=>h⟩
   refine⟨_,row.drop f,rfl,fun hne=> ?_,fun j tc hj=> ?_,hk,fun b' hn=>by cases hn⟩
   ·cases hd:row.drop f with
    |nil=>exact absurd hd hne
    |cons tc r=>
     have h0:(row.drop f)[0]?=some tc:=by rw[hd];rfl
     rw[o5] at h0;rw[cR];exact(key _ _ h0).1
   ·rw[o5] at hj
    rw[Addr.add_add,nO];exact(key _ _ hj).2
  ·exact hk.elim
theorem acf {ob:List (Nat×OB)} {ds:List Nat} {loc:Option (Nat×Int×Nat)} {j:Nat} {tc:TC} {u:Value} (hd: ∀d∈ds,d=0∨aT ob d) (hc:av w (rd φ ds) .snap Lw tc u)
 (hl: ∀o i f,loc=some (o,i,f)→o∈ds∧ ∀z rows,tc= .sub z rows→ab9 ob w φ z rows u o i (f+j)):ek ob w φ (ajv ds loc j tc) u:=by
 cases tc with
 |any=>trivial
 |sc v=>
  cases hc with
  |sc _ _ _ h=>exact⟨rfl,h⟩
 |sub z rows=>
  refine⟨hd,hc,fun o i f he=> ?_⟩
  cases loc with
  |none=>cases he
  |some q=>
   obtain⟨o',i',f'⟩:=q;simp only[bq,zJ] at he;obtain⟨rfl,rfl,rfl⟩:=he;obtain⟨h1,h2⟩:=hl _ _ _ rfl;exact⟨h1,h2 z rows rfl⟩
theorem YA (hT:ij C) {tm:Array Value} (h:bw F A w0 φ st tm w) {t:TypeId} {e:TE} {v:Value} (ht:dx st.ob w φ e v) {K:TE→Ev R} (hk:(H9 C st t e K).holds cf lp Q):
 ∃u e',(Instr.loadAt t v).run C.P w= .ok u w∧dx st.ob w φ e' u∧(K e').holds cf lp Q:=by
 have fin: ∀(ad:Addr) (xs:List CE),v= .pointer (some ad)→(∀(j:Nat) (e:CE),xs[j]?=some e→ ∃u,w.cell? (ad.add j)=some u∧u.cells= #[u]∧ek st.ob w φ e u)→(H8 C t xs K).holds cf lp Q→
  ∃u e',(Instr.loadAt t v).run C.P w= .ok u w∧dx st.ob w φ e' u∧(K e').holds cf lp Q:=by
  intro ad xs hv hx hk;obtain⟨vs,h1,h2⟩:=J9 (Pr:=fun j e u=>w.cell? (ad.add j)=some u∧u.cells= #[u]∧ek st.ob w φ e u) xs 0 (fun j e he=>by rw[lG];exact hx j e he)
  have h3: ∀(j:Nat) (u:Value),vs[j]?=some u→w.cell? (ad.add j)=some u∧u.cells= #[u]:=fun j u hj=>by
   have hlt:j<xs.length:=by rw[←h1];exact(List.getElem?_eq_some_iff.1 hj).1
   obtain⟨u',g1,g2⟩:=h2 j xs[j] (bC hlt);rw[hj] at g1;cases g1;rw[lG] at g2;exact⟨g2.1,g2.2.1⟩
  obtain⟨e',k1,k2,k3,k4⟩:=Yz (w:=w) (φ:=φ) hT (ob:=st.ob) (t:=t) (vs:=vs) (K:=K) h1 (fun j e he=>by
   obtain⟨u,g1,g2⟩:=h2 j e he
   exact⟨u,g1,g2.2.2⟩) (fun u hu=>by
   obtain⟨j,hj⟩:=List.getElem?_of_mem hu
   exact(h3 j u hj).2) hk
  refine⟨_,e',?_,k1,k2⟩;subst hv;have:=CI (hT t k3) w ad vs k4 fun j u hj=>(h3 j u hj).1;unfold Instr.loadAt Instr.sureAddr valOf;simp only[Sem.run_bind,Sem.run_pure,Result.andThen];exact this
 cases e with
 |bp b off=>
  simp only[H9] at hk
  split at hk
  ·rename_i cs hb
   have ht:v=_:=ht;refine fin _ _ ht (fun j e he=> ?_) hk;have he:=gU he;rw[o5] at he;obtain⟨u,g1,g2⟩:=h.box b cs hb _ e he;exact⟨u,by rw[Addr.add_add];exact g1,g2⟩
  ·exact hk.elim
 |ep ds cells=>
  simp only[H9] at hk;obtain⟨hd,ad,hv,hr,hc⟩:=ht;refine fin ad _ hv (fun j e he=> ?_) hk;obtain⟨tc,g1,rfl⟩:=vZ _ _ _ _ _ _ he;obtain⟨u,g2,g3⟩:=hc j tc (gU g1);exact⟨u,g2,g3.cells,acf hd g3 fun o i f he=>by cases he⟩
 |er o path i f=>
  simp only[H9] at hk;obtain⟨ad,cells,hv,hr,hc,hk,hl⟩:=Q1 h.obj ht hk;obtain⟨b,hb,hi,_⟩:=ht;have hd: ∀d∈[o],d=0∨aT st.ob d:=fun d hm=> .inr ⟨b,by rw[j6.1 hm];exact hb⟩;refine fin ad _ hv (fun j e he=> ?_) hk;obtain⟨tc,g1,rfl⟩:=vZ _ _ _ _ _ _ he;have g1:=gU g1;obtain⟨u,g2,g3⟩:=hc j tc g1;refine⟨u,g2,g3.cells,acf hd g3 fun o' i' f' he=> ?_⟩
  cases path with
  |some q=>cases he
  |none=>
   simp only[bq,zJ] at he;obtain⟨rfl,rfl,rfl⟩:=he;refine⟨by simp,fun z rows hz=> ?_⟩;obtain⟨k1,a0,n,c,k2,k3⟩:=hl b rfl hb j tc g1;rw[lG];exact⟨b,hb,hi,by rw[←hz];exact k1,a0,n,c,k2,by rw[←k3];exact g2⟩
 |_=>exact hk.elim
end Go.T
namespace Go.T
variable {F : Nat → Prop} {A : Arg} {w0 w w' : World} {φ φ' : Fp} {st st' : TS} {C : mG}
variable {R : Type} {cf : Cf} {lp : Lp} {Q : R → Prop}
attribute [local semireducible] cP qC cO FE LA aaE QF aaF ajr ac5 FI in
theorem YB {t:TypeId} {op:BinOp} {a b v:Value} (h:aes op a b=some v) (P:Program) (w:World):(binOp op t a b).run P w= .ok v w∧Oc v:=by
 unfold aes at h
 split at h
 ·rename_i k x k' y
  split at h
  ·split at h
   ·rename_i hy
    cases h
    refine⟨?_,trivial⟩;simp only[binOp,Op.shift];rw[aJ au]
    rfl
   ·cases h
  ·split at h
   ·rename_i hy
    cases h
    refine⟨?_,trivial⟩;simp only[binOp,Op.shift];rw[aJ au]
    rfl
   ·cases h
  ·split at h
   ·rename_i hk
    subst hk
    split at h<;>first
     |(cases h;done)
     |(cases h;refine⟨?_,trivial⟩;simp[binOp,Op.intArith,Op.intCmp,intBits_and,intBits_or,intBits_xor,aaE,QF,aaF,FI,cO,cP,qC];done)
     |(cases h;refine⟨?_,trivial⟩;simp[binOp,Op.intArith,Op.intCmp,intBits_and,intBits_or,intBits_xor,aaE,QF,aaF,FI,cO,cP,qC];rfl)
   ·cases h
 ·split at h<;>first
   |(cases h;done)
   |(cases h;refine⟨?_,trivial⟩;simp[binOp,Op.stringOp,FE,LA];done)
   |(cases h;refine⟨?_,trivial⟩;simp[binOp,Op.stringOp,FE,LA];rfl)
 ·cases h
theorem YC (hT:ij C) {a:Act} (h:bw F A w0 φ st a.tmps w) {o:Oper} {x:Operand} (ho:o.op= .nilCheck x) {K:TE→Ev R} (hk:(jx C st o K).holds cf lp Q):
 ∃v e,(∀w,(execOp a.eval o).run C.P w= .ok (.value v) w)∧dx st.ob w φ e v∧(K e).holds cf lp Q:=by
 have hx:=fC hT h 0 x;unfold jx at hk;rw[ho] at hk;simp only at hk
 have run: ∀ad,a.eval x= .pointer (some ad)→ ∀w,(execOp a.eval o).run C.P w= .ok (.value (a.eval x)) w:=fun ad he w=>by
  unfold execOp;rw[ho];simp only[he]
  rfl
 split at hk
 ·rename_i b off he
  rw[he] at hx;exact⟨_,_,run _ hx,hx,hk⟩
 ·rename_i d c he
  rw[he] at hx;obtain⟨_,ad,hv,_⟩:=id hx;exact⟨_,_,run _ hv,hx,hk⟩
 ·rename_i r p i f he
  rw[he] at hx
  have hv: ∃ad,a.eval x= .pointer (some ad):=by
   obtain⟨b,_,_,ad,n,c,_,hp⟩:=id hx
   cases p with
   |none=>exact⟨_,hp⟩
   |some q=>obtain⟨_,z1,r5,_,ad1,n1,c1,_,hp⟩:=hp;exact⟨_,hp⟩
  obtain⟨ad,hv⟩:=hv;exact⟨_,_,run _ hv,hx,hk⟩
 ·exact hk.elim
theorem acg (hT:ij C) {a:Act} (h:bw F A w0 φ st a.tmps w) {o:Oper} {x:Operand} (ho:o.op= .move x∨o.op= .assign x) {K:TE→Ev R} (hk:(jx C st o K).holds cf lp Q):
 ∃v e,(∀w,(execOp a.eval o).run C.P w= .ok (.value v) w)∧dx st.ob w φ e v∧(K e).holds cf lp Q:=by
 have hx:=fC hT h o.type x;unfold jx at hk;rcases ho with ho|ho<;>rw[ho] at hk<;>refine⟨_,_,?_,hx,hk⟩<;>intro w<;>unfold execOp<;>rw[ho]<;>rfl
theorem ahq (hT:ij C) {a:Act} (h:bw F A w0 φ st a.tmps w) {o:Oper} {c x y:Operand} (ho:o.op= .pick c x y) {K:TE→Ev R} (hk:(jx C st o K).holds cf lp Q):
 ∃v e,(∀w,(execOp a.eval o).run C.P w= .ok (.value v) w)∧dx st.ob w φ e v∧(K e).holds cf lp Q:=by
 have hc:=fC hT h o.type c;unfold jx at hk;rw[ho] at hk;simp only at hk
 split at hk
 ·rename_i p he
  rw[he] at hc;have hc:a.eval c= .bool p:=hc
  split at hk
  ·refine⟨_,_,?_,fC hT h o.type x,hk⟩
   intro w;unfold execOp;rw[ho];simp only[hc];rfl
  ·refine⟨_,_,?_,fC hT h o.type y,hk⟩
   intro w;unfold execOp;rw[ho];simp only[hc];rfl
 ·exact hk.elim
theorem ahr (hT:ij C) {a:Act} (h:bw F A w0 φ st a.tmps w) {o:Oper} {t:TypeId} {x:Operand} (ho:o.op= .load t x) {K:TE→Ev R} (hk:(jx C st o K).holds cf lp Q):
 ∃v e,(execOp a.eval o).run C.P w= .ok (.value v) w∧dx st.ob w φ e v∧(K e).holds cf lp Q:=by
 unfold jx at hk;rw[ho] at hk;obtain⟨u,e,h1,h2,h3⟩:=YA hT h (fC hT h 0 x) hk;refine⟨u,e,?_,h2,h3⟩;unfold execOp;rw[ho];simp only[Sem.run_bind,h1,Result.andThen]
 rfl
theorem aaU (hT:ij C) {a:Act} (h:bw F A w0 φ st a.tmps w) {o:Oper} {x:Operand} {i:Nat} (ho:o.op= .extract x i) {K:TE→Ev R} (hk:(jx C st o K).holds cf lp Q):
 ∃v e,(∀w,(execOp a.eval o).run C.P w= .ok (.value v) w)∧dx st.ob w φ e v∧(K e).holds cf lp Q:=by
 have hx:=fC hT h 0 x;unfold jx at hk;rw[ho] at hk;simp only at hk
 split at hk
 ·rename_i es he
  rw[he] at hx;obtain⟨vs,hv,_,hc⟩:=hx
  have run: ∀u,vs[i]?=some u→ ∀w,(execOp a.eval o).run C.P w= .ok (.value u) w:=fun u hu w=>by
   unfold execOp;rw[ho];simp only[hv,Instr.extract,hu]
   rfl
  split at hk
  ·rename_i ag cs hi
   obtain⟨u,h1,h2⟩:=hc i _ hi;exact⟨u,.v false [.mk ag cs],run u h1,⟨_,rfl,h2⟩,hk⟩
  ·rename_i b hi
   obtain⟨u,h1,h2⟩:=hc i _ hi;exact⟨u,.bp b 0,run u h1,by show u=_;rw[show u=_ from h2,Addr.add_zero'],hk⟩
  ·exact hk.elim
 ·exact hk.elim
theorem mH {ob:List (Nat×OB)} {v:Value} (h:Oc v):dx ob w φ (S v) v:=aaS h (QZ h)
theorem aaV {op:BinOp} {t:TypeId} {x y:Operand} {u v:Value} (h:Oc u):eqGuard op t x y u v=pure ():=by
 cases u<;>first|(cases op<;>rfl)|exact False.elim h
theorem run_equal_bool {P:Program} {t:TypeId} (h:P.underlying t=some .bool) (p q:Bool) (w:World):(Op.equal t (.bool p) (.bool q)).run P w= .ok (p==q) w:=by
 unfold Op.equal Op.maxDepth Op.equalIn;rw[Sem.run_bind,run_underlying h]
 rfl
attribute [local semireducible] cO dW TJ fits aeo eqB in
theorem ahs (hT:ij C) {ob:List (Nat×OB)} {t:TypeId} {op:BinOp} {a b:Value} (ha:Oc a) {K:TE→Ev R} (hk:(ajw (Ql C t) op a b K).holds cf lp Q):
 ∃v e,(∀w,(binOp op t a b).run C.P w= .ok v w)∧dx ob w φ e v∧(K e).holds cf lp Q:=by
 unfold ajw at hk
 split at hk
 ·split at hk
  ·rename_i hb
   have hu:C.P.underlying t=some .bool:=by
    unfold Ql at hb
    split at hb
    ·rename_i ht
     have:=(hT t (by unfold known;rw[ht])).desc;rw[ht] at this;exact this
    ·cases hb
   refine⟨_,_,?_,mH (v:= .bool _) trivial,hk⟩;intro w;simp only[binOp,Sem.run_bind,run_equal_bool hu,Result.andThen]
   rfl
  ·exact hk.elim
 ·split at hk
  ·rename_i hb
   have hu:C.P.underlying t=some .bool:=by
    unfold Ql at hb
    split at hb
    ·rename_i ht
     have:=(hT t (by unfold known;rw[ht])).desc;rw[ht] at this;exact this
    ·cases hb
   refine⟨_,_,?_,mH (v:= .bool _) trivial,hk⟩;intro w;simp only[binOp,Sem.run_bind,run_equal_bool hu,Result.andThen]
   rfl
  ·exact hk.elim
 ·split at hk
  ·rename_i h
   subst h;simp only[Ev.holds] at hk
   split at hk
   ·rename_i hz
    refine⟨_,_,?_,mH (v:= .int _ _) trivial,hk⟩;have hz':=hz;simp only[cO,beq_eq_false_iff_ne,ne_eq] at hz';intro w;simp[binOp,Op.intDiv,hz',TJ]
   ·exact hk.elim
  ·exact hk.elim
 ·split at hk
  ·rename_i h
   subst h;simp only[Ev.holds] at hk
   split at hk
   ·rename_i hz
    refine⟨_,_,?_,mH (v:= .int _ _) trivial,hk⟩;have hz':=hz;simp only[cO,beq_eq_false_iff_ne,ne_eq] at hz';intro w;simp[binOp,Op.intDiv,hz',dW]
   ·exact hk.elim
  ·exact hk.elim
 ·simp only[Ev.holds] at hk
  split at hk
  ·rename_i hz
   refine⟨_,_,?_,mH (v:= .string _) trivial,hk⟩;have hz':=th hz;intro w;simp only[binOp,Op.stringOp]
   rw[aJ (by
    have:IntKind.i64.max=9223372036854775807:=by decide
    omega)]
   rfl
  ·exact hk.elim
 ·split at hk
  ·rename_i v hv
   exact⟨v,_,fun w=>(YB (t:=t) hv C.P w).1,mH (YB (t:=t) hv C.P w).2,hk⟩
  ·exact hk.elim
end Go.T
namespace Go.T
variable {F : Nat → Prop} {A : Arg} {w0 w w' : World} {φ φ' : Fp} {st st' : TS} {C : mG}
variable {R : Type} {cf : Cf} {lp : Lp} {Q : R → Prop}
theorem FW (hT:ij C) {s:TypeId} {f off:Nat} {ft:TypeId} (h:rH C s f=some (off,ft)): ∃fields fd,C.P.underlying s=some (.struct fields)∧fields[f]?=some fd∧fd.offset=off∧fd.type=ft∧known (C.tt ft)=true∧
 known (C.tt s)=true∧off+(C.tt ft).size≤(C.tt s).size∧ ∃fs,(C.tt s).ti= .struct fs:=by
 unfold rH at h
 split at h
 ·rename_i fs hs
  have hk:known (C.tt s)=true:=by unfold known;rw[hs]
  have hd:=(hT s hk).desc;rw[hs] at hd;obtain⟨fields,h1,_,h2⟩:=hd;obtain⟨fd,g1,g2,g3,g4,g5⟩:=h2 f _ h;exact⟨fields,fd,h1,g1,g2,g3,g4,hk,g5,fs,hs⟩
 ·cases h
theorem WH (hT:ij C) {s:TypeId} {f off:Nat} {ft:TypeId} (h:rH C s f=some (off,ft)) (ad:Addr):(Instr.fieldAt s (.pointer (some ad)) f).run C.P w= .ok (.pointer (some (ad.add off))) w:=by
 obtain⟨fields,fd,h1,h2,h3,h4,h5,_⟩:=FW hT h;have hs:=vY (hT ft h5) w;have hp:=(hT ft h5).pos;unfold Instr.fieldAt;simp only[Sem.run_bind,run_underlying h1,Result.andThen,h2,Instr.sureAddr,Sem.run_pure,fieldPlace,h4,hs];rw[aJ au];simp only[Sem.run_pure,h3]
theorem WI (hT:ij C) {a:Act} (h:bw F A w0 φ st a.tmps w) {o:Oper} {s:TypeId} {x:Operand} {f:Nat} (ho:o.op= .fieldAddr s x f) {K:TE→Ev R} (hk:(jx C st o K).holds cf lp Q):
 ∃v e,(∀w,(execOp a.eval o).run C.P w= .ok (.value v) w)∧dx st.ob w φ e v∧(K e).holds cf lp Q:=by
 have hx:=fC hT h 0 x;unfold jx at hk;rw[ho] at hk;simp only at hk
 have run: ∀ad off ft,a.eval x= .pointer (some ad)→rH C s f=some (off,ft)→ ∀w,(execOp a.eval o).run C.P w= .ok (.value (.pointer (some (ad.add off)))) w:=fun ad off ft he hf w=>by
  unfold execOp;rw[ho];simp only[he,Sem.run_bind,WH hT hf,Result.andThen]
  rfl
 split at hk
 ·rename_i off ft b o' hf he
  rw[he] at hx;refine⟨_,.bp b (o'+off),run _ _ _ hx hf,?_,hk⟩;show _=_;rw[Addr.add_add]
 ·rename_i off ft d cells hf he
  rw[he] at hx;obtain⟨hd,ad,hv,hr,hc⟩:=hx;refine⟨_,.ep d (cells.drop off),run _ _ _ hv hf,⟨hd,_,rfl,fun hne=> ?_,fun j tc hj=> ?_⟩,hk⟩
  ·rw[cR];exact hr fun e=>hne (by rw[e];simp)
  ·rw[o5] at hj
   rw[Addr.add_add];exact hc _ tc hj
 ·rename_i off ft r p i g hf he
  rw[he] at hx;obtain⟨b,hb,hi,ad,n,c,hV,hp⟩:=hx
  cases p with
  |none=>
   refine⟨_,.er r none i (g+off),run _ _ _ hp hf,⟨b,hb,hi,ad,n,c,hV,?_⟩,hk⟩;show _=_;rw[Addr.add_add,nO]
  |some q=>
   obtain⟨i0,f0⟩:=q;obtain⟨h0,z1,r5,h1,ad1,n1,c1,h2,hp⟩:=hp;refine⟨_,.er r (some (i0,f0)) i (g+off),run _ _ _ hp hf,⟨b,hb,hi,ad,n,c,hV,h0,z1,r5,h1,ad1,n1,c1,h2,?_⟩,hk⟩;rw[Addr.add_add,nO]
 ·exact hk.elim
theorem adb (hT:ij C) {t:TypeId} (hk:known (C.tt t)=true) (xs:Array Value) (off:Nat) (hl:off+(C.tt t).size≤xs.size):(part t xs off).run C.P w= .ok (valOf (C.tt t) ((xs.toList.drop off).take (C.tt t).size)) w:=by
 have hy:=hT t hk;unfold part;rw[Sem.run_bind,Vz hy];unfold valOf
 cases ht:(C.tt t).ti with
 |struct fs=>
  simp only[Result.andThen,if_true,Sem.run_bind,vY hy,Sem.run_pure]
  congr 2
  apply Array.ext'
  simp[Array.toList_extract,List.extract_eq_take_drop]
 |_=>
  have h1:=hy.one (by rw[ht];intro fs e;cases e)
  have hlt:off<xs.size:=by omega
  simp only[Result.andThen,w8 hlt]
  have:(xs.toList.drop off).take (C.tt t).size=[xs[off]]:=by
   rw[h1,List.take_one,List.head?_drop];simp[hlt]
  rw[this]
  rfl
theorem aeS (hT:ij C) {a:Act} (h:bw F A w0 φ st a.tmps w) {o:Oper} {t:TypeId} {x:Operand} {f:Nat} (ho:o.op= .field t x f) {K:TE→Ev R} (hk:(jx C st o K).holds cf lp Q):
 ∃v e,(∀w,(execOp a.eval o).run C.P w= .ok (.value v) w)∧dx st.ob w φ e v∧(K e).holds cf lp Q:=by
 have hx:=fC hT h t x;unfold jx at hk;rw[ho] at hk;simp only at hk
 split at hk
 ·rename_i off ft cs hf he
  rw[he] at hx;obtain⟨c,e1,hx⟩:=hx
  cases e1
  obtain⟨xs,hv,hsz,hxs⟩:=hx;obtain⟨fields,fd,h1,h2,h3,h4,h5,_⟩:=FW hT hf
  have hlen:off+(C.tt ft).size≤xs.size:=by
   unfold H8 at hk
   split at hk
   ·rename_i _ hl
    have hl:=jw hl;have hp:=(hT ft h5).pos;simp only[c7,gQ] at hl;omega
   ·exact hk.elim
  have hv1:((xs.toList.drop off).take (C.tt ft).size).length=((cs.drop off).take (C.tt ft).size).length:=by
   simp only[c7,gQ,yf,hsz]
  have w6: ∀(j:Nat) (v:Value),((xs.toList.drop off).take (C.tt ft).size)[j]?=some v→xs[off+j]?=some v:=fun j v hj=>by
   have:=gU hj;rw[o5] at this;simpa using this
  obtain⟨e,k1,k2,_,_⟩:=Yz (w:=w) (φ:=φ) hT (ob:=st.ob) (t:=ft) (vs:=(xs.toList.drop off).take (C.tt ft).size) hv1 (fun j e he=>by
   have hlt:j<((xs.toList.drop off).take (C.tt ft).size).length:=by rw[hv1];exact(List.getElem?_eq_some_iff.1 he).1
   have he:=gU he;rw[o5] at he;obtain⟨y,g1,g2,g3⟩:=hxs _ e he;refine⟨_,bC hlt,?_⟩;have:=w6 j _ (bC hlt);rw[g1] at this
   cases this
   exact g3) (fun v hv=>by
   obtain⟨j,hj⟩:=List.getElem?_of_mem hv;have hj':=w6 j v hj
   have hlt:off+j<cs.length:=by rw[←hsz];exact(Array.getElem?_eq_some_iff.1 hj').1
   obtain⟨y,g1,g2,g3⟩:=hxs _ _ (bC hlt);rw[hj'] at g1
   cases g1
   exact g2) hk
  refine⟨_,e,?_,k1,k2⟩;intro w;unfold execOp;rw[ho];simp only[hv,Instr.field,Sem.run_bind,run_underlying h1,Result.andThen,h2,asAgg,Sem.run_pure,h3,h4,adb hT h5 xs off hlen]
 ·exact hk.elim
end Go.T
namespace Go.T
variable {F : Nat → Prop} {A : Arg} {w0 w w' : World} {φ φ' : Fp} {st st' : TS} {C : mG}
variable {R : Type} {cf : Cf} {lp : Lp} {Q : R → Prop}
theorem tC {tm:Array Value} (h:bw F A w0 φ st tm w) {e:CE} {v:Value} (hc:ek st.ob w φ e v) {z:Nat} {rows:List (List TC)} (hr:pV st e=some (z,rows)):
 av w (rd φ (ig e)) .snap Lw (.sub z rows) v∧ ∀d∈ig e,d=0∨aT st.ob d:=by
 unfold pV at hr
 split at hr
 ·cases hr
  obtain⟨rfl,hz⟩:=hc
  exact⟨av.sub _ _ z [] none 0 (fun _ _=>default) (fun _ _ _=>False) ⟨cL _,cW _,hz,fun r hr=>(by cases hr),fun hr=>absurd rfl hr,fun _ ha=>(by cases ha),fun _ _ ha=>(by cases ha),
       fun hm=>absurd rfl hm,fun hm=>absurd rfl hm,fun hm=>(by cases hm)⟩ fun i f tc ht=>absurd rfl (LM ht),fun d hd=>by cases hd⟩
 ·rename_i o cut
  obtain⟨b,hb,hc⟩:=hc;rw[hb] at hr;obtain⟨dp,z',bE⟩:=b;simp only[bq,zJ] at hr;obtain⟨rfl,rfl⟩:=hr;refine⟨(o7.cut (h.obj o _ hb) hc).freeze (fun k hk=> .inl hk) fun _ k hk=> .inr ⟨o,by simp[ig],hk⟩,fun d hd=> ?_⟩;simp only[ig,j6] at hd;subst hd;exact .inr ⟨_,hb⟩
 ·cases hr
  exact⟨hc.2.1,hc.1⟩
 ·cases hr
theorem VA {e:TypeId} {z:Nat} (h:Ws C e z=true):known (C.tt e)=true∧z=(C.tt e).size:=by
 unfold Ws at h
 split at h
 ·exact⟨by assumption,jw h⟩
 ·cases h
theorem xY (hT:ij C) {t e:TypeId} (h:AY C t=some e):C.P.underlying t=some (.slice e)∧known (C.tt e)=true:=by
 unfold AY at h
 split at h
 ·rename_i e' he
  cases h
  have:=(hT t (by unfold known;rw[he])).desc;rw[he] at this;exact this
 ·cases h
theorem WJ {P:Program} {t e:TypeId} (h:P.underlying t=some (.slice e)):P.underlying t=some (.slice (P.elem t)):=by
 have:P.elem t=e:=by unfold Program.elem;rw[h]
 rw[this];exact h
theorem av.len {Rd S:Nat→Prop} {m:Mode} {z:Nat} {rows:List (List TC)} {v:Value} (h:av w Rd m S (.sub z rows) v): ∃A c,v= .slice A rows.length c∧rows.length≤c∧c≤maxLen:=by
 cases h with
 |sub _ _ _ _ A c u T k hn=>exact⟨A,c,rfl,k.len,k.cap⟩
theorem aeT {tm:Array Value} (h:bw F A w0 φ st tm w) {e:CE} {v:Value} (hc:ek st.ob w φ e v) {z:Nat} {rows:List (List TC)} (hr:pV st e=some (z,rows)) {n:Int} {cells:List TC} (hrow:rowAt rows n=some cells):
 ∃ad c,v= .slice (some ad) rows.length c∧0≤n∧n<rows.length∧dx st.ob w φ (aev e n cells) (.pointer (some (ad.add (n.toNat*z)))):=by
 obtain⟨hn,hrow⟩:=sL hrow;obtain⟨Bi,hd⟩:=tC h hc hr;have hlt:n.toNat<rows.length:=(List.getElem?_eq_some_iff.1 hrow).1
 have hne:rows≠[]:=fun e=>by rw[e] at hlt;simp at hlt
 have hep: ∀ad c,v= .slice (some ad) rows.length c→dx st.ob w φ (.ep (ig e) cells) (.pointer (some (ad.add (n.toNat*z)))):=fun ad c hv=>by
  refine⟨hd,_,rfl,fun hce=> ?_,fun j tc hj=> ?_⟩
  ·cases cells with
   |nil=>exact absurd rfl hce
   |cons x r=>
    obtain⟨ad',_,_,_,h1,_,h2,_⟩:=Bi.at (xB hrow (f:=0) rfl);rw[hv] at h1
    cases h1
    rw[cR];exact h2 rfl
  ·obtain⟨ad',_,_,u,h1,_,_,_,h3,T,h4,_⟩:=Bi.at (xB hrow hj)
   rw[hv] at h1
   cases h1
   rw[Addr.add_add];exact⟨u,h3,h4.rm fun _ h=>h⟩
 obtain⟨ad,c,hv⟩: ∃ad c,v= .slice (some ad) rows.length c:=by
  cases Bi with
  |sub _ _ _ _ A c u T k hn=>
   obtain⟨ad,rfl⟩:=k.addr hne;exact⟨ad,c,rfl⟩
 refine⟨ad,c,hv,hn,by omega,?_⟩;unfold aev
 split
 ·rename_i o
  obtain⟨b,hb,hc⟩:=hc;unfold pV at hr;simp only[hb] at hr;obtain⟨dp,z',bE⟩:=b;simp only[bq,zJ] at hr;obtain⟨rfl,hr⟩:=hr;have hc:v=φ.V o:=hc;exact⟨_,hb,hn,ad,_,c,by rw[←hc];exact hv,rfl⟩
 ·exact hep ad c hv
 ·rename_i ds o i f z' bE
  unfold pV at hr;simp only[bq,zJ] at hr;obtain⟨rfl,rfl⟩:=hr;obtain⟨_,b,hb,hi,ht,a0,n0,c0,hV,hcell⟩:=hc.2.2 o i f rfl;rw[hv] at hcell;exact⟨b,hb,hn,a0,n0,c0,hV,hi,_,_,ht,ad,_,c,hcell,rfl⟩
 ·exact hep ad c hv
 ·trivial
theorem WK (hT:ij C) {a:Act} (h:bw F A w0 φ st a.tmps w) {o:Oper} {t:TypeId} {x i:Operand} (ho:o.op= .indexAddr t x i) {K:TE→Ev R} (hk:(jx C st o K).holds cf lp Q):
 ∃v e,(∀w,(execOp a.eval o).run C.P w= .ok (.value v) w)∧dx st.ob w φ e v∧(K e).holds cf lp Q:=by
 have hx:=fC hT h t x;have hi:=fC hT h 0 i;unfold jx at hk;rw[ho] at hk;simp only at hk
 split at hk
 ·rename_i et e n h1 h2 h3
  obtain⟨hu,hke⟩:=xY hT h1;obtain⟨_,hc⟩:=zR hx h2;obtain⟨k,hn⟩:=Bv hi h3
  split at hk
  ·rename_i z rows hr
   split at hk
   ·rename_i hz
    obtain⟨_,hz⟩:=VA hz;obtain⟨cells,hrow,hk⟩:=hk;obtain⟨ad,c,hv,g1,g2,g3⟩:=aeT h hc hr hrow;refine⟨_,_,?_,g3,hk⟩;intro w
    have hel:C.P.elem t=et:=by unfold Program.elem;rw[hu]
    have:=run_indexAt_slice (P:=C.P) w t ad rows.length c k n (WJ hu);rw[aR ⟨g1,g2⟩,hel,vY (hT et hke)] at this;unfold execOp;rw[ho];simp only[hv,hn,Sem.run_bind,this,Result.andThen,hz]
    rfl
   ·exact hk.elim
  ·exact hk.elim
 ·exact hk.elim
theorem aht (hT:ij C) {tm:Array Value} (h:bw F A w0 φ st tm w) {t ty:TypeId} {e:CE} {v:Value} (hc:ek st.ob w φ e v) {K:Value→Ev R} (hk:(ajx C st t e K).holds cf lp Q):
 ∃n:Nat,(∀w,(Builtin.len_ #[t] ty #[v]).run C.P w= .ok (goInt n) w)∧(K (.int .i64 n)).holds cf lp Q:=by
 unfold ajx at hk
 split at hk
 ·rename_i s ht
  have hu:=(hT t (by unfold known;rw[ht])).desc;rw[ht] at hu;obtain⟨rfl,_⟩:=hc;exact⟨_,fun w=>run_len_string w t ty s hu,hk⟩
 ·rename_i et ht
  have hu:=(hT t (by unfold known;rw[ht])).desc;rw[ht] at hu
  split at hk
  ·rename_i z rows hr
   obtain⟨A',c,rfl,_⟩:=(tC h hc hr).1.len;exact⟨_,fun w=>run_len_slice w t ty A' rows.length c (WJ hu.1),hk⟩
  ·exact hk.elim
 ·exact hk.elim
attribute [local semireducible] va in
theorem YD {s:ByteArray} {i b:Int} (h:va s i=some b): ∃hi:0≤i∧i<s.size,b=(s[i.toNat]'au).toNat:=by
 unfold va at h
 split at h
 ·rename_i h0
  have hlt:i.toNat<s.size:=by
   apply Classical.byContradiction
   intro hn;rw[getElem?_neg s i.toNat au] at h
   cases h
  refine⟨⟨h0,by omega⟩,?_⟩;rw[ByteArray.getElem?_lt' s _ hlt] at h;simp only[nT,bq] at h;exact h.symm
 ·cases h
theorem aeU (hT:ij C) {a:Act} (h:bw F A w0 φ st a.tmps w) {o:Oper} {t:TypeId} {x i:Operand} (ho:o.op= .index t x i) {K:TE→Ev R} (hk:(jx C st o K).holds cf lp Q):
 ∃v e,(∀w,(execOp a.eval o).run C.P w= .ok (.value v) w)∧dx st.ob w φ e v∧(K e).holds cf lp Q:=by
 have hx:=fC hT h t x;have hi:=fC hT h 0 i;unfold jx at hk;rw[ho] at hk;simp only at hk
 split at hk
 ·rename_i s n ht h2 h3
  have hu:=(hT t (by unfold known;rw[ht])).desc;rw[ht] at hu;have hv:=WG hx h2;obtain⟨k,hn⟩:=Bv hi h3;obtain⟨b,hb,hk⟩:=hk;obtain⟨hin,rfl⟩:=YD hb;refine⟨_,_,?_,mH (v:= .int .u8 _) trivial,hk⟩;intro w;have:=run_index_string (P:=C.P) w t s k n hu;rw[dif_pos hin] at this;unfold execOp;rw[ho];simp only[hv,hn,Sem.run_bind,this,Result.andThen]
  rfl
 ·exact hk.elim
end Go.T
namespace Go.T
variable {F : Nat → Prop} {A : Arg} {w0 w w' : World} {φ φ' : Fp} {st st' : TS} {C : mG}
variable {R : Type} {cf : Cf} {lp : Lp} {Q : R → Prop}
attribute [local semireducible] QF in
theorem ahu (hT:ij C) {a:Act} (h:bw F A w0 φ st a.tmps w) {o:Oper} {op:UnOp} {t:TypeId} {x:Operand} (ho:o.op= .unOp op t x) {K:TE→Ev R} (hk:(jx C st o K).holds cf lp Q):
 ∃v e,(∀w,(execOp a.eval o).run C.P w= .ok (.value v) w)∧dx st.ob w φ e v∧(K e).holds cf lp Q:=by
 have hx:=fC hT h o.type x;unfold jx at hk;rw[ho] at hk;simp only at hk
 have run: ∀u v,a.eval x=u→(∀w,(Op.unary op u).run C.P w= .ok v w)→ ∀w,(execOp a.eval o).run C.P w= .ok (.value v) w:=fun u v he hu w=>by
  unfold execOp;rw[ho];simp only[he,Sem.run_bind,hu,Result.andThen]
  rfl
 split at hk
 ·rename_i b he
  rw[he] at hx;have hx:a.eval x= .bool b:=hx
  cases b with
  |true=>exact⟨_,.kb false,run _ _ hx (fun _=>rfl),rfl,hk⟩
  |false=>exact⟨_,.kb true,run _ _ hx (fun _=>rfl),rfl,hk⟩
 ·rename_i b he
  rw[he] at hx;have hx:=qn hx;exact⟨_,_,run _ _ hx (fun _=>rfl),mH (v:= .bool (!b)) trivial,hk⟩
 ·rename_i k n he
  rw[he] at hx;have hx:=qn hx;refine⟨_,_,run _ _ hx ?_,mH (v:= .int k (QF k 0 n)) trivial,hk⟩;intro w;simp[Op.unary,Op.intArith,QF]
 ·exact hk.elim
theorem YE {P:Program} {d:Nat} {t:TypeId} {k:IntKind} {a b:Int} (h:eqK P 1 t=true) (w:World):(Op.equalIn (d+1) t (.int k a) (.int k b)).run P w= .ok (a==b) w:=by
 unfold eqK at h
 split at h
 ·rename_i e
  simp only[Op.equalIn,Sem.run_bind,run_underlying e,Result.andThen_ok,if_true]
  rfl
 ·omega
 ·omega
 ·cases h
theorem WL {P:Program} {d:Nat} {t:TypeId} {a b:Bool} (h:eqK P 2 t=true) (w:World):(Op.equalIn (d+1) t (.bool a) (.bool b)).run P w= .ok (a==b) w:=by
 unfold eqK at h
 split at h
 ·omega
 ·rename_i e
  simp only[Op.equalIn,Sem.run_bind,run_underlying e,Result.andThen_ok]
  rfl
 ·omega
 ·cases h
theorem YF {P:Program} {d:Nat} {t:TypeId} {a b:ByteArray} (h:eqK P 3 t=true) (w:World):(Op.equalIn (d+1) t (.string a) (.string b)).run P w= .ok (a==b) w:=by
 unfold eqK at h
 split at h
 ·omega
 ·omega
 ·rename_i e
  simp only[Op.equalIn,Sem.run_bind,run_underlying e,Result.andThen_ok]
  rfl
 ·cases h
theorem ach {P:Program} {k:Nat} {t:TypeId} (h:eqK P k t=true) {xs:Array Value} {j:Nat} {x:Value} (hx:xs[j]?=some x) (w:World):(part t xs j).run P w= .ok x w:=by
 have hu:(isAgg t).run P w= .ok false w:=by
  unfold isAgg;rw[Sem.run_bind];unfold eqK at h
  split at h
  ·rename_i e;rw[run_underlying e];rfl
  ·rename_i e;rw[run_underlying e];rfl
  ·rename_i e;rw[run_underlying e];rfl
  ·cases h
 unfold part;rw[Sem.run_bind,hu];simp only[Result.andThen_ok,Ds,if_false,hx]
 rfl
theorem amP (a b:ByteArray):(a==b)=(a.toList==b.toList):=by
 by_cases h:a=b
 ·subst h;rw[(MapKept.bytes_beq a a).2 rfl];simp
 ·have h1:(a==b)=false:=by
   cases e:a==b with
   |false=>rfl
   |true=>exact absurd ((MapKept.bytes_beq a b).1 e) h
  have h2:a.toList≠b.toList:=fun e=>h (by
   rw[ByteArray.toList_eq,ByteArray.toList_eq] at e;obtain⟨⟨x⟩⟩:=a;obtain⟨⟨y⟩⟩:=b;simp only at e
   rw[e])
  rw[h1];simp[h2]
section
attribute [local semireducible] cO eqB FE
theorem zS {P:Program} {ob:List (Nat×OB)} {d:Nat} {w':World}: ∀(ks:List Nat) (cx cy:List CE) (fs:List Field) (j:Nat) (b:Bool) (xs ys:Array Value),aho P ks j fs=true→zM ks cx cy=some b→
 (∀(i:Nat) (e:CE),cx[i]?=some e→ ∃x,xs[j+i]?=some x∧ek ob w φ e x)→(∀(i:Nat) (e:CE),cy[i]?=some e→ ∃x,ys[j+i]?=some x∧ek ob w φ e x)→(Op.eqFields (d+1) xs ys fs).run P w'= .ok b w'
 |[],[],[],[],_,b,xs,ys,_,h,_,_=>by
  simp only[zM,bq] at h;subst h;simp[Op.eqFields]
 |k::ks,cx,cy,f::r,j,b,xs,ys,he,h,hx,hy=>by
  simp only[aho,dY] at he;obtain⟨⟨⟨h1,h2⟩,h3⟩,h4⟩:=he;have h1:=jw h1
  have hn:f.name≠ "_" :=by simpa using h2
  have step: ∀{u v:Value} {p q:Bool},xs[j]?=some u→ys[j]?=some v→(Op.equalIn (d+1) f.type u v).run P w'= .ok p w'→(Op.eqFields (d+1) xs ys r).run P w'= .ok q w'→(Op.eqFields (d+1) xs ys (f::r)).run P w'= .ok (p&&q) w':=fun {u v p q} hu hv hp hq=>by
   rw[Op.eqFields];simp only[aR hn,Sem.run_bind,h1,ach h3 hu,ach h3 hv,hp,hq,Result.andThen_ok]
   cases p
   ·simp
   ·simpa using hq
  unfold zM at h
  split at h
  ·simp_all
  ·rename_i ks' k1 a r1 k1' b1 r1' heq
   cases heq
   split at h
   ·rename_i hk
    subst hk
    split at h
    ·rename_i q hq
     cases h
     obtain⟨u,u1,u2⟩:=hx 0 _ rfl;obtain⟨v,v1,v2⟩:=hy 0 _ rfl;obtain⟨rfl,_⟩:=u2;obtain⟨rfl,_⟩:=v2;exact step u1 v1 (YE h3 w') (zS ks r1 r1' r (j+1) q xs ys h4 hq (fun i e hi=>by have:=hx (i+1) e hi;rwa [show j+(i+1)=j+1+i by omega] at this) (fun i e hi=>by have:=hy (i+1) e hi;rwa [show j+(i+1)=j+1+i by omega] at this))
    ·cases h
   ·cases h
  ·rename_i ks' a r1 b1 r1' heq
   cases heq
   split at h
   ·rename_i q hq
    cases h
    obtain⟨u,u1,u2⟩:=hx 0 _ rfl;obtain⟨v,v1,v2⟩:=hy 0 _ rfl;obtain⟨rfl,_⟩:=u2;obtain⟨rfl,_⟩:=v2;exact step u1 v1 (WL h3 w') (zS ks r1 r1' r (j+1) q xs ys h4 hq (fun i e hi=>by have:=hx (i+1) e hi;rwa [show j+(i+1)=j+1+i by omega] at this) (fun i e hi=>by have:=hy (i+1) e hi;rwa [show j+(i+1)=j+1+i by omega] at this))
   ·cases h
  ·rename_i ks' a r1 b1 r1' heq
   cases heq
   split at h
   ·rename_i q hq
    cases h
    obtain⟨u,u1,u2⟩:=hx 0 _ rfl;obtain⟨v,v1,v2⟩:=hy 0 _ rfl;obtain⟨rfl,_⟩:=u2;obtain⟨rfl,_⟩:=v2;exact step u1 v1 (by rw[show FE a b1=(a==b1) from(amP a b1).symm];exact YF h3 w') (zS ks r1 r1' r (j+1) q xs ys h4 hq (fun i e hi=>by have:=hx (i+1) e hi;rwa [show j+(i+1)=j+1+i by omega] at this) (fun i e hi=>by have:=hy (i+1) e hi;rwa [show j+(i+1)=j+1+i by omega] at this))
   ·cases h
  ·cases h
end
theorem aeV (hT:ij C) {a:Act} (h:bw F A w0 φ st a.tmps w) {o:Oper} {op:BinOp} {t u:TypeId} {x y:Operand} (ho:o.op= .binOp op t x y u) {K:TE→Ev R} (hk:(jx C st o K).holds cf lp Q):
 ∃v e,(∀w,(execOp a.eval o).run C.P w= .ok (.value v) w)∧dx st.ob w φ e v∧(K e).holds cf lp Q:=by
 have pl: ∀e v,dx st.ob w φ e v→dx st.ob w φ (plain e) v:=fun e v he=>by
  unfold plain
  split
  ·have he:v=_:=he
   rw[he];exact mH (v:= .bool _) trivial
  ·exact he
 have hx:=pl _ _ (fC hT h t x);have hy:=pl _ _ (fC hT h t y);unfold jx at hk;rw[ho] at hk;simp only at hk
 split at hk
 ·rename_i a1 b1 h1 h2
  rw[h1] at hx;rw[h2] at hy;have sc:=(Bu hx).2.2;have hx:=qn hx;have hy:=qn hy;obtain⟨v,e,g1,g2,g3⟩:=ahs (w:=w) (φ:=φ) hT (ob:=st.ob) sc hk;refine⟨v,e,?_,g2,g3⟩;intro w;unfold execOp;rw[ho];simp only[hx,hy,aaV sc,Sem.run_bind,Sem.run_pure,g1,Result.andThen]
 ·rename_i xs ys h1 h2
  rw[h1] at hx;rw[h2] at hy;obtain⟨_,e1,hx⟩:=hx
  cases e1
  obtain⟨X,hxv,_,hX⟩:=hx;obtain⟨_,e2,hy⟩:=hy
  cases e2
  obtain⟨Y,hyv,_,hY⟩:=hy
  split at hk
  ·exact hk.elim
  ·exact hk.elim
  ·rename_i k ks hkn hks
   have hE:=(hT t hkn).eqs (by rw[hks];exact List.cons_ne_nil _ _);unfold aeO at hE;simp only[dY,yg] at hE;obtain⟨⟨q1,q2⟩,q3⟩:=hE
   split at q3
   ·rename_i fields hf
    have hfo:C.P.fieldsOf t=fields:=by simp[Program.fieldsOf,hf]
    have key: ∀{b:Bool},zM (k::ks) xs ys=some b→ ∀w',(Op.equalIn 10000 t (.agg X) (.agg Y)).run C.P w'= .ok b w':=fun {b} hb w'=>by
     rw[show(10000:Nat)=9999+1 from rfl,run_equalIn_struct w' 9999 t X Y (by rw[hfo];exact hf) q1,hfo];rw[hks] at q3
     exact zS (ob:=st.ob) (w:=w) (φ:=φ) (d:=9998) _ xs ys _ 0 b X Y q3 hb (fun i e hi=>by
      obtain⟨x,x1,_,x3⟩:=hX i e hi
      exact⟨x,by rw[lG];exact x1,x3⟩) (fun i e hi=>by
      obtain⟨x,x1,_,x3⟩:=hY i e hi
      exact⟨x,by rw[lG];exact x1,x3⟩)
    split at hk
    ·rename_i b hb
     refine⟨.bool b,_,fun w'=> ?_,mH (v:= .bool b) trivial,hk⟩;unfold execOp;rw[ho];simp only[hxv,hyv,Sem.run_bind,run_eqGuard_agg _ _ _ _ _ _ _ q2,Result.andThen_ok,run_eql_struct,key hb w']
     rfl
    ·rename_i b hb
     refine⟨.bool (!b),_,fun w'=> ?_,mH (v:= .bool (!b)) trivial,hk⟩;unfold execOp;rw[ho];simp only[hxv,hyv,Sem.run_bind,run_eqGuard_agg _ _ _ _ _ _ _ q2,Result.andThen_ok,run_neq_struct,key hb w']
     rfl
    ·exact hk.elim
   ·cases q3
 ·exact hk.elim
attribute [local semireducible] eP in
theorem YG {l h n:Int} (k:eP l h n=true):0≤l∧l≤h∧h≤n:=th k
theorem Ka {z n:Nat} {l h:Int} (k:0≤l∧l≤h∧h≤n) (A:Option Addr) (c:Nat):Dx z n l h (.slice A n c) (sliced A l.toNat h.toNat c z):=by
 refine⟨k.1,k.2.1,k.2.2,A,_,c,rfl,rfl,fun hc=>aJ hc,fun hA=> ?_,fun ad hA=> ?_⟩
 ·subst hA;split<;>rfl
 ·subst hA
  split
  ·exact⟨ad,rfl,rfl,id⟩
  ·exact⟨_,rfl,cR _ _,FU _⟩
attribute [local semireducible] JU in
theorem Dx.cut {z N:Nat} {a b l h:Int} {V:Value} {A:Option Addr} {n c:Nat} (k:Dx z N a b V (.slice A n c)) (hl:0≤l∧l≤h∧h≤n) (hcap: ∀A c,V= .slice A N c→N≤c):Dx z N (JU a l) (JU a h) V (sliced A l.toNat h.toNat c z):=by
 obtain⟨h1,h2,h3,A0,A',c0,e1,e2,e3,e4,e5⟩:=k
 cases e2
 have hcap:=hcap _ _ e1
 have Yg:(JU a l).toNat=a.toNat+l.toNat:=by show(a+l).toNat=_;omega
 have hph:(JU a h).toNat=a.toNat+h.toNat:=by show(a+h).toNat=_;omega
 refine⟨by show 0≤a+l;omega,by show a+l≤a+h;omega,by show a+h≤(N:Int);omega,A0,(if c0-a.toNat=l.toNat then A else A.map (·.add (l.toNat*z))),c0,e1,?_,fun hc=> ?_,fun hA=> ?_,fun ad hA=> ?_⟩
 ·show Value.slice _ _ _=_
  rw[Yg,hph]
  congr 1<;>omega
 ·rw[Yg] at hc ⊢
  rw[aJ au,e3 au]
  cases A0 with
  |none=>rfl
  |some ad=>
   simp only[nT,Addr.add_add,rE]
 ·rw[e4 hA];split<;>rfl
 ·obtain⟨ad',g1,g2,g3⟩:=e5 ad hA
  rw[g1]
  split
  ·exact⟨ad',rfl,g2,g3⟩
  ·exact⟨_,rfl,by rw[cR];exact g2,fun hs=>FU _ (g3 hs)⟩
theorem aeW {tm:Array Value} (h:bw F A w0 φ st tm w) {e:CE} {v:Value} (hc:ek st.ob w φ e v) {z:Nat} {rows:List (List TC)} (hr:pV st e=some (z,rows)) {l m:Int} (hl:0≤l∧l≤m∧m≤rows.length)
 {A':Option Addr} {n c:Nat} (hv:v= .slice A' n c):ek st.ob w φ (aeu e l m) (sliced A' l.toNat m.toNat c z):=by
 have Bi:=(tC h hc hr).1;obtain⟨A2,c2,hv2,hlen,_⟩:=Bi.len;rw[hv] at hv2
 cases hv2
 unfold pV at hr
 split at hr
 ·cases hr
  obtain⟨hv',hz⟩:=hc;rw[hv] at hv'
  cases hv'
  have h1:l=0:=by simp at hl;omega
  have h2:m=0:=by simp at hl;omega
  subst h1 h2;exact⟨rfl,hz⟩
 ·rename_i o cut
  obtain⟨b,hb,hc⟩:=hc;rw[hb] at hr;obtain⟨dp,z',bE⟩:=b;simp only[bq,zJ] at hr;obtain⟨rfl,rfl⟩:=hr
  cases cut with
  |none=>
   have hc:v=φ.V o:=hc;refine⟨_,hb,?_⟩;show Dx z' bE.length l m (φ.V o) _;rw[←hc,hv];exact Ka hl A' c
  |some q=>
   obtain⟨a,b⟩:=q;have hc:Dx z' bE.length a b (φ.V o) v:=hc;rw[hv] at hc;refine⟨_,hb,?_⟩;refine Dx.cut hc hl fun A c hV=> ?_;have hO:=h.obj o _ hb;obtain⟨A3,c3,h3,h4,_⟩:=av.len hO;rw[hV] at h3
   cases h3
   exact h4
 ·cases hr
  obtain⟨h1,h2,h3⟩:=hc;refine⟨h1,h2.cut ?_,fun _ _ _ he=>by cases he⟩;rw[hv];exact Ka hl A' c
 ·cases hr
end Go.T
namespace Go.T
variable {F : Nat → Prop} {A : Arg} {w0 w w' : World} {φ φ' : Fp} {st st' : TS} {C : mG}
variable {R : Type} {cf : Cf} {lp : Lp} {Q : R → Prop}
theorem aeX (hT:ij C) {a:Act} (h:bw F A w0 φ st a.tmps w) {d:Int} {x:Option Operand} {n:Int} (hb:bound C st d x=some n):(x=none∧n=d)∨ ∃y k,x=some y∧a.eval y= .int k n:=by
 unfold bound at hb
 split at hb
 ·cases hb;exact .inl ⟨rfl,rfl⟩
 ·rename_i y
  obtain⟨k,hk⟩:=Bv (fC hT h 0 y) hb;exact .inr ⟨y,k,rfl,hk⟩
theorem ahv {P:Program} {t et:TypeId} (hu:P.underlying t=some (.slice et)) {z:Nat} (hz:(sizeOf et).run P w= .ok z w) {A:Option Addr} {n c:Nat} (hc:n≤c) {lo hi:Option Value} {l m:Int}
 (hlo:(lo=none∧l=0)∨ ∃k,lo=some (.int k l)) (hhi:(hi=none∧m=n)∨ ∃k,hi=some (.int k m)) (hl:0≤l∧l≤m∧m≤n):
 (Instr.sliceAt t (.slice A n c) lo hi none).run P w= .ok (sliced A l.toNat m.toNat c z) w:=by
 have hu':=WJ hu
 have hel:P.elem t=et:=by unfold Program.elem;rw[hu]
 rw[run_sliceAt_slice w t _ _ _ _ hu'];rcases hlo with⟨rfl,rfl⟩|⟨kl,rfl⟩<;>rcases hhi with⟨rfl,rfl⟩|⟨kh,rfl⟩
 ·rw[run_slice_all w t A n c hu',hel,hz];simp[Result.andThen]
 ·rw[run_slice_h w t A n c hu' kh m au au,hel,hz];simp[Result.andThen]
 ·rw[run_slice_l w t A n c hu' kl l hl.1 au,hel,hz];simp[Result.andThen]
 ·rw[run_slice_lh w t A n c hu' kl kh l m hl.1 hl.2.1 au,hel,hz];simp[Result.andThen]
theorem aeY {P:Program} {t:TypeId} (hu:P.underlying t=some .string) {s:ByteArray} {lo hi:Option Value} {l m:Int}
 (hlo:(lo=none∧l=0)∨ ∃k,lo=some (.int k l)) (hhi:(hi=none∧m=s.size)∨ ∃k,hi=some (.int k m)) (hl:0≤l∧l≤m∧m≤s.size):
 (Instr.sliceAt t (.string s) lo hi none).run P w= .ok (.string (s.extract l.toNat m.toNat)) w:=by
 rw[run_sliceAt_string w t _ _ _ _ hu];rcases hlo with⟨rfl,rfl⟩|⟨kl,rfl⟩<;>rcases hhi with⟨rfl,rfl⟩|⟨kh,rfl⟩
 ·rw[run_slice_string_all w t s hu];simp
 ·rw[run_slice_string_h w t s hu kh m au au];simp
 ·rw[run_slice_string_l w t s hu kl l hl.1 au];simp
 ·rw[run_slice_string w t s kl kh l m hu hl.1 hl.2.1 au]
attribute [local semireducible] ak1 in
theorem aeZ (hT:ij C) {a:Act} (h:bw F A w0 φ st a.tmps w) {o:Oper} {t:TypeId} {x:Operand} {lo hi mx:Option Operand} (ho:o.op= .slice t x lo hi mx) {K:TE→Ev R} (hk:(jx C st o K).holds cf lp Q):
 ∃v e,(∀w,(execOp a.eval o).run C.P w= .ok (.value v) w)∧dx st.ob w φ e v∧(K e).holds cf lp Q:=by
 have hx:=fC hT h t x;unfold jx at hk;rw[ho] at hk;simp only at hk
 have run: ∀v,(∀w,(Instr.sliceAt t (a.eval x) (lo.map a.eval) (hi.map a.eval) (mx.map a.eval)).run C.P w= .ok v w)→ ∀w,(execOp a.eval o).run C.P w= .ok (.value v) w:=fun v hv w=>by
  unfold execOp;rw[ho];simp only[Sem.run_bind,hv,Result.andThen]
  rfl
 have bd: ∀(d:Int) (y:Option Operand) (n:Int),bound C st d y=some n→(y.map a.eval=none∧n=d)∨ ∃k,y.map a.eval=some (.int k n):=fun d y n hb=>by
  rcases aeX hT h hb with⟨rfl,rfl⟩|⟨z,k,rfl,hz⟩
  ·exact .inl ⟨rfl,rfl⟩
  ·exact .inr ⟨k,by simp[hz]⟩
 split at hk
 ·rename_i s ht he
  have hu:=(hT t (by unfold known;rw[ht])).desc;rw[ht] at hu;have hv:a.eval x= .string s:=(zR hx he).2.1
  split at hk
  ·rename_i l m h1 h2
   simp only[Ev.holds] at hk
   split at hk
   ·rename_i hc
    refine⟨_,_,run _ ?_,mH (v:= .string _) trivial,hk⟩;intro w;rw[hv];exact aeY hu (bd _ _ _ h1) (bd _ _ _ h2) (YG hc)
   ·exact hk.elim
  ·exact hk.elim
 ·rename_i et e ht he
  have hu:=(hT t (by unfold known;rw[ht])).desc;rw[ht] at hu;obtain⟨_,hc⟩:=zR hx he
  split at hk
  ·rename_i z rows hr
   split at hk
   ·rename_i l m hz h1 h2
    obtain⟨hke,hz⟩:=VA hz;simp only[Ev.holds] at hk
    split at hk
    ·rename_i Ct
     have Ct:=YG Ct;obtain⟨A',c,hv,hlen,_⟩:=(tC h hc hr).1.len;refine⟨_,_,run _ ?_,WE (c:=aeu e l m) rfl (aeW h hc hr Ct hv),hk⟩;intro w;rw[hv];exact ahv hu.1 (by rw[hz];exact vY (hT et hke) w) hlen (bd _ _ _ h1) (bd _ _ _ h2) Ct
    ·exact hk.elim
   ·exact hk.elim
  ·exact hk.elim
 ·exact hk.elim
end Go.T
namespace Go.T
variable {F : Nat → Prop} {A : Arg} {w0 w w' : World} {φ φ' : Fp} {st st' : TS} {C : mG}
variable {R : Type} {cf : Cf} {lp : Lp} {Q : R → Prop}
theorem Q2 (hT:ij C) {a:Act} (h:bw F A w0 φ st a.tmps w): ∀(xs:List Operand) (bs:List Nat),Qk C st xs=some bs→xs.map a.eval=bs.map fun b=>Value.pointer (some (φ.β b))
 |[],bs,hb=>by cases hb;rfl
 |x::r,bs,hb=>by
  unfold Qk at hb
  split at hb
  ·rename_i b bs' h1 h2
   cases hb
   have hx:=fC hT h 0 x;rw[h1] at hx;have hx:a.eval x=_:=hx;rw[List.map_cons,List.map_cons,Q2 hT h r bs' h2,hx,Addr.add_zero']
  ·cases hb
theorem YH (hT:ij C) {a:Act} (h:bw F A w0 φ st a.tmps w) {o:Oper} {fn:Fn} {first caps:Array Operand} (ho:o.op= .makeFunc fn first caps) {K:TE→Ev R} (hk:(jx C st o K).holds cf lp Q):
 ∃v e,(∀w,(execOp a.eval o).run C.P w= .ok (.value v) w)∧dx st.ob w φ e v∧(K e).holds cf lp Q:=by
 unfold jx at hk;rw[ho] at hk;simp only at hk
 split at hk
 ·rename_i f bs h1 h2
  refine⟨.func (.func f) #[] (bs.map fun b=>Value.pointer (some (φ.β b))).toArray,.fn f bs,?_,?_,hk⟩
  ·have e1:first= #[]:=by cases first;simp at h1;subst h1;rfl
   have e2:caps.map a.eval=(bs.map fun b=>Value.pointer (some (φ.β b))).toArray:=by
    apply Array.ext'
    rw[Array.toList_map];exact Q2 hT h _ _ h2
   intro w;unfold execOp;rw[ho];simp only[Sem.run_bind,e1,e2];simp[Instr.makeFunc,Result.andThen]
  ·rfl
 ·exact hk.elim
theorem v7 {P:Program} {a:Act} {o:Oper} {b:Builtin} {args:Array Operand} {ts:Array TypeId} (ho:o.op= .call {callee:= .builtin b,args,argTypes:=ts}):
 (execOp a.eval o).run P w=(builtin b ts o.type (args.map fun| .const _=>true|_=>false) (args.map a.eval)).run P w:=by
 unfold execOp;rw[ho];simp only[Sem.run_bind,resolve,Sem.run_pure,Result.andThen]
 rfl
theorem ajI (hT:ij C) {a:Act} (h:bw F A w0 φ st a.tmps w) {o:Oper} {args:Array Operand} {ts:Array TypeId} (ho:o.op= .call {callee:= .builtin .len,args,argTypes:=ts}) {K:TE→Ev R} (hk:(jx C st o K).holds cf lp Q):
 ∃v e,(∀w,(execOp a.eval o).run C.P w= .ok (.value v) w)∧dx st.ob w φ e v∧(K e).holds cf lp Q:=by
 unfold jx at hk;rw[ho] at hk;simp only at hk
 split at hk
 ·rename_i x t h1 h2
  split at hk
  ·rename_i e he
   obtain⟨_,hc⟩:=zR (fC hT h t x) he;obtain⟨n,g1,g2⟩:=aht (ty:=o.type) hT h hc hk;refine⟨_,_,?_,mH (v:= .int .i64 n) trivial,g2⟩;intro w;rw[v7 ho]
   have e1:args= #[x]:=by cases args;simp at h1;subst h1;rfl
   have e2:ts= #[t]:=by cases ts;simp at h2;subst h2;rfl
   subst e1 e2;simp only[builtin,Sem.run_bind]
   have:(#[x].map a.eval)= #[a.eval x]:=by simp
   rw[this,g1]
   rfl
  ·exact hk.elim
 ·exact hk.elim
attribute [local semireducible] TH in
theorem ajJ (hT:ij C) {a:Act} (h:bw F A w0 φ st a.tmps w) {o:Oper} {args:Array Operand} {ts:Array TypeId} (ho:o.op= .call {callee:= .builtin .min,args,argTypes:=ts}) {K:TE→Ev R} (hk:(jx C st o K).holds cf lp Q):
 ∃v e,(∀w,(execOp a.eval o).run C.P w= .ok (.value v) w)∧dx st.ob w φ e v∧(K e).holds cf lp Q:=by
 unfold jx at hk;rw[ho] at hk;simp only at hk
 split at hk
 ·rename_i x y t r h1 h2
  split at hk
  ·rename_i k n m g1 g2
   have hx:=WG (fC hT h t x) g1;obtain⟨k',hy⟩:=Bv (fC hT h t y) g2;refine⟨_,_,?_,mH (v:= .int k (TH n m)) trivial,hk⟩;intro w;rw[v7 ho]
   have e1:args= #[x,y]:=by cases args;simp at h1;subst h1;rfl
   subst e1;simp only[builtin,Sem.run_bind]
   have:(#[x,y].map a.eval)= #[a.eval x,a.eval y]:=by simp
   rw[this,hx,hy,run_min_int2]
   rfl
  ·exact hk.elim
 ·exact hk.elim
end Go.T
namespace Go.T
variable {F : Nat → Prop} {A : Arg} {w0 w w' : World} {φ φ' : Fp} {st st' : TS} {C : mG}
variable {R : Type} {cf : Cf} {lp : Lp} {Q : R → Prop}
theorem LO (off:Nat): ∀(l:List Value) (i:Nat) (cs:Array Value),off+i+l.length≤cs.size→
 ((l.zipIdx i).foldl (fun(cs:Array Value) (p:Value×Nat)=>cs.setIfInBounds (off+p.2) p.1) cs).size=cs.size∧
 ∀k,((l.zipIdx i).foldl (fun(cs:Array Value) (p:Value×Nat)=>cs.setIfInBounds (off+p.2) p.1) cs)[k]?=if off+i≤k∧k<off+i+l.length then l[k-(off+i)]? else cs[k]?
 |[],i,cs,h=>⟨rfl,fun k=>by
  simp only[List.zipIdx_nil,List.foldl_nil,List.length_nil]
  rw[aJ au]⟩
 |v::r,i,cs,h=>by
  simp only[gG] at h;obtain⟨h1,h2⟩:=LO off r (i+1) (cs.setIfInBounds (off+i) v) gZ;simp only[List.zipIdx_cons,List.foldl_cons];refine⟨by rw[h1];simp,fun k=> ?_⟩;rw[h2 k];simp only[gG]
  by_cases hk:off+(i+1)≤k∧k<off+(i+1)+r.length
  ·rw[aR hk,aR au]
   have:k-(off+i)=(k-(off+(i+1)))+1:=by omega
   rw[this,tU]
  ·rw[aJ hk]
   by_cases hk2:k=off+i
   ·subst hk2
    rw[aR au,Array.getElem?_setIfInBounds_self_of_lt au];simp
   ·rw[aJ au,Array.getElem?_setIfInBounds_ne au]
def AOk (ob:List (Nat×OB)) (w:World) (φ:Fp) (ces:List CE) (cs:Array Value):Prop:=cs.size=ces.length∧ ∀(j:Nat) (e:CE),ces[j]?=some e→ ∃x,cs[j]?=some x∧x.cells= #[x]∧ek ob w φ e x
theorem aci (hT:ij C) {t:TypeId} {place:Nat→Option (Nat×Nat)} (hp: ∀f off ft,rH C t f=some (off,ft)→place f=some (off,(C.tt ft).size)) {ob:List (Nat×OB)}:
 ∀(tes:List (Nat×TE)) (vs:List (Nat×Value)) (ces ces':List CE) (cs:Array Value),tes.length=vs.length→(∀(j:Nat) p q,tes[j]?=some p→vs[j]?=some q→p.1=q.1∧dx ob w φ p.2 q.2)→
  AOk ob w φ ces cs→ces.length=(C.tt t).size→CB C t tes ces=some ces'→ ∃cs',Instr.fill place cs vs=some cs'∧AOk ob w φ ces' cs'∧ces'.length=(C.tt t).size
 |[],[],ces,ces',cs,_,_,hA,hl,hb=>by cases hb;exact⟨cs,rfl,hA,hl⟩
 |[],_::_,_,_,_,h,_,_,_,_=>by cases h
 |_::_,[],_,_,_,h,_,_,_,_=>by cases h
 |(f,e)::r,(f',v)::s,ces,ces',cs,hlen,hm,hA,hl,hb=>by
  obtain⟨rfl,Nx⟩:=hm 0 _ _ rfl rfl;unfold CB at hb
  split at hb
  ·rename_i off ft c h1 h2
   split at hb
   ·rename_i hc
    have hc:=jw hc;obtain⟨k1,k2⟩:=vh Nx h2;obtain⟨_,_,_,_,_,_,_,_,hle,_⟩:=FW hT h1;unfold Instr.fill;rw[hp f off ft h1];simp only
    have hsz: ¬(v.cells.size≠(C.tt ft).size||decide (off+v.cells.size>cs.size))=true:=by
     rw[k1,hc,hA.1,hl];simp;omega
    rw[aJ hsz]
    have e1:v.cells.zipIdx.foldl (fun(cs:Array Value) (p:Value×Nat)=>cs.setIfInBounds (off+p.2) p.1) cs=(v.cells.toList.zipIdx 0).foldl (fun(cs:Array Value) (p:Value×Nat)=>cs.setIfInBounds (off+p.2) p.1) cs:=by
     rw[←Array.foldl_toList,Array.toList_zipIdx]
    obtain⟨g1,g2⟩:=LO off v.cells.toList 0 cs (by rw[hA.1,hl,yf,k1,hc];omega)
    have hnew:AOk ob w φ (ces.take off++c++ces.drop (off+c.length)) (v.cells.zipIdx.foldl (fun(cs:Array Value) (p:Value×Nat)=>cs.setIfInBounds (off+p.2) p.1) cs):=by
     rw[e1];refine⟨?_,fun j e' hj=> ?_⟩
     ·rw[g1,hA.1]
      simp only[ct,c7,gQ];omega
     ·rw[g2 j]
      simp only[tW,yf,k1]
      have hto:(ces.take off).length=off:=by rw[c7];omega
      rw[tT] at hj
      by_cases h3:off≤j∧j<off+c.length
      ·rw[aR h3]
       rw[m7 au,hto,kC au] at hj;obtain⟨x,a1,a2⟩:=k2 _ e' hj;exact⟨x,by simpa using a1,a2⟩
      ·rw[aJ h3]
       refine hA.2 j e' ?_
       by_cases h4:j<off
       ·rw[kC au,zG,aR h4] at hj
        exact hj
       ·rw[m7 au,hto,m7 au,o5] at hj
        rw[show off+c.length+(j-off-c.length)=j by omega] at hj;exact hj
    exact aci hT hp r s _ _ _ (by simpa using hlen) (fun j p q h1 h2=>hm (j+1) p q h1 h2) hnew (by rw[←hnew.1,e1,g1,hA.1,hl]) hb
   ·cases hb
  ·cases hb
theorem WM (hT:ij C) {t:TypeId} (hk:known (C.tt t)=true) (hp: ∀e,(C.tt t).ti≠ .ptr e) {ob:List (Nat×OB)}: ∃i z,C.P.info? t=some i∧i.size=(C.tt t).size∧i.zero=some z∧AOk ob w φ ((C.tt t).zero.map Wp) z.cells∧((C.tt t).zero.map Wp).length=(C.tt t).size:=by
 obtain⟨i,z,h1,h2,_,h3,h4⟩:=(hT t hk).info;obtain⟨g1,g2,g3,_⟩:=h4 hp;refine⟨i,z,h1,h2,h3,⟨by rw[←yf,g1];simp,fun j e he=> ?_⟩,by simpa using g2⟩;rw[me] at he
 cases hj:(C.tt t).zero[j]? with
 |none=>rw[hj] at he;cases he
 |some c=>
  rw[hj] at he;simp only[nT,bq] at he;subst he;have hz:=List.all_eq_true.1 g3 c (iV hj);refine⟨ahm c,by rw[←QB,g1,me,hj];rfl,?_⟩
  cases c with
  |any=>cases hz
  |sc v=>cases v<;>first|exact⟨rfl,rfl,trivial⟩|cases hz
  |sub z rows=>cases rows with
   |nil=>exact⟨rfl,rfl,tX hz⟩
   |cons _ _=>cases hz
theorem ae0 (hT:ij C) {a:Act} (h:bw F A w0 φ st a.tmps w) {o:Oper} {t:TypeId} {ps:Array (Nat×Operand)} (ho:o.op= .build t ps) {K:TE→Ev R} (hk:(jx C st o K).holds cf lp Q):
 ∃v e,(∀w,(execOp a.eval o).run C.P w= .ok (.value v) w)∧dx st.ob w φ e v∧(K e).holds cf lp Q:=by
 unfold jx at hk;rw[ho] at hk;simp only at hk
 split at hk
 ·rename_i cs hs hb
  have Wl: ∃fs,(C.tt t).ti= .struct fs:=by
   unfold JV at hs
   split at hs
   ·rename_i fs e;exact⟨fs,e⟩
   ·cases hs
  obtain⟨fs,Wl⟩:=Wl
  have hkn:known (C.tt t)=true:=by unfold known;rw[Wl]
  obtain⟨i,z,h1,h2,h3,h4,h5⟩:=WM (w:=w) (φ:=φ) hT hkn (by rw[Wl];intro e he;cases he) (ob:=st.ob);have hd:=(hT t hkn).desc;rw[Wl] at hd;obtain⟨fields,hu,hfl,hff⟩:=hd
  have hplaces: ∀(l:List Field) (gs:List (Nat×TypeId)),l.length=gs.length→(∀(j:Nat) (p:Nat×TypeId),gs[j]?=some p→ ∃f,l[j]?=some f∧f.offset=p.1∧f.type=p.2∧known (C.tt p.2)=true)→
   l.mapM (fun f=>(C.P.info? f.type).map fun i=>(f.offset,i.size))=some (gs.map fun p=>(p.1,(C.tt p.2).size)):=by
   intro l
   induction l with
   |nil=>intro gs hl _;cases gs with
    |nil=>rfl
    |cons _ _=>cases hl
   |cons f r ih=>
    intro gs hl hg
    cases gs with
    |nil=>cases hl
    |cons p q=>
     obtain⟨f',e1,e2,e3,e4⟩:=hg 0 p rfl;simp only[fu,bq] at e1;subst e1;obtain⟨i',z',k1,k2,_⟩:=(hT p.2 e4).info
     have:=ih q (by simpa using hl) fun j p' hj=>by
      obtain⟨f',x1,x2⟩:=hg (j+1) p' hj;exact⟨f',x1,x2⟩
     simp[List.mapM_cons,e3,k1,this,e2,k2]
  have Yg:=hplaces fields.toList fs (by simpa using hfl) fun j p hj=>by
   obtain⟨f,x1,x2,x3,x4,_⟩:=hff j p hj;exact⟨f,by simpa using x1,x2,x3,x4⟩
  obtain⟨cs',g1,g2,g3⟩:=aci (w:=w) (φ:=φ) hT (t:=t) (place:=((fs.map fun p=>(p.1,(C.tt p.2).size)).toArray[·]?)) (fun f off ft hf=>by
   unfold rH at hf;rw[Wl] at hf;simp only at hf
   simp[hf]) (ob:=st.ob) _ (ps.toList.map fun p=>(p.1,a.eval p.2)) _ _ z.cells bZ (fun j p q hp hq=>by
   rw[me] at hp hq
   cases hj:ps.toList[j]? with
   |none=>rw[hj] at hp;cases hp
   |some r=>
    rw[hj] at hp hq;simp only[nT,bq] at hp hq;subst hp hq
    exact⟨rfl,fC hT h _ _⟩) h4 h5 hb
  refine⟨.agg cs',.v false [.mk true cs],?_,⟨_,rfl,cs',rfl,g2.1,g2.2⟩,hk⟩
  have akl:C.P.built t (ps.map fun(i,x)=>(i,a.eval x)).toList=some cs':=by
   unfold Program.built;rw[h1,hu];simp only[h3,Yg];rw[Array.toList_map];exact g1
  intro w;unfold execOp;rw[ho];simp only[Sem.run_bind,run_build w t _ cs' akl,Result.andThen]
  rfl
 ·exact hk.elim
end Go.T
namespace Go.T
variable {F : Nat → Prop} {A : Arg} {w0 w w' : World} {φ φ' : Fp} {st st' : TS} {C : mG}
variable {R : Type} {cf : Cf} {lp : Lp} {Q : R → Prop}
theorem Kb: ∀{rows:List (List TC)} {ns:List Int},tj rows=some ns→rows=ns.map fun n=>[TC.sc (.int .u8 n)]
 |[],ns,h=>by simp only[tj,bq] at h;subst h;rfl
 |r0::r,ns,h=>by
  unfold tj at h
  split at h
  ·rename_i e;cases e
  ·rename_i n r' e
   cases e
   cases h1:tj r with
   |none=>rw[h1] at h;cases h
   |some l=>
    rw[h1] at h;simp only[nT,bq] at h;subst h;rw[Kb h1]
    rfl
  ·cases h
attribute [local semireducible] tZ in
theorem YI {rows:List (List TC)} {ns:List Int} (h:tZ rows=some ns):rows=ns.map fun n=>[TC.sc (.int .u8 n)]:=Kb h
attribute [local semireducible] FJ in
theorem ae1 (ns:List Int):FJ ns=strOfNums ns:=rfl
theorem WN (hT:ij C) {t:TypeId} {k:IntKind} (h:(C.tt t).ti= .int k):C.P.underlying t=some (.int k):=by
 have:=(hT t (by unfold known;rw[h])).desc;rw[h] at this;exact this
theorem Q3 (hT:ij C) {t:TypeId} (h:(C.tt t).ti= .str):C.P.underlying t=some .string:=by
 have:=(hT t (by unfold known;rw[h])).desc;rw[h] at this;exact this
theorem Q4 (hT:ij C) {t e:TypeId} (h:(C.tt t).ti= .slice e):C.P.underlying t=some (.slice e)∧known (C.tt e)=true:=by
 have:=(hT t (by unfold known;rw[h])).desc;rw[h] at this;exact this
theorem ade {P:Program} {src dst et:TypeId} (hs:P.underlying src=some (.slice et)) (he:P.underlying et=some (.int .u8)) (hd:P.underlying dst=some .string) {Rd S:Nat→Prop} {z:Nat} {rows:List (List TC)} {v:Value}
 (hr:av w Rd .snap S (.sub z rows) v) {ns:List Int} (hb:tZ rows=some ns):(convert src dst v).run P w= .ok (.string (FJ ns)) w:=by
 have aau:=YI hb;rw[ae1]
 cases hr with
 |sub _ _ _ _ A c u T k hn=>
  have hl:rows.length=ns.length:=by rw[aau];simp
  cases A with
  |none=>
   have:rows=[]:=Classical.byContradiction fun hne=>by obtain⟨ad,h⟩:=k.addr hne;cases h
   have h0:ns=[]:=by rw[this] at hl;simpa using hl.symm
   subst h0;exact run_convert_bytes_nil w src et hs he _ _ dst hd
  |some ad=>
   have Bn:(loadCells ad rows.length).run P w= .ok (ns.map (Value.int .u8)).toArray w:=by
    have:=run_loadCells_list (P:=P) w ad (ns.map (Value.int .u8)) (fun j v hj=>by
     rw[me] at hj
     cases hn':ns[j]? with
     |none=>rw[hn'] at hj;cases hj
     |some n=>
      rw[hn'] at hj;simp only[nT,bq] at hj;subst hj
      have hrow:rows[j]?=some [TC.sc (.int .u8 n)]:=by rw[aau,me,hn'];rfl
      have hz:z=1:=by have:=k.width _ (iV hrow);simpa using this.symm
      have ht:zQ rows j 0=some (TC.sc (.int .u8 n)):=xB hrow rfl;have h1:=k.cell ad rfl j 0 _ ht;have h2:=hn j 0 _ ht;rw[hz] at h1;simp only[Nat.mul_one,tW] at h1;rw[h1];generalize u j 0=x at h2
      cases h2
      rfl)
    rw[hl];simpa using this
   rw[run_convert_bytes_string w src dst et _ _ _ hs he hd,run_bytesToString w _ _ _ ns Bn,foldl_push_bytes];simp[strOfNums,ByteArray.empty,ByteArray.emptyWithCapacity]
   rfl
def FX (C:mG) (o:Oper):Bool:=match o.op with
 | .move _=>true
 | .assign _=>true
 | .pick _ _ _=>true
 | .nilCheck _=>true
 | .binOp _ _ _ _ _=>true
 | .unOp _ _ _=>true
 | .convert src dst _=>match(C.tt dst).ti,(C.tt src).ti with
   | .int _,_=>true
   | .str,.str=>true
   |_,_=>false
 | .fieldAddr _ _ _=>true
 | .field _ _ _=>true
 | .indexAddr _ _ _=>true
 | .index _ _ _=>true
 | .slice _ _ _ _ _=>true
 | .extract _ _=>true
 | .build _ _=>true
 | .makeFunc _ _ _=>true
 | .call {callee:= .builtin .len,..}=>true
 | .call {callee:= .builtin .min,..}=>true
 |_=>false
attribute [local semireducible] vV in
theorem aaW (hT:ij C) {a:Act} (h:bw F A w0 φ st a.tmps w) {o:Oper} {src dst:TypeId} {x:Operand} (ho:o.op= .convert src dst x) {K:TE→Ev R} (hk:(jx C st o K).holds cf lp Q):
 ∃v e,(execOp a.eval o).run C.P w= .ok (.value v) w∧dx st.ob w φ e v∧(K e).holds cf lp Q∧(FX C o=true→ ∀w,(execOp a.eval o).run C.P w= .ok (.value v) w):=by
 have hx:=fC hT h src x
 have hrun: ∀v w,(convert src dst (a.eval x)).run C.P w= .ok v w→(execOp a.eval o).run C.P w= .ok (.value v) w:=by
  intro v w hv;unfold execOp;rw[ho];simp only[Sem.run_bind,hv,Result.andThen]
  rfl
 unfold jx at hk;rw[ho] at hk;simp only at hk
 split at hk
 ·rename_i k k' q n hd hs he
  rw[he] at hx;obtain⟨_,hc⟩:=Bu hx;have hv:=WD hc;have hd':=WN hT hd
  have hik:C.P.intKind dst=k:=by unfold Program.intKind;rw[hd']
  have hall: ∀w,(convert src dst (a.eval x)).run C.P w= .ok (.int k (vV k n)) w:=fun w=>by
   rw[hv];have:=run_convert_int (P:=C.P) w src dst q n (by rw[WN hT hs];rfl) (by rw[hik];exact hd');rw[hik] at this;exact this
  exact⟨.int k (vV k n),_,hrun _ _ (hall w),mH trivial,hk,fun _ w=>hrun _ _ (hall w)⟩
 ·rename_i s hd hs he
  rw[he] at hx;obtain⟨_,hc⟩:=Bu hx;have hv:=WD hc
  have hall: ∀w,(convert src dst (a.eval x)).run C.P w= .ok (.string s) w:=fun w=>by
   rw[hv];simp[convert,run_underlying (Q3 hT hd),run_underlying (Q3 hT hs)]
  exact⟨.string s,_,hrun _ _ (hall w),mH trivial,hk,fun _ w=>hrun _ _ (hall w)⟩
 ·rename_i et e hd hs he
  split at hk
  ·rename_i z rows hu hr
   obtain⟨ns,hb,hk⟩:=hk;rw[he] at hx;obtain⟨_,hc⟩:=Bu hx;obtain⟨Bi,_⟩:=tC h hc hr;exact⟨.string (FJ ns),_,hrun _ _ (ade (Q4 hT hs).1 (WN hT hu) (Q3 hT hd) Bi hb),mH trivial,hk,fun hbl=>by unfold FX at hbl;rw[ho] at hbl;simp only[hd,hs] at hbl;cases hbl⟩
  ·exact hk.elim
 ·exact hk.elim
theorem YJ (hT:ij C) {a:Act} (h:bw F A w0 φ st a.tmps w) {o:Oper} {K:TE→Ev R} (hk:(jx C st o K).holds cf lp Q):
 ∃v e,(execOp a.eval o).run C.P w= .ok (.value v) w∧dx st.ob w φ e v∧(K e).holds cf lp Q∧(FX C o=true→ ∀w,(execOp a.eval o).run C.P w= .ok (.value v) w):=by
 have Lx:=hk;have all:(∃v e,(∀w,(execOp a.eval o).run C.P w= .ok (.value v) w)∧dx st.ob w φ e v∧(K e).holds cf lp Q)→ ∃v e,(execOp a.eval o).run C.P w= .ok (.value v) w∧dx st.ob w φ e v∧(K e).holds cf lp Q∧(FX C o=true→ ∀w,(execOp a.eval o).run C.P w= .ok (.value v) w):=fun⟨v,e,h1,h2,h3⟩=>⟨v,e,h1 w,h2,h3,fun _=>h1⟩;unfold jx at hk
 split at hk
 ·rename_i e;exact all (acg hT h (.inl e) Lx)
 ·rename_i e;exact all (acg hT h (.inr e) Lx)
 ·rename_i e;exact all (ahq hT h e Lx)
 ·rename_i e
  obtain⟨v,te,h1,h2,h3⟩:=ahr hT h e Lx;exact⟨v,te,h1,h2,h3,fun hb=>by unfold FX at hb;rw[e] at hb;cases hb⟩
 ·rename_i e;exact all (YC hT h e Lx)
 ·rename_i e;exact all (aeV hT h e Lx)
 ·rename_i e;exact all (ahu hT h e Lx)
 ·rename_i e;exact aaW hT h e Lx
 ·rename_i e;exact all (WI hT h e Lx)
 ·rename_i e;exact all (aeS hT h e Lx)
 ·rename_i e;exact all (WK hT h e Lx)
 ·rename_i e;exact all (aeU hT h e Lx)
 ·rename_i e;exact all (aeZ hT h e Lx)
 ·rename_i e;exact all (aaU hT h e Lx)
 ·rename_i e;exact all (ae0 hT h e Lx)
 ·rename_i e;exact all (YH hT h e Lx)
 ·rename_i e;exact all (ajI hT h e Lx)
 ·rename_i e;exact all (ajJ hT h e Lx)
 ·exact hk.elim
end Go.T
namespace Go.T
theorem OB.amQ {m:Mode} (h:m≠ .snap) (z:Nat) (rows:List (List TC)):OB.m ⟨dpM m,z,rows⟩=m:=by
 cases m<;>first|rfl|exact absurd rfl h
def Bw (w:World) (p:bY) (Rg BB:Nat→Prop) (X:Nat→Nat→Prop) (Y:Nat→Prop) (v:TV) (x:Value):Prop:=
 match v with
 | .c c=>av w Rg (p.mc 0) (X 0) c x
 | .ag cs=> ∃xs:Array Value,x= .agg xs∧xs.size=cs.length∧ ∀(j:Nat) (c:TC),cs[j]?=some c→ ∃u,xs[j]?=some u∧av w Rg (p.mc j) (X j) c u
 | .bx cs=> ∃ad,x= .pointer (some ad)∧ad.block<w.heap.size∧(p= .borrow→BB ad.block)∧(p≠ .borrow→ad.spot=none∧Y ad.block∧ ∀j,j<cs.length→w.frozen? (ad.add j)=false)∧
     ∀(j:Nat) (c:TC),cs[j]?=some c→ ∃u,w.cell? (ad.add j)=some u∧av w Rg (p.mc j) (X j) c u
 | .fn f caps=>p= .borrow∧ ∃ads:List Addr,ads.length=caps.length∧x= .func (.func f) #[] (ads.map fun a=>Value.pointer (some a)).toArray∧
     ∀(i:Nat) (cs:List TC),caps[i]?=some cs→ ∃ad,ads[i]?=some ad∧ad.block<w.heap.size∧BB ad.block∧ ∀(j:Nat) (c:TC),cs[j]?=some c→ ∃u,w.cell? (ad.add j)=some u∧av w Rg .snap Lw c u
 | .tu _=>False
structure WO (w:World) (ps:List bY) (vs:List TV) (args:List Value) (Rg BB:Nat→Prop) (X:Nat→Nat→Nat→Prop) (Y:Nat→Nat→Prop):Prop where
 each: ∀(i:Nat) (v:TV),vs[i]?=some v→ ∃x,args[i]?=some x∧Bw w (ps.getD i .borrow) Rg BB (X i) (Y i) v x
 small:yj vs=true
 own: ∀i j k,X i j k→k<w.heap.size∧ ¬Rg k∧ ¬BB k∧(∀i',¬Y i' k)∧ ∀i' j',X i' j' k→i'=i∧j'=j
 box: ∀i k,Y i k→k<w.heap.size∧ ¬Rg k∧ ¬BB k∧ ∀i',Y i' k→i'=i
 rd: ∀k,Rg k→k<w.heap.size
 bb: ∀k,BB k→k<w.heap.size
def v8 (X:Nat→Nat→Nat→Prop) (Y:Nat→Nat→Prop) (k:Nat):Prop:=(∃i j,X i j k)∨ ∃i,Y i k
def Ib (sh:Bool) (Rg BB:Nat→Prop):Arg:=⟨fun k=>Rg k∨BB k,fun k=>sh=true∧Rg k⟩
section
variable {α : Type}
theorem xC (o:Nat): ∀(a b:List (Nat×α)),an o (a++b)=match an o a with|some e=>some e|none=>an o b
 |[],b=>rfl
 |(j,e)::r,b=>by
  simp only[FG,an]
  cases Nat.beq j o with
  |true=>rfl
  |false=>exact xC o r b
end
def adf (sh:Bool) (m:Mode) (o:Nat) (c:TC):CE:=match c with
 | .sc v=> .sc v
 | .sub z rows=>match m with
   | .snap=> .snap (match sh with|true=>[]|false=>[0]) none z rows
   |_=> .ref o none
 | .any=> .gone
theorem ug (sh:Bool) (p:bY) (n j0:Nat) (c:TC) (r:List TC):(eD sh p n j0 (c::r)).1=adf sh (p.mc j0) (n+j0) c::(eD sh p n (j0+1) r).1∧
 (eD sh p n j0 (c::r)).2=(match c with| .sc _=>(eD sh p n (j0+1) r).2| .any=>(eD sh p n (j0+1) r).2| .sub z rows=>match p.mc j0 with| .snap=>(eD sh p n (j0+1) r).2|m=>(n+j0,⟨dpM m,z,rows⟩)::(eD sh p n (j0+1) r).2):=by
 cases c with
 |any=>exact⟨rfl,rfl⟩
 |sc v=>exact⟨rfl,rfl⟩
 |sub z rows=>
  simp only[eD,adf]
  cases p.mc j0<;>exact⟨rfl,rfl⟩
theorem oJ (sh:Bool) (p:bY) (n:Nat): ∀(cs:List TC) (j0:Nat),(eD sh p n j0 cs).1.length=cs.length∧ ∀(j:Nat) (e:CE),(eD sh p n j0 cs).1[j]?=some e→ ∃c,cs[j]?=some c∧e=adf sh (p.mc (j0+j)) (n+j0+j) c
 |[],_=>⟨rfl,fun j e h=>by simp[eD] at h⟩
 |c::r,j0=>by
  obtain⟨h1,h2⟩:=oJ sh p n r (j0+1);rw[(ug sh p n j0 c r).1];refine⟨by simp[h1],fun j e he=> ?_⟩
  cases j with
  |zero=>simp only[fu,bq] at he;exact⟨c,rfl,he.symm⟩
  |succ j=>
   simp only[tU] at he;obtain⟨c',g1,g2⟩:=h2 j e he;exact⟨c',by simpa using g1,by rw[g2,show n+(j0+1)+j=n+j0+(j+1) by omega,show j0+1+j=j0+(j+1) by omega]⟩
theorem CJ (sh:Bool) (p:bY) (n:Nat): ∀(cs:List TC) (j0:Nat),(∀(o:Nat) (b:OB),an o (eD sh p n j0 cs).2=some b→ ∃j z rows,o=n+j0+j∧cs[j]?=some (.sub z rows)∧p.mc (j0+j)≠ .snap∧b=⟨dpM (p.mc (j0+j)),z,rows⟩)∧
 (∀(j:Nat) (z:Nat) (rows:List (List TC)),cs[j]?=some (.sub z rows)→p.mc (j0+j)≠ .snap→an (n+j0+j) (eD sh p n j0 cs).2=some ⟨dpM (p.mc (j0+j)),z,rows⟩)
 |[],_=>⟨fun o b h=>by simp[eD,an] at h,fun j z rows h=>by simp at h⟩
 |c::r,j0=>by
  obtain⟨h1,h2⟩:=CJ sh p n r (j0+1)
  have tail: ∀(o:Nat) (b:OB),an o (eD sh p n (j0+1) r).2=some b→ ∃j z rows,o=n+j0+j∧(c::r)[j]?=some (.sub z rows)∧p.mc (j0+j)≠ .snap∧b=⟨dpM (p.mc (j0+j)),z,rows⟩:=fun o b h=>by
   obtain⟨j,z,rows,e1,e2,e4,e3⟩:=h1 o b h;exact⟨j+1,z,rows,by omega,by simpa using e2,by rw[show j0+(j+1)=j0+1+j by omega];exact e4,by rw[show j0+(j+1)=j0+1+j by omega];exact e3⟩
  have nx: ∀(j:Nat) (z:Nat) (rows:List (List TC)),r[j]?=some (.sub z rows)→p.mc (j0+(j+1))≠ .snap→an (n+j0+(j+1)) (eD sh p n (j0+1) r).2=some ⟨dpM (p.mc (j0+(j+1))),z,rows⟩:=fun j z rows h hm=>by
   rw[show n+j0+(j+1)=n+(j0+1)+j by omega,show j0+(j+1)=j0+1+j by omega];exact h2 j z rows h (by rw[show j0+1+j=j0+(j+1) by omega];exact hm)
  cases c with
  |any=>
   rw[(ug sh p n j0 _ r).2];refine⟨fun o b h=>tail o b h,fun j z rows h hm=> ?_⟩
   cases j with
   |zero=>simp at h
   |succ j=>exact nx j z rows (by simpa using h) hm
  |sc v=>
   rw[(ug sh p n j0 _ r).2];refine⟨fun o b h=>tail o b h,fun j z rows h hm=> ?_⟩
   cases j with
   |zero=>simp at h
   |succ j=>exact nx j z rows (by simpa using h) hm
  |sub z0 qg=>
   by_cases hp:p.mc j0= .snap
   ·rw[(ug sh p n j0 _ r).2]
    simp only[hp];refine⟨fun o b h=>tail o b h,fun j z rows h hm=> ?_⟩
    cases j with
    |zero=>exact absurd hp hm
    |succ j=>exact nx j z rows (by simpa using h) hm
   ·have hd:(eD sh p n j0 (.sub z0 qg::r)).2=(n+j0,⟨dpM (p.mc j0),z0,qg⟩)::(eD sh p n (j0+1) r).2:=by
     rw[(ug sh p n j0 _ r).2]
     cases hm:p.mc j0<;>first|rfl|exact absurd hm hp
    rw[hd];refine⟨fun o b h=> ?_,fun j z rows h hm=> ?_⟩
    ·simp only[an] at h
     cases hb:Nat.beq (n+j0) o with
     |true=>
      rw[hb] at h;have:=jw hb
      cases h
      exact⟨0,z0,qg,by omega,rfl,hp,rfl⟩
     |false=>rw[hb] at h;exact tail o b h
    ·cases j with
     |zero=>
      simp only[fu,bq,TC.sub.injEq] at h;obtain⟨rfl,rfl⟩:=h;simp[an]
     |succ j=>
      simp only[an];rw[beq_false au];exact nx j z rows (by simpa using h) hm
def gx:TV→List TC
 | .c c=>[c]
 | .ag cs=>cs
 | .bx cs=>cs
 |_=>[]
def aaX (sh:Bool) (p:bY) (i:Nat):TV→TE
 | .c c=> .v false [.mk false (eD sh p (500+16*i) 0 [c]).1]
 | .ag cs=> .v false [.mk true (eD sh p (500+16*i) 0 cs).1]
 | .bx _=> .bp (Bs p i) 0
 | .fn f caps=> .fn f (List.range' (200000+1000*i+1) caps.length)
 | .tu _=> .dead
theorem vi {α:Type} (l:List α) (d:α):l.headD d=l.getD 0 d:=by cases l<;>rfl
theorem nW {α:Type} (l:List α) (d:α) (i:Nat):(l.drop 1).getD i d=l.getD (i+1) d:=by cases l<;>simp
theorem Hl (sh:Bool) (ps:List bY) (i:Nat) (v:TV) (r:List TV):
 (init sh ps i (v::r)).tm=(match v with| .tu _=>(init sh (ps.drop 1) (i+1) r).tm|v=>(i,aaX sh (ps.getD 0 .borrow) i v)::(init sh (ps.drop 1) (i+1) r).tm)∧
 (init sh ps i (v::r)).bx=(match v with
   | .bx cs=>(Bs (ps.getD 0 .borrow) i,(eD sh (ps.getD 0 .borrow) (500+16*i) 0 cs).1)::(init sh (ps.drop 1) (i+1) r).bx
   | .fn _ caps=>LI sh (200000+1000*i+1) caps++(init sh (ps.drop 1) (i+1) r).bx
   |_=>(init sh (ps.drop 1) (i+1) r).bx)∧
 (init sh ps i (v::r)).ob=(eD sh (ps.getD 0 .borrow) (500+16*i) 0 (gx v)).2++(init sh (ps.drop 1) (i+1) r).ob:=by
 simp only[←vi]
 cases v<;>exact⟨rfl,rfl,by simp[init,gx,eD]⟩
theorem acj (sh:Bool): ∀(vs:List TV) (ps:List bY) (i k:Nat) (e:TE),an k (init sh ps i vs).tm=some e→i≤k∧ ∃v,vs[k-i]?=some v∧e=aaX sh (ps.getD (k-i) .borrow) k v
 |[],_,_,_,_,h=>by simp[init,an] at h
 |v::r,ps,i,k,e,h=>by
  have tail:an k (init sh (ps.drop 1) (i+1) r).tm=some e→i≤k∧ ∃v',(v::r)[k-i]?=some v'∧e=aaX sh (ps.getD (k-i) .borrow) k v':=fun h=>by
   obtain⟨h1,v',h2,h3⟩:=acj sh r (ps.drop 1) (i+1) k e h;refine⟨by omega,v',?_,?_⟩
   ·rw[show k-i=(k-(i+1))+1 by omega];simpa using h2
   ·rw[show k-i=(k-(i+1))+1 by omega,←nW];exact h3
  rw[(Hl sh ps i v r).1] at h
  cases v with
  |tu _=>exact tail h
  |_=>
   simp only[an] at h
   cases hb:Nat.beq i k with
   |true=>
    rw[hb] at h;have:=jw hb;subst this
    cases h
    exact⟨cL _,_,by rw[oI];rfl,by rw[oI]⟩
   |false=>rw[hb] at h;exact tail h
theorem NF (sh:Bool): ∀(caps:List (List TC)) (i b:Nat) (cs:List CE),an b (LI sh i caps)=some cs→ ∃r c,caps[r]?=some c∧b=i+r∧cs=(eD sh .borrow 0 0 c).1
 |[],_,_,_,h=>by simp[LI,an] at h
 |c::r,i,b,cs,h=>by
  simp only[LI,an] at h
  cases hb:Nat.beq i b with
  |true=>
   rw[hb] at h;have:=jw hb
   cases h
   exact⟨0,c,rfl,by omega,rfl⟩
  |false=>
   rw[hb] at h;obtain⟨q,c',h1,h2,h3⟩:=NF sh r (i+1) b cs h;exact⟨q+1,c',by simpa using h1,by omega,h3⟩
theorem ack (sh:Bool): ∀(vs:List TV) (ps:List bY) (i b:Nat) (cs:List CE),an b (init sh ps i vs).bx=some cs→ ∃k v,i≤k∧vs[k-i]?=some v∧
 ((∃ts,v= .bx ts∧b=Bs (ps.getD (k-i) .borrow) k∧cs=(eD sh (ps.getD (k-i) .borrow) (500+16*k) 0 ts).1)∨
   ∃f caps r c,v= .fn f caps∧caps[r]?=some c∧b=200000+1000*k+1+r∧cs=(eD sh .borrow 0 0 c).1)
 |[],_,_,_,_,h=>by simp[init,an] at h
 |v::r,ps,i,b,cs,h=>by
  have tail:an b (init sh (ps.drop 1) (i+1) r).bx=some cs→ ∃k v',i≤k∧(v::r)[k-i]?=some v'∧
   ((∃ts,v'= .bx ts∧b=Bs (ps.getD (k-i) .borrow) k∧cs=(eD sh (ps.getD (k-i) .borrow) (500+16*k) 0 ts).1)∨
     ∃f caps r c,v'= .fn f caps∧caps[r]?=some c∧b=200000+1000*k+1+r∧cs=(eD sh .borrow 0 0 c).1):=fun h=>by
   obtain⟨k,v',h1,h2,h3⟩:=ack sh r (ps.drop 1) (i+1) b cs h;rw[nW,show k-(i+1)+1=k-i by omega] at h3;exact⟨k,v',by omega,by rw[show k-i=(k-(i+1))+1 by omega];simpa using h2,h3⟩
  rw[(Hl sh ps i v r).2.1] at h
  cases v with
  |bx ts=>
   simp only[an] at h
   cases hb:Nat.beq (Bs (ps.getD 0 .borrow) i) b with
   |true=>
    rw[hb] at h;have:=jw hb
    cases h
    exact⟨i,_,cL _,by rw[oI];rfl,.inl ⟨ts,rfl,by rw[oI];exact this.symm,by rw[oI]⟩⟩
   |false=>rw[hb] at h;exact tail h
  |fn f caps=>
   simp only[xC] at h
   split at h
   ·rename_i e he
    cases h
    obtain⟨q,c,h1,h2,h3⟩:=NF sh _ _ _ _ he;exact⟨i,_,cL _,by rw[oI];rfl,.inr ⟨f,caps,q,c,rfl,h1,h2,h3⟩⟩
   ·exact tail h
  |_=>exact tail h
theorem acm (sh:Bool): ∀(vs:List TV) (ps:List bY) (i o:Nat) (b:OB),an o (init sh ps i vs).ob=some b→ ∃k v j z rows,i≤k∧vs[k-i]?=some v∧(gx v)[j]?=some (.sub z rows)∧(ps.getD (k-i) .borrow).mc j≠ .snap∧
 o=500+16*k+j∧b=⟨dpM ((ps.getD (k-i) .borrow).mc j),z,rows⟩
 |[],_,_,_,_,h=>by simp[init,an] at h
 |v::r,ps,i,o,b,h=>by
  rw[(Hl sh ps i v r).2.2,xC] at h
  split at h
  ·rename_i e he
   cases h
   obtain⟨j,z,rows,h1,h2,hp,h3⟩:=(CJ sh _ _ _ _).1 o _ he;exact⟨i,v,j,z,rows,cL _,by rw[oI];rfl,h2,by rw[oI];rwa [lG] at hp,by omega,by rw[oI];rwa [lG] at h3⟩
  ·obtain⟨k,v',j,z,rows,h1,h2,h3,h4,h5⟩:=acm sh r (ps.drop 1) (i+1) o b h
   rw[nW,show k-(i+1)+1=k-i by omega] at h4 h5;exact⟨k,v',j,z,rows,by omega,by rw[show k-i=(k-(i+1))+1 by omega];simpa using h2,h3,h4,h5⟩
theorem vj: ∀{vs:List TV} {i:Nat} {v:TV},rI vs=true→vs[i]?=some v→zO v=true
 |[],i,v,_,h=>by simp at h
 |x::r,i,v,hs,h=>by
  simp only[rI] at hs
  cases hx:zO x with
  |false=>rw[hx] at hs;cases hs
  |true=>
   rw[hx] at hs
   cases i with
   |zero=>simp only[fu,bq] at h;rw[←h];exact hx
   |succ i=>exact vj hs (by simpa using h)
theorem zT {v:TV} (h:zO v=true):(gx v).length≤16:=by
 cases v with
 |c c=>simp[gx]
 |ag cs=>exact tX h
 |bx cs=>exact tX h
 |_=>simp[gx]
theorem VB (sh:Bool): ∀(vs:List TV) (ps:List bY) (i k j z:Nat) (rows:List (List TC)) (v:TV),rI vs=true→i≤k→vs[k-i]?=some v→(gx v)[j]?=some (.sub z rows)→(ps.getD (k-i) .borrow).mc j≠ .snap→
 an (500+16*k+j) (init sh ps i vs).ob=some ⟨dpM ((ps.getD (k-i) .borrow).mc j),z,rows⟩
 |[],_,_,_,_,_,_,_,_,_,h,_,_=>by simp at h
 |x::r,ps,i,k,j,z,rows,v,hs,hk,h,hj,hp=>by
  have hv:=zT (vj hs h);have hx:=zT (vj hs (i:=0) (v:=x) rfl);have hjl:j<(gx v).length:=(List.getElem?_eq_some_iff.1 hj).1
  have hs':rI r=true:=by
   simp only[rI] at hs
   cases hx:zO x with
   |false=>rw[hx] at hs;cases hs
   |true=>rw[hx] at hs;exact hs
  rw[(Hl sh ps i x r).2.2,xC]
  by_cases hki:k=i
  ·subst hki
   simp only[oI,fu,bq] at h hp;subst h;have:=(CJ sh (ps.getD 0 .borrow) (500+16*k) (gx x) 0).2 j z rows hj (by rw[lG];exact hp);simp only[tW,lG] at this;rw[this,oI]
  ·have hnone:an (500+16*k+j) (eD sh (ps.getD 0 .borrow) (500+16*i) 0 (gx x)).2=none:=by
    cases hc:an (500+16*k+j) (eD sh (ps.getD 0 .borrow) (500+16*i) 0 (gx x)).2 with
    |none=>rfl
    |some b=>
     obtain⟨j',z',bE,h1,h2,_⟩:=(CJ sh _ _ _ _).1 _ _ hc;have:j'<(gx x).length:=(List.getElem?_eq_some_iff.1 h2).1;omega
   rw[hnone];have hL:=VB sh r (ps.drop 1) (i+1) k j z rows v hs' au ?_ hj ?_
   ·rw[nW,show k-(i+1)+1=k-i by omega] at hL;exact hL
   ·rw[show k-i=(k-(i+1))+1 by omega] at h;simpa using h
   ·rw[nW,show k-(i+1)+1=k-i by omega];exact hp
theorem LP {vs:List TV} (h:yj vs=true):vs.length≤50∧rI vs=true:=by
 unfold yj at h
 split at h
 ·rename_i e;exact⟨tX e,h⟩
 ·cases h
def Q5:Value→Addr
 | .pointer (some ad)=>ad
 |_=>⟨0,0,none⟩
def cellOf (w:World) (v:TV) (x:Value) (j:Nat):Value:=match v with
 | .c _=>x
 | .ag _=>match x with| .agg xs=>xs.getD j undef|_=>undef
 | .bx _=>(w.cell? ((Q5 x).add j)).getD undef
 |_=>undef
def acn (x:Value) (r:Nat):Addr:=match x with
 | .func _ _ caps=>Q5 (caps.getD r undef)
 |_=>⟨0,0,none⟩
def qo (w:World) (sh:Bool) (vs:List TV) (args:List Value) (Rg BB:Nat→Prop) (X:Nat→Nat→Nat→Prop):Fp where
 I k:=sh=true∧Rg k
 S o k:=if o=0 then Rg k∨BB k else 500≤o∧X ((o-500)/16) ((o-500) % 16) k
 V o:=cellOf w (vs.getD ((o-500)/16) (.tu [])) (args.getD ((o-500)/16) undef) ((o-500) % 16)
 β b:=if b<200000 then Q5 (args.getD ((b-100000)/1000) undef) else if(b-200000) % 1000=0 then Q5 (args.getD ((b-200000)/1000) undef) else
   acn (args.getD ((b-200000)/1000) undef) ((b-200000) % 1000-1)
theorem av.Ic {w:World} {Rd Rd' S:Nat→Prop} {m:Mode} {c:TC} {v:Value} (h:av w Rd m S c v):m= .deep→av w Rd' .deep S c v:=by
 induction h with
 |any _ _ _ h=>exact fun _=> .any _ _ _ h
 |sc _ _ _ h=>exact fun _=> .sc _ _ _ h
 |sub m S z rows A c u T h hn ih=>
  intro hm;subst hm;exact .sub _ _ _ _ _ _ u T {h with read:=fun hm=>by cases hm} fun i f tc ht=>ih i f tc ht rfl
theorem Addr.add_zero' (a:Addr):a.add 0=a:=by
 have:=Addr.add_add a 0 0;unfold Addr.add
 split<;>simp_all
section
variable {w : World} {sh : Bool} {ps : List bY} {vs : List TV} {args : List Value} {Rg BB : Nat → Prop} {X : Nat → Nat → Nat → Prop} {Y : Nat → Nat → Prop}
theorem ae2 {o k:Nat} (h:o≠0):(qo w sh vs args Rg BB X).S o k↔500≤o∧X ((o-500)/16) ((o-500) % 16) k:=by
 show(if o=0 then _ else _)↔_;rw[aJ h]
theorem vk {i j k:Nat} (hj:j<16):(qo w sh vs args Rg BB X).S (500+16*i+j) k↔X i j k:=by
 rw[ae2 au,show(500+16*i+j-500)/16=i by omega,show(500+16*i+j-500) % 16=j by omega];exact⟨fun h=>h.2,fun h=>⟨by omega,h⟩⟩
theorem YK {i j:Nat} (hj:j<16):(qo w sh vs args Rg BB X).V (500+16*i+j)=cellOf w (vs.getD i (.tu [])) (args.getD i undef) j:=by
 show cellOf w (vs.getD ((500+16*i+j-500)/16) (.tu [])) (args.getD ((500+16*i+j-500)/16) undef) ((500+16*i+j-500) % 16)=_;rw[show(500+16*i+j-500)/16=i by omega,show(500+16*i+j-500) % 16=j by omega]
theorem aaY {i:Nat} (hi:i<100):(qo w sh vs args Rg BB X).β (100000+1000*i)=Q5 (args.getD i undef):=by
 show(if _ then _ else _)=_;rw[aR au,show(100000+1000*i-100000)/1000=i by omega]
theorem aaZ {i:Nat}:(qo w sh vs args Rg BB X).β (200000+1000*i)=Q5 (args.getD i undef):=by
 show(if _ then _ else _)=_;rw[aJ au,aR au,show(200000+1000*i-200000)/1000=i by omega]
theorem Q6 {i r:Nat} (hr:r<900):(qo w sh vs args Rg BB X).β (200000+1000*i+1+r)=acn (args.getD i undef) r:=by
 show(if _ then _ else _)=_;rw[aJ au,aJ au,show(200000+1000*i+1+r-200000)/1000=i by omega,show(200000+1000*i+1+r-200000) % 1000-1=r by omega]
theorem Kd {p:bY} {i:Nat} (hi:i<100):(qo w sh vs args Rg BB X).β (Bs p i)=Q5 (args.getD i undef):=by
 cases p with
 |borrow=>exact aaZ
 |_=>exact aaY hi
theorem aco {p:bY} {i:Nat} (hi:i<50):Bl (Bs p i)=true↔p≠ .borrow:=by
 cases p with
 |borrow=>
  simp only[Bs,Bl,ne_eq,not_true_eq_false,iff_false];rw[show Nat.ble 200000 (200000+1000*i)=true from QE au];simp only[Nat.ble_eq];omega
 |_=>
  simp only[Bs,Bl,ne_eq,reduceCtorEq,not_false_eq_true,iff_true];rw[show Nat.ble 200000 (100000+1000*i)=false by rw[←Bool.not_eq_true,Nat.ble_eq];omega]
theorem ahw {i r:Nat} (hi:i<50) (hr:r<900):Bl (200000+1000*i+1+r)=false:=by
 unfold Bl;rw[show Nat.ble 200000 (200000+1000*i+1+r)=true from QE au];simp only;rw[←Bool.not_eq_true,Nat.ble_eq];omega
theorem aa0 (hsm:yj vs=true) {i j:Nat} {v:TV} (hv:vs[i]?=some v) {c:TC} (hj:(gx v)[j]?=some c) {p:bY} (hp:ps.getD i .borrow=p) {u:Value} (hc:av w Rg (p.mc j) (X i j) c u)
 (hu:cellOf w (vs.getD i (.tu [])) (args.getD i undef) j=u):ek (init sh ps 0 vs).ob w (qo w sh vs args Rg BB X) (adf sh (p.mc j) (500+16*i+j) c) u:=by
 have hjl:j<16:=kE (List.getElem?_eq_some_iff.1 hj).1 (zT (vj (LP hsm).2 hv))
 cases c with
 |any=>trivial
 |sc x=>cases hc with|sc _ _ _ h=>exact⟨rfl,h⟩
 |sub z rows=>
  by_cases hb:p.mc j= .snap
  ·rw[hb] at hc ⊢
   refine⟨fun d hd=> ?_,?_,fun o i f e=>by cases e⟩
   ·cases sh with
    |true=>cases hd
    |false=>exact .inl (by simpa using hd)
   ·refine(show av w Rg .snap (X i j) (.sub z rows) u from hc).rm fun k hk=> ?_
    cases sh with
    |true=>exact .inl ⟨rfl,hk⟩
    |false=>exact .inr ⟨0,by simp,.inl hk⟩
  ·have hh:adf sh (p.mc j) (500+16*i+j) (.sub z rows)= .ref (500+16*i+j) none:=by unfold adf;cases hm:p.mc j<;>first|rfl|exact absurd hm hb
   rw[hh];refine⟨_,VB sh vs ps 0 i j z rows v (LP hsm).2 (cW _) (by simpa using hv) hj (by rw[Nat.sub_zero,hp];exact hb),?_⟩;show u=_;rw[YK hjl,hu]
theorem ae3 (g:Sig) (h:WO w g.ps vs args Rg BB X Y) {tm:Array Value} (htm: ∀(i:Nat) (x:Value),args[i]?=some x→tm.getD i undef=x):
 bw (v8 X Y) (Ib true Rg BB) w (qo w true vs args Rg BB X) (FQ g vs) tm w:=by
 obtain⟨ann,hsm⟩:=LP h.small;have lt50: ∀{i:Nat} {v:TV},vs[i]?=some v→i<50:=fun hi=>kE (List.getElem?_eq_some_iff.1 hi).1 ann
 have w6: ∀{i:Nat} {x:Value},args[i]?=some x→args.getD i undef=x:=fun hi=>by simp[List.getD,hi]
 have Yh: ∀{i:Nat} {v:TV},vs[i]?=some v→vs.getD i (.tu [])=v:=fun hi=>by simp[List.getD,hi]
 have o16: ∀{i j:Nat} {v:TV} {c:TC},vs[i]?=some v→(gx v)[j]?=some c→j<16:=fun hi hj=>
  kE (List.getElem?_eq_some_iff.1 hj).1 (zT (vj hsm hi))
 have cells: ∀{i j:Nat} {v:TV} {c:TC},vs[i]?=some v→(gx v)[j]?=some c→ ∃u,av w Rg ((g.ps.getD i .borrow).mc j) (X i j) c u∧cellOf w (vs.getD i (.tu [])) (args.getD i undef) j=u:=fun {i j v c} hi hj=>by
  obtain⟨x,hx,hin⟩:=h.each i v hi;rw[w6 hx,Yh hi]
  cases v with
  |c c0=>
   cases j with
   |zero=>simp only[gx,fu,bq] at hj;subst hj;exact⟨x,hin,rfl⟩
   |succ j=>simp[gx] at hj
  |ag cs=>
   obtain⟨xs,rfl,h2,h3⟩:=hin;obtain⟨u,h4,h5⟩:=h3 j c hj;exact⟨u,h5,by simp[cellOf,w7,h4]⟩
  |bx cs=>
   obtain⟨ad,rfl,_,_,_,h3⟩:=hin;obtain⟨u,h4,h5⟩:=h3 j c hj;exact⟨u,h5,by simp[cellOf,Q5,h4]⟩
  |_=>simp[gx] at hj
 have comp: ∀{i:Nat} {v:TV},vs[i]?=some v→ ∀(j:Nat) (e:CE),(eD true (g.ps.getD i .borrow) (500+16*i) 0 (gx v)).1[j]?=some e→ ∃u,cellOf w (vs.getD i (.tu [])) (args.getD i undef) j=u∧u.cells= #[u]∧
  ek (FQ g vs).ob w (qo w true vs args Rg BB X) e u:=fun {i v} hi j e he=>by
  obtain⟨c,hc,rfl⟩:=(oJ _ _ _ _ _).2 j e he;obtain⟨u,h1,h2⟩:=cells hi hc;rw[lG];exact⟨u,h2,h1.cells,aa0 h.small hi hc rfl h1 h2⟩
 have own: ∀{o:Nat} {b:OB},an o (FQ g vs).ob=some b→ ∃i j v z rows,vs[i]?=some v∧(gx v)[j]?=some (.sub z rows)∧(g.ps.getD i .borrow).mc j≠ .snap∧o=500+16*i+j∧b=⟨dpM ((g.ps.getD i .borrow).mc j),z,rows⟩:=fun {o b} ho=>by
  obtain⟨i,v,j,z,rows,_,h1,h2,h3,h4,h5⟩:=acm _ _ _ _ _ _ ho;exact⟨i,j,v,z,rows,by simpa using h1,h2,by simpa using h3,h4,by simpa using h5⟩
 have bxs: ∀{b:Nat} {cs:List CE},an b (FQ g vs).bx=some cs→ ∃i v ad,vs[i]?=some v∧(qo w true vs args Rg BB X).β b=ad∧ad.block<w.heap.size∧
  ((Bl b=false∧BB ad.block)∨(g.ps.getD i .borrow≠ .borrow∧b=Bs (g.ps.getD i .borrow) i∧ad.spot=none∧Y i ad.block∧ ∀j,j<cs.length→w.frozen? (ad.add j)=false))∧
  ∀(j:Nat) (e:CE),cs[j]?=some e→ ∃u,w.cell? (ad.add j)=some u∧u.cells= #[u]∧ek (FQ g vs).ob w (qo w true vs args Rg BB X) e u:=fun {b cs} hb=>by
  obtain⟨i,v,_,hi,hc⟩:=ack _ _ _ _ _ _ hb;simp only[Nat.sub_zero] at hi hc;obtain⟨x,hx,hin⟩:=h.each i v hi;rcases hc with⟨ts,rfl,hbn,rfl⟩|⟨f,caps,r,c,rfl,hr,rfl,rfl⟩
  ·obtain⟨ad,rfl,h1,h2,h3,h4⟩:=hin
   have hβ:(qo w true vs args Rg BB X).β b=ad:=by rw[hbn,Kd (by have:=lt50 hi;omega),w6 hx];rfl
   refine⟨i,_,ad,hi,hβ,h1,?_,fun j e he=> ?_⟩
   ·by_cases hp:g.ps.getD i .borrow= .borrow
    ·refine .inl ⟨?_,h2 hp⟩
     rw[hbn,←Bool.not_eq_true,aco (lt50 hi)];exact fun hn=>hn hp
    ·obtain⟨a1,a2,a3⟩:=h3 hp
     exact .inr ⟨hp,hbn,a1,a2,fun j hj=>a3 j (by rw[(oJ _ _ _ _ _).1] at hj;exact hj)⟩
   ·obtain⟨u,k1,k2,k3⟩:=comp hi j e he
    obtain⟨c,hc,_⟩:=(oJ _ _ _ _ _).2 j e he;obtain⟨u',k4,_⟩:=h4 j c hc;rw[w6 hx,Yh hi] at k1;simp only[cellOf,Q5,k4,Option.getD_some] at k1;subst k1;exact⟨_,k4,k2,k3⟩
  ·obtain⟨hp,ads,a1,rfl,a3⟩:=hin
   obtain⟨ad,k1,k2,k3,k4⟩:=a3 r c hr;have hr9:r<900:=kE (List.getElem?_eq_some_iff.1 hr).1 (tX (vj hsm hi))
   have hβ:(qo w true vs args Rg BB X).β (200000+1000*i+1+r)=ad:=by
    rw[Q6 hr9,w6 hx];simp[acn,w7,k1,Q5]
   refine⟨i,_,ad,hi,hβ,k2,.inl ⟨ahw (lt50 hi) hr9,k3⟩,fun j e he=> ?_⟩;obtain⟨c',zx,rfl⟩:=(oJ _ _ _ _ _).2 j e he;obtain⟨u,m1,m2⟩:=k4 j c' zx;refine⟨u,m1,m2.cells,?_⟩
   cases c' with
   |any=>trivial
   |sc x=>cases m2 with|sc _ _ _ h=>exact⟨rfl,h⟩
   |sub z rows=>
    refine⟨fun d hd=> ?_,?_,fun o i f e=>by cases e⟩
    ·cases hd
    ·exact m2.rm fun k hk=> .inl ⟨rfl,hk⟩
 have hF: ∀{i j k:Nat},X i j k→v8 X Y k:=fun hk=> .inl ⟨_,_,hk⟩
 constructor
 ·
  intro i;unfold TS.get
  cases ht:an i (FQ g vs).tm with
  |none=>trivial
  |some e=>
   obtain⟨_,v,hi,rfl⟩:=acj _ _ _ _ _ _ ht;simp only[Nat.sub_zero] at hi ⊢;obtain⟨x,hx,hin⟩:=h.each i v hi;rw[htm i x hx]
   cases v with
   |c c=>
    have hlen:=(oJ true (g.ps.getD i .borrow) (500+16*i) [c] 0).1
    match hl:(eD true (g.ps.getD i .borrow) (500+16*i) 0 [c]).1 with
    |[]=>rw[hl] at hlen;cases hlen
    |[e]=>
     obtain⟨u,k1,k2,k3⟩:=comp hi 0 e (by simp only[gx];rw[hl];rfl);rw[w6 hx,Yh hi] at k1;simp only[cellOf] at k1;subst k1;refine⟨_,rfl,e,?_,k2,k3⟩;exact hl
    |_::_::_=>rw[hl] at hlen;simp at hlen
   |ag cs=>
    obtain⟨xs,rfl,h2,h3⟩:=hin;refine⟨_,rfl,xs,rfl,by rw[(oJ _ _ _ _ _).1];exact h2,fun j e he=> ?_⟩;obtain⟨u,k1,k2,k3⟩:=comp hi j e he;obtain⟨c,hc,_⟩:=(oJ _ _ _ _ _).2 j e he;obtain⟨u',k4,_⟩:=h3 j c hc;rw[w6 hx,Yh hi] at k1;simp only[cellOf,w7,k4,Option.getD_some] at k1;subst k1;exact⟨_,k4,k2,k3⟩
   |bx cs=>
    obtain⟨ad,rfl,_⟩:=hin;show _=Value.pointer (some (((qo w true vs args Rg BB X).β (Bs (g.ps.getD i .borrow) i)).add 0));rw[Kd (by have:=lt50 hi;omega),w6 hx,Addr.add_zero']
    rfl
   |fn f caps=>
    obtain⟨hp,ads,a1,rfl,a3⟩:=hin;have hc9:caps.length≤900:=tX (vj hsm hi)
    have alF:(ads.map fun a=>Value.pointer (some a))=(List.range' (200000+1000*i+1) caps.length).map fun b=>Value.pointer (some ((qo w true vs args Rg BB X).β b)):=by
     apply List.ext_getElem
     ·simp[a1]
     ·intro r h1 h2
      simp only[List.getElem_map,List.getElem_range',Nat.one_mul]
      have hr:r<ads.length:=by simpa using h1
      rw[Q6 au,w6 hx];simp[acn,w7,bC hr,Q5]
    exact congrArg (fun l:List Value=>Value.func (.func f) #[] l.toArray) alF
   |tu _=>exact hin.elim
 ·
  intro b cs hb j e he;obtain⟨i,v,ad,hi,hβ,_,_,hc⟩:=bxs hb;rw[hβ];exact hc j e he
 ·
  intro o b ho;obtain⟨i,j,v,z,rows,hi,hj,hp,rfl,rfl⟩:=own ho;obtain⟨u,h1,h2⟩:=cells hi hj;unfold o7;rw[YK (o16 hi hj),h2];rw[OB.amQ hp];show av w _ ((g.ps.getD i .borrow).mc j) _ _ _;exact(h1.move (fun k hk=>⟨⟨rfl,hk⟩,rfl⟩) (fun _ _ _=>rfl)).mono fun k hk=>(vk (o16 hi hj)).2 hk
 ·refine {arg:= ?_,nz:= ?_,apart:= ?_,read:= ?_,fresh:= ?_,ro:= ?_,oY:= ?_,box:= ?_,spot:= ?_,soft:= ?_}
  ·funext k;simp[qo,Ib]
  ·rintro o ⟨b,ho⟩;obtain⟨i,j,v,z,rows,hi,hj,hp,rfl,rfl⟩:=own ho;omega
  ·rintro o o' k ⟨b,ho⟩ ⟨b',ho'⟩ hk hk'
   obtain⟨i,j,v,z,rows,hi,hj,hp,rfl,rfl⟩:=own ho;obtain⟨i',j',v',z',bE,hi',hj',X6,rfl,rfl⟩:=own ho';rw[vk (o16 hi hj)] at hk;rw[vk (o16 hi' hj')] at hk';obtain⟨rfl,rfl⟩:=(h.own i j k hk).2.2.2.2 i' j' hk'
   rfl
  ·rintro o k ⟨b,ho⟩ hk hI
   obtain⟨i,j,v,z,rows,hi,hj,hp,rfl,rfl⟩:=own ho;rw[vk (o16 hi hj)] at hk;exact(h.own i j k hk).2.1 hI.2
  ·rintro o k ⟨b,ho⟩ hk
   obtain⟨i,j,v,z,rows,hi,hj,hp,rfl,rfl⟩:=own ho;rw[vk (o16 hi hj)] at hk;exact⟨(h.own i j k hk).1,.inr (hF hk)⟩
  ·exact fun k hk=>⟨h.rd k hk.2,.inr (.inr hk)⟩
  ·rintro k (hk|hk)
   ·refine⟨h.rd k hk,?_⟩
    rintro(⟨i,j,hx⟩|⟨i,hy⟩)
    ·exact(h.own i j k hx).2.1 hk
    ·exact(h.box i k hy).2.1 hk
   ·refine⟨h.bb k hk,?_⟩
    rintro(⟨i,j,hx⟩|⟨i,hy⟩)
    ·exact(h.own i j k hx).2.2.1 hk
    ·exact(h.box i k hy).2.2.1 hk
  ·intro b cs hb hw
   obtain⟨i,v,ad,hi,hβ,hlt,AV,_⟩:=bxs hb;rw[hβ];rcases AV with⟨hwf,_⟩|⟨hp,hbn,hs,hy,_⟩
   ·rw[hw] at hwf;cases hwf
   ·obtain⟨y1,y2,y3,y4⟩:=h.box i _ hy
    refine⟨fun hI=>y2 hI.2,?_,.inr (.inr ⟨i,hy⟩),fun b' cs' hb' hne=> ?_⟩
    ·rintro o ⟨b0,ho⟩ hk
     obtain⟨i',j,v',z,rows,hi',hj,X6,rfl,rfl⟩:=own ho;rw[vk (o16 hi' hj)] at hk;exact(h.own i' j _ hk).2.2.2.1 i hy
    ·obtain⟨i',v',ad',hi',hβ',_,akm,_⟩:=bxs hb'
     rw[hβ'];intro e;rcases akm with⟨_,TF⟩|⟨X6,ano,_,hy',_⟩
     ·rw[e] at TF;exact y3 TF
     ·rw[e] at hy'
      have:=y4 i' hy';subst this;exact hne (by rw[hbn,ano])
  ·intro b cs hb
   obtain⟨i,v,ad,hi,hβ,hlt,AV,_⟩:=bxs hb;rw[hβ];refine⟨fun hw=> ?_,hlt,fun hw=> ?_⟩
   ·rcases AV with⟨hwf,_⟩|⟨_,_,hs,_⟩
    ·rw[hw] at hwf;cases hwf
    ·exact hs
   ·rcases AV with⟨_,TF⟩|⟨hp,hbn,_⟩
    ·exact .inr TF
    ·rw[hbn,(aco (lt50 hi)).2 hp] at hw;cases hw
  ·intro b cs j hb hw hj
   obtain⟨i,v,ad,hi,hβ,hlt,AV,_⟩:=bxs hb;rw[hβ];rcases AV with⟨hwf,_⟩|⟨_,_,_,_,hs⟩
   ·rw[hw] at hwf;cases hwf
   ·exact hs j hj
 ·exact⟨rfl,rfl,rfl,cL _,fun _ _ _=>rfl⟩
end
end Go.T
namespace Go.T
abbrev It:=Mode×TC×Value
def acp (v:Value) (k:Nat):Prop:= ∃ad n c,v= .slice (some ad) n c∧k=ad.block
def Q7 (m:Mode) (v:Value) (S:Nat→Prop) (k:Nat):Prop:=match m with
 | .snap=>False
 | .top=>S k∧acp v k
 | .deep=>S k
structure aa1 (F Ash:Nat→Prop) (w0 w:World) (I:Nat→Prop) (dV:List It) (X:Nat→Nat→Prop):Prop where
 ok: ∀(i:Nat) (it:It),dV[i]?=some it→av w I it.1 (X i) it.2.1 it.2.2
 rng: ∀(i:Nat) (k:Nat),i<dV.length→X i k→k<w.heap.size∧(w0.heap.size≤k∨F k)∧ ¬I k
 apart: ∀(i j k:Nat),i<dV.length→j<dV.length→X i k→X j k→i=j
 ro: ∀k,I k→k<w.heap.size∧(w0.heap.size≤k∨F k∨Ash k)
def ez:List Mode→List TC→List Value→List It
 |ms,c::cs,v::vs=>(ms.headD .snap,c,v)::ez (ms.drop 1) cs vs
 |_,_,_=>[]
def YL (a:Nat) (cs:List TC) (u:Value):Prop:=a≤1∧u.cells.size=cs.length∧(a=1→ ∃xs,u= .agg xs)∧(a≠1→u.cells= #[u])
def WQ:It:=(.deep,.sc (.bool true),.bool true)
def VC (w:World) (X:Nat→Nat→Prop) (n:Nat) (m:List Mode) (cs:List TC) (u:Value) (dV:List It):Prop:=
 ∃ad us,u= .pointer (some ad)∧ad.spot=none∧us.length=cs.length∧(∀(j:Nat) (y:Value),us[j]?=some y→w.cell? (ad.add j)=some y∧y.cells= #[y]∧w.frozen? (ad.add j)=false)∧X n ad.block∧dV=WQ::ez m cs us
def ajK (w:World) (X:Nat→Nat→Prop) (n:Nat) (m:List Mode) (a:Nat) (cs:List TC) (u:Value) (dV:List It):Prop:=
 (a≠2∧YL a cs u∧dV=ez m cs u.cells.toList)∨(a=2∧VC w X n m cs u dV)
def oM (w:World) (X:Nat→Nat→Prop):Nat→List (List Mode)→List (Nat×List TC)→List Value→List It→Prop
 |n,ms,(a,cs)::r,u::us,dV=> ∃a0 b,dV=a0++b∧ajK w X n (ms.headD []) a cs u a0∧oM w X (n+a0.length) (ms.drop 1) r us b
 |_,_,[],[],dV=>dV=[]
 |_,_,_,_,_=>False
def VD (w:World) (X:Nat→Nat→Prop) (ms:List (List Mode)) (r:TV) (v:Value) (dV:List It):Prop:=match r with
 | .c c=>YL 0 [c] v∧dV=ez (ms.headD []) [c] v.cells.toList
 | .ag cs=>YL 1 cs v∧dV=ez (ms.headD []) cs v.cells.toList
 | .tu vs=> ∃us:Array Value,v= .tuple us∧oM w X 0 ms vs us.toList dV
 | .bx cs=>VC w X 0 (ms.headD []) cs v dV
 |_=>False
theorem VC.mono {w:World} {X X':Nat→Nat→Prop} {n:Nat} {m:List Mode} {cs:List TC} {u:Value} {dV:List It} (hX: ∀n k,X n k→X' n k) (h:VC w X n m cs u dV):VC w X' n m cs u dV:=by
 obtain⟨ad,us,h1,h2,h3,h4,h5,h6⟩:=h;exact⟨ad,us,h1,h2,h3,h4,hX _ _ h5,h6⟩
theorem oM.mono {w:World} {X X':Nat→Nat→Prop} (hX: ∀n k,X n k→X' n k): ∀{vs:List (Nat×List TC)} {n:Nat} {ms:List (List Mode)} {us:List Value} {dV:List It},oM w X n ms vs us dV→oM w X' n ms vs us dV
 |[],n,ms,[],dV,h=>h
 |[],n,ms,_::_,dV,h=>h.elim
 |(_,_)::_,n,ms,[],dV,h=>h.elim
 |(a,cs)::r,n,ms,u::us,dV,h=>by
  obtain⟨a0,b,h1,h2,h3⟩:=h;exact⟨a0,b,h1,h2.imp id fun h=>⟨h.1,h.2.mono hX⟩,h3.mono hX⟩
def zU (w:World) (NB:Nat→Prop):List bY→List Value→List TV→List It→Prop
 |p::ps,x::xs,fs,dV=>match p with
  | .inout ms=>match fs with
    |f::fs=> ∃a b,dV=a++b∧zU w NB ps xs fs b∧match f with
     | .c c=>ms=[]∧a=[(.deep,c,x)]
     | .ag cs=>ms=[]∧ ∃ys:Array Value,x= .agg ys∧ys.size=cs.length∧a=ez (Yn [] cs) cs ys.toList
     | .bx cs=> ∃ad us,x= .pointer (some ad)∧us.length=cs.length∧NB ad.block∧(∀(j:Nat) (u:Value),us[j]?=some u→w.cell? (ad.add j)=some u∧u.cells= #[u]∧w.frozen? (ad.add j)=false)∧a=ez (Yn ms cs) cs us
     |_=>False
    |[]=>False
  |_=>zU w NB ps xs fs dV
 |[],[],fs,dV=>fs=[]∧dV=[]
 |_,_,_,_=>False
variable {F : Nat → Prop} {A : Arg} {w0 w w' : World} {φ φ' : Fp} {st st' eM qf : TS} {tm IF : Array Value} {C : mG}
variable {R : Type} {cf : Cf} {lp : Lp} {Q : R → Prop}
theorem av.out {Rd Rd' S:Nat→Prop} {m m':Mode} {c:TC} {v:Value} (h:av w Rd m' S c v) (hm:m'≠ .snap) (hd:m= .deep→m'= .deep) (hR: ∀k,Rd k→Rd' k) (hX: ∀k,S k→ ¬Q7 m v S k→Rd' k):
 av w Rd' m (Q7 m v S) c v:=by
 cases m with
 |snap=>exact h.freeze hR fun _ k hk=>hX k hk id
 |deep=>have:=hd rfl;subst this;exact h.Ic rfl
 |top=>
  cases h with
  |any _ _ _ h=>exact .any _ _ _ h
  |sc _ _ _ h=>exact .sc _ _ _ h
  |sub _ _ z rows A c u T k hn=>
   refine .sub _ _ z rows A c u (fun _ _ _=>False) {k with read:=fun hm=>(by cases hm),own:=fun _=>⟨(k.own hm).1,fun ad ha=>⟨⟨((k.own hm).2 ad ha).1,ad,_,_,by rw[ha],rfl⟩,((k.own hm).2 ad ha).2⟩⟩,soft:=fun _=>k.soft hm,qh:=fun hm=>(by cases hm)}
    fun i f tc ht=>(hn i f tc ht).freeze hR fun hn' b hb=> ?_
   have:=xy hn';subst this;obtain⟨d1,d2,d3⟩:=k.qh rfl i f b hb;refine hX b d1 ?_;rintro⟨_,ad,n,c',e,rfl⟩
   cases e
   exact d2 ad rfl rfl
def CK (w:World) (φ:Fp) (st st':TS) (it:It) (o:Nat):Prop:=
 (o=0∧av w φ.I it.1 Lw it.2.1 it.2.2)∨(aT st.ob o∧ ¬aT st'.ob o∧ ∃m',m'≠ .snap∧(it.1= .deep→m'= .deep)∧av w φ.I m' (φ.S o) it.2.1 it.2.2)
structure fD (st' st:TS):Prop where
 ob: ∀o b,an o st'.ob=some b→an o st.ob=some b
 bx: ∀b cs,an b st'.bx=some cs→ ∃cs0,an b st.bx=some cs0∧cs.length=cs0.length
theorem fD.refl (st:TS):fD st st:=⟨fun _ _ h=>h,fun _ cs h=>⟨cs,h,rfl⟩⟩
theorem fD.trans {a b c:TS} (h:fD a b) (k:fD b c):fD a c:=⟨fun o x hx=>k.ob o x (h.ob o x hx),fun o x hx=>by
 obtain⟨x1,h1,h2⟩:=h.bx o x hx;obtain⟨x2,h3,h4⟩:=k.bx o x1 h1
 exact⟨x2,h3,h2.trans h4⟩⟩
theorem fD.dom {a b:TS} (h:fD a b) {o:Nat} (ho:aT a.ob o):aT b.ob o:=let ⟨x,hx⟩:=ho;⟨x,h.ob o x hx⟩
theorem fD.kill (st:TS) (o:Nat):fD (o6 o st) st:=⟨fun d b h=>by
 have hd:=(lP (o:=o) (d:=d) (st:=st)).1 ⟨b,h⟩;rw[Vv hd.1] at h
 exact h,fun b cs h=>iX _ b cs h⟩
structure nh (w:World) (φ:Fp) (st st':TS) (dV:List It) (os:List Nat):Prop where
 len:os.length=dV.length
 at': ∀(i:Nat) (it:It) (o:Nat),dV[i]?=some it→os[i]?=some o→CK w φ st st' it o
 inj: ∀(i j o:Nat),os[i]?=some o→os[j]?=some o→o≠0→i=j
 sub:fD st' st
theorem CK.mono {it:It} {o:Nat} {sa sb sc sd:TS} (h:CK w φ sb sc it o) (h1:fD sb sa) (h2:fD sd sc):CK w φ sa sd it o:=by
 rcases h with h|⟨a,b,c⟩
 ·exact .inl h
 ·exact .inr ⟨h1.dom a,fun hd=>b (h2.dom hd),c⟩
theorem nh.nil (st:TS):nh w φ st st [] []:=⟨rfl,fun i it o h=>by simp at h,fun i j o h=>by simp at h,fD.refl _⟩
theorem nh.app {a b:List It} {oa ob:List Nat} (hz: ∀o,aT st.ob o→o≠0) (h:nh w φ st eM a oa) (k:nh w φ eM qf b ob):nh w φ st qf (a++b) (oa++ob) where
 len:=by simp[h.len,k.len]
 at' i it o hi ho:=by
  by_cases hl:i<a.length
  ·rw[kC hl] at hi
   rw[kC (by rw[h.len];exact hl)] at ho;exact(h.at' i it o hi ho).mono (fD.refl _) k.sub
  ·rw[m7 au] at hi
   rw[m7 (by rw[h.len];omega),h.len] at ho;exact(k.at' _ it o hi ho).mono h.sub (fD.refl _)
 inj i j o hi hj h0:=by
  have cross: ∀i j,oa[i]?=some o→ob[j]?=some o→False:=fun i j hi hj=>by
   obtain⟨it,hit⟩: ∃it,a[i]?=some it:=by
    have:=(List.getElem?_eq_some_iff.1 hi).1;exact⟨_,bC (by rw[←h.len];exact this)⟩
   obtain⟨it',anp⟩: ∃it,b[j]?=some it:=by
    have:=(List.getElem?_eq_some_iff.1 hj).1;exact⟨_,bC (by rw[←k.len];exact this)⟩
   rcases h.at' i it o hit hi with⟨e,_⟩|⟨_,hn,_⟩
   ·exact h0 e
   ·rcases k.at' j it' o anp hj with⟨e,_⟩|⟨hy,_⟩
    ·exact h0 e
    ·exact hn hy
  by_cases hl:i<oa.length
  ·rw[kC hl] at hi
   by_cases hl':j<oa.length
   ·rw[kC hl'] at hj;exact h.inj i j o hi hj h0
   ·rw[m7 au] at hj;exact(cross _ _ hi hj).elim
  ·rw[m7 au] at hi
   by_cases hl':j<oa.length
   ·rw[kC hl'] at hj;exact(cross _ _ hj hi).elim
   ·rw[m7 au] at hj
    have:=k.inj _ _ o hi hj h0;omega
 sub:=k.sub.trans h.sub
theorem nh.one {it:It} {o:Nat} (h:CK w φ st st' it o) (hs:fD st' st):nh w φ st st' [it] [o] where
 len:=rfl
 at' i it' o' hi ho:=by
  cases i with
  |zero=>simp only[fu,bq] at hi ho;subst hi ho;exact h
  |succ i=>simp at hi
 inj i j o' hi hj _:=by
  cases i with
  |zero=>cases j with
   |zero=>rfl
   |succ j=>simp at hj
  |succ i=>simp at hi
 sub:=hs
theorem zV {Rd S:Nat→Prop} {m:Mode} {z:Nat} (hz:0<z):av w Rd m S (.sub z []) (.slice none 0 0):=
 av.sub _ _ z [] none 0 (fun _ _=>default) (fun _ _ _=>False) ⟨cL _,cW _,hz,fun r hr=>(by cases hr),fun hr=>absurd rfl hr,fun _ ha=>(by cases ha),fun _ _ ha=>(by cases ha),
  fun hm=>⟨fun _=>rfl,fun _ ha=>(by cases ha)⟩,fun _ _ _ ha=>(by cases ha),fun hm i f k hk=>hk.elim⟩ fun i f tc ht=>absurd rfl (LM ht)
theorem WR {rC:TS} (h:bw F A w0 φ st tm w) (hs:fD st rC) {e:CE} {v:Value} (he:ek rC.ob w φ e v) {c:TC} {d:Bool} (ha:qk e st=some (c,st',d)):
 bw F A w0 φ st' tm w∧fD st' st∧ ∀m,aaL m e d=true→ ∃o,CK w φ st st' (m,c,v) o:=by
 unfold qk at ha
 split at ha
 ·cases ha
  obtain⟨rfl,hsc⟩:=he;exact⟨h,fD.refl _,fun m _=>⟨0,.inl ⟨rfl,.sc _ _ _ hsc⟩⟩⟩
 ·cases ha
  obtain⟨rfl,hz⟩:=he;exact⟨h,fD.refl _,fun m _=>⟨0,.inl ⟨rfl,zV hz⟩⟩⟩
 ·rename_i o cut
  cases hb:an o st.ob with
  |none=>rw[hb] at ha;cases ha
  |some b=>
   obtain⟨dp,z,rows⟩:=b;rw[hb] at ha
   cases ha
   obtain⟨b0,h1,h2⟩:=he;rw[hs.ob o _ hb] at h1
   cases h1
   refine⟨h.o6 o,fD.kill st o,fun m hm=>⟨o,.inr ⟨⟨_,hb⟩,fun hd=>(lP.1 hd).1 rfl,OB.m ⟨d,z,rows⟩,by unfold OB.m;split<;>simp,fun Wm=> ?_,o7.cut (h.obj o _ hb) h2⟩⟩⟩;have Wm:m= .deep:=Wm;subst Wm;have:d=true:=hm;rw[this];rfl
 ·cases ha
  obtain⟨h1,h2,h3⟩:=he;refine⟨h,fD.refl _,fun m hm=>⟨0,.inl ⟨rfl,?_⟩⟩⟩
  cases m with
  |snap=>exact h2.rm fun k hk=>hk.elim id fun⟨d,hd,_⟩=>by cases hd
  |_=>cases hm
 ·cases ha
theorem adg {ms:List Mode}: ∀{cs:List TC} {vs:List Value} {i:Nat} {it:It},(ez ms cs vs)[i]?=some it→ ∃c v,cs[i]?=some c∧vs[i]?=some v∧it=(ms.getD i .snap,c,v):=by
 intro cs
 induction cs generalizing ms with
 |nil=>intro vs i it h;cases vs<;>simp[ez] at h
 |cons c cs ih=>
  intro vs i it h
  cases vs with
  |nil=>simp[ez] at h
  |cons v vs=>
   cases i with
   |zero=>
    simp only[ez,fu,bq] at h;exact⟨c,v,rfl,rfl,by rw[←h,vi]⟩
   |succ i=>
    simp only[ez,tU] at h;obtain⟨c',v',h1,h2,h3⟩:=ih h;exact⟨c',v',by simpa using h1,by simpa using h2,by rw[h3,nW]⟩
theorem nX {ms:List Mode}: ∀{cs:List TC} {vs:List Value},cs.length=vs.length→(ez ms cs vs).length=cs.length:=by
 intro cs
 induction cs generalizing ms with
 |nil=>intro vs h;cases vs<;>rfl
 |cons c cs ih=>intro vs h;cases vs with
  |nil=>cases h
  |cons v vs=>simp only[ez,gG];rw[ih (ms:=ms.drop 1) (vs:=vs) (by simpa using h)]
theorem FY {rC:TS}: ∀(ms:List Mode) (cs:List CE) (st:TS) (vs:List Value) (ts:List TC) (st':TS),bw F A w0 φ st tm w→fD st rC→vs.length=cs.length→(∀(j:Nat) (e:CE),cs[j]?=some e→ ∃v,vs[j]?=some v∧ek rC.ob w φ e v)→
 FP ms cs st=some (ts,st')→bw F A w0 φ st' tm w∧ts.length=cs.length∧ ∃os,nh w φ st st' (ez ms ts vs) os
 |ms,[],st,vs,ts,st',h,hs,hl,hc,ho=>by
  cases ho
  exact⟨h,rfl,[],by cases vs<;>exact nh.nil _⟩
 |ms,e::r,st,vs,ts,st',h,hs,hl,hc,ho=>by
  simp only[FP] at ho
  split at ho
  ·rename_i c eM d hab
   split at ho
   ·rename_i hm
    split at ho
    ·rename_i cs' qf ho2
     cases ho
     cases vs with
     |nil=>cases hl
     |cons v vs=>
      obtain⟨v',hv',hok⟩:=hc 0 e rfl;simp only[fu,bq] at hv';subst hv';obtain⟨h1,JQ,ht⟩:=WR h hs hok hab;obtain⟨o,ht⟩:=ht _ hm
      obtain⟨h2,Bn,os,hts⟩:=FY (ms.drop 1) r eM vs _ _ h1 (JQ.trans hs) (by simpa using hl) (fun j e he=>by
       obtain⟨v',a1,a2⟩:=hc (j+1) e (by simpa using he)
       exact⟨v',by simpa using a1,a2⟩) ho2
      exact⟨h2,by simp[Bn],o::os,(nh.one ht JQ).app h.sep.nz hts⟩
    ·cases ho
   ·cases ho
  ·cases ho
def mA2 (ms:List Mode) (j:Nat):Mode:=match ms[j]? with|some .snap=> .snap|_=> .deep
theorem ae4 (ms:List Mode):mA2 ms 0=(match ms.headD .deep with| .snap=> .snap|_=> .deep):=by cases ms with
 |nil=>rfl
 |cons m ms=>cases m<;>rfl
theorem ae5 (ms:List Mode) (j:Nat):mA2 ms (j+1)=mA2 (ms.drop 1) j:=by cases ms<;>rfl
theorem YM: ∀{cs:List TC} {ms:List Mode} {n:Nat},n<cs.length→(Yn ms cs).getD n .snap=mA2 ms n
 |[],ms,n,h=>by simp at h
 |c::cs,ms,0,h=>by
  cases ms with
  |nil=>rfl
  |cons m ms=>cases m<;>rfl
 |c::cs,ms,n+1,h=>by
  have ih:=YM (cs:=cs) (ms:=ms.drop 1) (n:=n) (by simpa using h);simp only[Yn,List.getD_cons_succ];rw[ih]
  cases ms with
  |nil=>rfl
  |cons m ms=>rfl
theorem zW {rC:TS}: ∀(ms:List Mode) (cs:List CE) (st:TS) (vs:List Value) (ts:List TC) (st':TS),bw F A w0 φ st tm w→fD st rC→vs.length=cs.length→(∀(j:Nat) (e:CE),cs[j]?=some e→ ∃v,vs[j]?=some v∧ek rC.ob w φ e v)→
 nU ms cs st=some (ts,st')→bw F A w0 φ st' tm w∧ts.length=cs.length∧ ∃os,nh w φ st st' (ez (Yn ms ts) ts vs) os
 |ms,[],st,vs,ts,st',h,hs,hl,hc,ho=>by
  cases ms<;>(cases ho;exact⟨h,rfl,[],by cases vs<;>exact nh.nil _⟩)
 |ms,e::r,st,vs,ts,st',h,hs,hl,hc,ho=>by
  cases vs with
  |nil=>cases hl
  |cons v vs=>
   obtain⟨v',hv',hok⟩:=hc 0 e rfl;simp only[fu,bq] at hv';subst hv'
   have rest: ∀{c:TC} {eM qf:TS} {cs':List TC} {o:Nat},bw F A w0 φ eM tm w→fD eM st→CK w φ st eM ((match ms.headD .deep with| .snap=> .snap|_=> .deep),c,v) o→nU (ms.drop 1) r eM=some (cs',qf)→
    bw F A w0 φ qf tm w∧(c::cs').length=(e::r).length∧ ∃os,nh w φ st qf (ez (Yn ms (c::cs')) (c::cs') (v::vs)) os:=fun {c eM qf cs' o} h1 JQ ht ho2=>by
    obtain⟨h2,Bn,os,hts⟩:=zW (ms.drop 1) r eM vs cs' qf h1 (JQ.trans hs) (by simpa using hl) (fun j e he=>by
     obtain⟨v',a1,a2⟩:=hc (j+1) e (by simpa using he)
     exact⟨v',by simpa using a1,a2⟩) ho2
    exact⟨h2,by simp[Bn],o::os,(nh.one ht JQ).app h.sep.nz hts⟩
   unfold nU at ho
   by_cases hm:ms.headD .deep= .snap
   ·rw[hm] at ho rest
    simp only at ho rest
    split at ho
    ·rename_i c eM d hab
     split at ho
     ·rename_i cs' qf ho2
      cases ho
      obtain⟨h1,JQ,ht⟩:=WR h hs hok hab;obtain⟨o,ht⟩:=ht .snap (by cases e<;>rfl);exact rest h1 JQ ht ho2
     ·cases ho
    ·cases ho
   ·have hd:(match ms.headD .deep with| .snap=>Mode.snap|_=> .deep)= .deep:=by revert hm;cases ms.headD .deep<;>simp
    rw[hd] at rest;generalize ms.headD .deep=m at ho hm
    cases e with
    |sc x=>
     have ho:(match nU (ms.drop 1) r st with|some (cs,st')=>some (TC.sc x::cs,st')|none=>none)=some (ts,st'):=by cases m<;>first|exact ho|exact absurd rfl hm
     split at ho
     ·rename_i cs' qf ho2
      cases ho
      obtain⟨rfl,hsc⟩:=hok;exact rest h (fD.refl _) (.inl ⟨rfl,.sc _ _ _ hsc⟩) ho2
     ·cases ho
    |nil z=>
     have ho:(match nU (ms.drop 1) r st with|some (cs,st')=>some (TC.sub z []::cs,st')|none=>none)=some (ts,st'):=by cases m<;>first|exact ho|exact absurd rfl hm
     split at ho
     ·rename_i cs' qf ho2
      cases ho
      obtain⟨rfl,hz⟩:=hok;exact rest h (fD.refl _) (.inl ⟨rfl,zV hz⟩) ho2
     ·cases ho
    |ref o cut=>
     cases cut with
     |some q=>cases m<;>first|exact absurd rfl hm|cases ho
     |none=>
      have ho:(match an o st.ob with
       |some ⟨true,z,rows⟩=>match nU (ms.drop 1) r (o6 o st) with
        |some (cs,st')=>some (TC.sub z rows::cs,st')
        |none=>none
       |_=>none)=some (ts,st'):=by cases m<;>first|exact ho|exact absurd rfl hm
      split at ho
      ·rename_i z rows hb
       split at ho
       ·rename_i cs' qf ho2
        cases ho
        obtain⟨b0,h1,h2⟩:=hok;rw[hs.ob o _ hb] at h1
        cases h1
        exact rest (h.o6 o) (fD.kill st o) (.inr ⟨⟨_,hb⟩,fun hd=>(lP.1 hd).1 rfl,.deep,by simp,fun _=>rfl,o7.cut (cut:=none) (h.obj o _ hb) h2⟩) ho2
       ·cases ho
      ·cases ho
    |_=>cases m<;>first|exact absurd rfl hm|cases ho
end Go.T
namespace Go.T
variable {F : Nat → Prop} {A : Arg} {w0 w w' : World} {φ φ' : Fp} {st st' eM qf : TS} {tm IF : Array Value} {C : mG}
variable {R : Type} {cf : Cf} {lp : Lp} {Q : R → Prop}
def WS (tm:Array Value):ResultVar→Sem Value
 | .tmp t=>pure (tm.getD t undef)
 | .cell a t=>do loadVar t (←asAddr (tm.getD a undef))
def ahx:List Value→Value
 |[u]=>u
 |us=> .tuple us.toArray
def WT (P:Program) (w:World) (tm:Array Value):List ResultVar→List Value→Prop
 |[],[]=>True
 |r::rs,u::us=>(WS tm r).run P w= .ok u w∧WT P w tm rs us
 |_,_=>False
theorem YO {P:Program} {fn:Func} {tm:Array Value} {us:List Value} (h:WT P w tm fn.results.toList us):(results fn tm).run P w= .ok (ahx us) w:=by
 have hm: ∀(l:List ResultVar) (us:List Value),WT P w tm l us→(l.mapM (WS tm)).run P w= .ok us w:=by
  intro l
  induction l with
  |nil=>intro us h;cases us with|nil=>rfl|cons _ _=>exact h.elim
  |cons r l ih=>
   intro us hr
   cases us with
   |nil=>exact hr.elim
   |cons u us=>
    rw[List.mapM_cons];simp only[Sem.run_bind,Sem.run_pure,Result.andThen,hr.1,ih us hr.2]
 unfold results;rw[Array.mapM_eq_mapM_toList];simp only[map_eq_pure_bind,bind_assoc,pure_bind];rw[Sem.run_bind];refine Eq.trans (congrArg (fun z=>Result.andThen z _) (hm _ us h)) ?_;simp only[Result.andThen,Sem.run_pure]
 match us with
 |[]=>rfl
 |[u]=>rfl
 |u::u'::r=>simp[ahx]
theorem aa2 (hT:ij C) {r:ResultVar} {K:TE→Ev R} (h:bw F A w0 φ st tm w) (hk:(ab8 C st r K).holds cf lp Q): ∃u e,(WS tm r).run C.P w= .ok u w∧dx st.ob w φ e u∧(K e).holds cf lp Q:=by
 cases r with
 |tmp t=>exact⟨_,_,rfl,h.tmp t,hk⟩
 |cell a t=>
  obtain⟨u,e,h1,h2,h3⟩:=YA hT h (h.tmp a) hk;refine⟨u,e,?_,h2,h3⟩;unfold Instr.loadAt at h1;simp only[WS,Sem.run_bind] at h1 ⊢;generalize tm.getD a undef=v at h1 ⊢;unfold Instr.sureAddr at h1;unfold asAddr
  cases v with
  |pointer ad=>cases ad<;>first|exact h1|cases h1
  |_=>cases h1
structure aa3 (φ:Fp) (st st':TS) (n0:Nat) (bl:List (Nat×Nat)):Prop where
 one: ∀n k,(n,k)∈bl→ ∃b cs,an b st.bx=some cs∧Bl b=true∧k=(φ.β b).block∧n0≤n
 inj: ∀n n' k,(n,k)∈bl→(n',k)∈bl→n=n'
 rest: ∀b cs,an b st'.bx=some cs→Bl b=true→ ∀n,(n,(φ.β b).block)∉bl
theorem aa3.nil (φ:Fp) (st st':TS) (n0:Nat):aa3 φ st st' n0 []:=⟨fun _ _ h=>(by cases h),fun _ _ _ h=>(by cases h),fun _ _ _ _ _ h=>by cases h⟩
theorem aa3.before {st eM qf:TS} {n0 n1:Nat} {bl:List (Nat×Nat)} (k:aa3 φ eM qf n1 bl) (hs:fD eM st) (hn:n0≤n1):aa3 φ st qf n0 bl:=
 ⟨fun n x hx=>by obtain⟨b,cs,h1,h2,h3,h4⟩:=k.one n x hx;obtain⟨cs0,g,_⟩:=hs.bx b cs h1;exact⟨b,cs0,g,h2,h3,bQ hn h4⟩,k.inj,k.rest⟩
theorem Ke (hT:ij C): ∀(ms:List (List Mode)) (rs:List ResultVar) (st:TS) (K:List (Nat×List TC)→TS→Ev R) (n0:Nat),bw F A w0 φ st tm w→(QM C ms rs st K).holds cf lp Q→
 ∃us vs st' os dV bl,WT C.P w tm rs us∧bw F A w0 φ st' tm w∧nh w φ st st' dV os∧oM w (fun n k=>(n,k)∈bl) n0 ms vs us dV∧(K vs st').holds cf lp Q∧aa3 φ st st' n0 bl
 |ms,[],st,K,n0,h,hk=>by
  refine⟨[],[],st,[],[],[],trivial,h,nh.nil _,?_,hk,aa3.nil _ _ _ _⟩
  cases ms<;>rfl
 |ms,r::rs,st,K,n0,h,hk=>by
  simp only[QM] at hk;obtain⟨u,e,hrun,ht,hk⟩:=aa2 hT h hk
  split at hk
  ·rename_i a cs
   split at hk
   ·rename_i ts eM ho
    have hcs:=vh (cs:=cs) ht zYr
    have hlen:u.cells.toList.length=cs.length:=by simpa using hcs.1
    obtain⟨h1,Ly,os1,t1⟩:=FY (ms.headD []) cs st _ ts eM h (fD.refl _) hlen (fun j e he=>by
     obtain⟨x,a1,a2,a3⟩:=hcs.2 j e he
     exact⟨x,by simpa using a1,a3⟩) ho
    obtain⟨us,vs,qf,os,dV,bl,hr,h2,t2,c2,k2,b2⟩:=Ke hT (ms.drop 1) rs eM _ (n0+(ez (ms.headD []) ts u.cells.toList).length) h1 hk;refine⟨u::us,(ajB a,ts)::vs,qf,os1++os,_,bl,⟨hrun,hr⟩,h2,t1.app h.sep.nz t2,⟨_,dV,rfl,.inl ⟨by cases a<;>simp[ajB],?_,rfl⟩,c2⟩,k2,b2.before t1.sub au⟩;obtain⟨c,e1,hc⟩:=ht
    cases e1
    cases a with
    |true=>
     obtain⟨xs,hv,hsz,_⟩:=hc;exact⟨cL _,by rw[Ly];exact hcs.1,fun _=>⟨xs,hv⟩,fun hn=>absurd rfl hn⟩
    |false=>
     obtain⟨e,_,hv,_⟩:=hc;exact⟨cW _,by rw[Ly];exact hcs.1,fun hn=>(by cases hn),fun _=>hv⟩
   ·exact hk.elim
  ·rename_i b
   have ht:u= .bool b:=ht
   have hcell:u.cells= #[.bool b]:=by rw[ht];rfl
   obtain⟨us,vs,qf,os,dV,bl,hr,h2,t2,c2,k2,b2⟩:=Ke hT (ms.drop 1) rs st _ (n0+1) h hk;refine⟨u::us,(0,[.sc (.bool b)])::vs,qf,[0]++os,[((ms.headD []).headD .snap,.sc (.bool b),.bool b)]++dV,bl,⟨hrun,hr⟩,h2,(nh.one (.inl ⟨rfl,.sc _ _ _ (show Oc (.bool b) from trivial)⟩) (fD.refl _)).app h.sep.nz t2,⟨_,dV,rfl,.inl ⟨by simp,?_,?_⟩,c2⟩,k2,b2.before (fD.refl _) au⟩
   ·refine⟨cW _,by rw[hcell];rfl,fun hn=>(by cases hn),fun _=> ?_⟩
    rw[hcell,ht]
   ·rw[hcell];rfl
  ·rename_i b
   have ht:u= .pointer (some ((φ.β b).add 0)):=ht;rw[Addr.add_zero'] at ht
   split at hk
   ·rename_i cs hw hb
    split at hk
    ·rename_i ts eM ho
     have agQ:fD ⟨st.tm,rG b st.bx,st.ob⟩ st:=⟨fun o x hx=>hx,fun b' cs' hb'=>by
      have hb':an b' (rG b st.bx)=some cs':=hb';rw[jQ] at hb'
      split at hb'
      ·cases hb'
      ·exact⟨cs',hb',rfl⟩⟩
     have h0:bw F A w0 φ ⟨st.tm,rG b st.bx,st.ob⟩ tm w:=h.less (fun i=> .inr rfl) (fun b' cs' hb'=>by
      have hb':an b' (rG b st.bx)=some cs':=hb';rw[jQ] at hb'
      split at hb'
      ·cases hb'
      ·exact hb') rfl
     obtain⟨us0,Qf,hus⟩:=J9 (Pr:=fun j e v=>w.cell? ((φ.β b).add j)=some v∧v.cells= #[v]∧ek st.ob w φ e v) cs 0 (fun j e he=>by simpa using h.box b cs hb j e he)
     obtain⟨h1,Ly,os1,t1⟩:=FY (rC:=st) (ms.headD []) cs ⟨st.tm,rG b st.bx,st.ob⟩ us0 ts eM h0 agQ Qf (fun j e' he'=>by
      obtain⟨v,a1,_,_,a3⟩:=hus j e' he'
      exact⟨v,a1,a3⟩) ho
     obtain⟨us,vs,qf,os,dV,bl,hr,h2,t2,c2,k2,b2⟩:=Ke hT (ms.drop 1) rs eM _ (n0+(WQ::ez (ms.headD []) ts us0).length) h1 hk
     have ajc: ∀b' cs',an b' eM.bx=some cs'→b'≠b:=fun b' cs' hb' e=>by
      obtain⟨cs0,c0,_⟩:=t1.sub.bx b' cs' hb';have c0:an b' (rG b st.bx)=some cs0:=c0;rw[jQ,aR e] at c0
      cases c0
     have alG: ∀n,(n,(φ.β b).block)∉bl:=fun n hm=>by
      obtain⟨b',cs',g1,g2,g3,_⟩:=b2.one n _ hm;obtain⟨cs0,c0,_⟩:=(t1.sub.trans agQ).bx b' cs' g1;exact(h.sep.box b cs hb hw).2.2.2 b' cs0 c0 (ajc b' cs' g1) g3.symm
     refine⟨u::us,(2,ts)::vs,qf,[0]++os1++os,_,(n0,(φ.β b).block)::bl,⟨hrun,hr⟩,h2,(((nh.one (it:=WQ) (.inl ⟨rfl,.sc _ _ _ (show Oc (.bool true) from trivial)⟩) agQ).app h.sep.nz t1).app h.sep.nz t2:nh w φ st qf ((WQ::ez (ms.headD []) ts us0)++dV) ([0]++os1++os)),
      ⟨_,dV,rfl,.inr ⟨rfl,φ.β b,us0,ht,(h.sep.spot b cs hb).1 hw,by rw[Qf,Ly],fun j y hy=> ?_,.head _,rfl⟩,c2.mono fun n k hk=> .tail _ hk⟩,k2,?_⟩
     ·have hj:j<cs.length:=by rw[←Qf];exact(List.getElem?_eq_some_iff.1 hy).1
      obtain⟨v,a1,a2,a3,_⟩:=hus j _ (bC hj);rw[hy] at a1
      cases a1
      rw[lG] at a2;exact⟨a2,a3,h.sep.soft b cs j hb hw hj⟩
     ·have b3:=b2.before (t1.sub.trans agQ) (n0:=n0) au
      refine⟨fun n k hk=> ?_,fun n n' k hk hk'=> ?_,fun b' cs' hb' hw' n hm=> ?_⟩
      ·rcases dJ.1 hk with hk|hk
       ·cases hk;exact⟨b,cs,hb,hw,rfl,cL _⟩
       ·exact b3.one n k hk
      ·rcases dJ.1 hk with hk|hk
       ·rcases dJ.1 hk' with hk'|hk'
        ·cases hk;cases hk';rfl
        ·cases hk;exact absurd hk' (alG _)
       ·rcases dJ.1 hk' with hk'|hk'
        ·cases hk';exact absurd hk (alG _)
        ·exact b2.inj n n' k hk hk'
      ·rcases dJ.1 hm with hm|hm
       ·obtain⟨cs1,c1,_⟩:=t2.sub.bx b' cs' hb'
        obtain⟨cs0,c0,_⟩:=(t1.sub.trans agQ).bx b' cs1 c1;have e:(φ.β b').block=(φ.β b).block:=(Prod.mk.inj hm).2;exact(h.sep.box b cs hb hw).2.2.2 b' cs0 c0 (ajc b' cs1 c1) e
       ·exact b2.rest b' cs' hb' hw' n hm
    ·exact hk.elim
   ·exact hk.elim
  ·exact hk.elim
theorem zU.mono {NB NB':Nat→Prop} (hn: ∀k,NB k→NB' k): ∀{ps:List bY} {xs:List Value} {fs:List TV} {dV:List It},zU w NB ps xs fs dV→zU w NB' ps xs fs dV
 |[],[],_,_,h=>h
 |[],_::_,_,_,h=>h.elim
 |_::_,[],_,_,h=>h.elim
 |p::ps,x::xs,fs,dV,h=>by
  cases p with
  |inout ms=>
   cases fs with
   |nil=>exact h.elim
   |cons f fs=>
    obtain⟨a,b,h1,h2,h3⟩:=h;refine⟨a,b,h1,zU.mono hn h2,?_⟩
    cases f with
    |bx cs=>obtain⟨ad,us,g1,g2,g3,g4,g5⟩:=h3;exact⟨ad,us,g1,g2,hn _ g3,g4,g5⟩
    |_=>exact h3
  |borrow=>exact zU.mono hn (ps:=ps) (xs:=xs) (fs:=fs) (dV:=dV) h
  |consume _=>exact zU.mono hn (ps:=ps) (xs:=xs) (fs:=fs) (dV:=dV) h
theorem Kf {NB:Nat→Prop}: ∀(ps:List bY) (i:Nat) (st:TS) (xs:List Value) (fs:List TV),bw F A w0 φ st tm w→ps.length=xs.length→(∀j ms,ps[j]?=some (.inout ms)→tm.getD (i+j) undef=xs.getD j undef)→
 (∀b cs,an b st.bx=some cs→Bl b=true→NB (φ.β b).block)→Yu ps i st=some fs→ ∃st' dV os,nh w φ st st' dV os∧zU w NB ps xs fs dV
 |[],i,st,xs,fs,h,hl,hx,hn,hf=>by
  cases hf
  cases xs with
  |nil=>exact⟨st,[],[],nh.nil _,rfl,rfl⟩
  |cons _ _=>cases hl
 |p::ps,i,st,xs,fs,h,hl,hx,hn,hf=>by
  cases xs with
  |nil=>cases hl
  |cons x xs=>
   have hx': ∀j ms,ps[j]?=some (.inout ms)→tm.getD (i+1+j) undef=xs.getD j undef:=fun j ms hj=>by
    have:=hx (j+1) ms (by simpa using hj);rw[show i+(j+1)=i+1+j by omega] at this;simpa using this
   have hl':ps.length=xs.length:=by simpa using hl
   by_cases hp: ∃ms,p= .inout ms
   ·obtain⟨ms,rfl⟩:=hp
    have htm:tm.getD i undef=x:=by simpa using hx 0 ms rfl
    have ht:=h.tmp i;rw[htm] at ht
    have nb: ∀{eM:TS},fD eM st→(∀b cs,an b eM.bx=some cs→Bl b=true→NB (φ.β b).block):=fun hb b cs hc hw=>by
     obtain⟨cs0,h0,_⟩:=hb.bx b cs hc;exact hn b cs0 h0 hw
    simp only[Yu] at hf
    split at hf
    ·rename_i _ _ e he
     rw[he] at ht;obtain⟨hc1,hce⟩:=Bu ht
     split at hf
     ·rename_i c eM hfc
      split at hf
      ·rename_i vs hfr
       cases hf
       obtain⟨h1,_,os1,t1⟩:=zW [] [e] st [x] [c] eM h (fD.refl _) rfl (fun j e' he'=>by
        cases j with
        |zero=>simp only[fu,bq] at he';subst he';exact⟨x,rfl,hce⟩
        |succ j=>simp at he') hfc
       obtain⟨qf,dV,os,t2,f2⟩:=Kf ps (i+1) eM xs vs h1 hl' hx' (nb t1.sub) hfr;exact⟨qf,_,_,t1.app h.sep.nz t2,_,dV,rfl,f2,rfl,rfl⟩
      ·cases hf
     ·cases hf
    ·rename_i _ _ cs he
     rw[he] at ht;obtain⟨c,e1,ht⟩:=ht
     cases e1
     obtain⟨ys,hy,hsz,hcs⟩:=ht
     split at hf
     ·rename_i ts eM hfc
      split at hf
      ·rename_i vs hfr
       cases hf
       obtain⟨h1,Ly,os1,t1⟩:=zW [] cs st ys.toList ts eM h (fD.refl _) (by simpa using hsz) (fun j e' he'=>by
        obtain⟨u,a1,a2,a3⟩:=hcs j e' he'
        exact⟨u,by simpa using a1,a3⟩) hfc
       obtain⟨qf,dV,os,t2,f2⟩:=Kf ps (i+1) eM xs vs h1 hl' hx' (nb t1.sub) hfr;exact⟨qf,_,_,t1.app h.sep.nz t2,_,dV,rfl,f2,rfl,ys,hy,by rw[Ly,hsz],rfl⟩
      ·cases hf
     ·cases hf
    ·rename_i _ _ _ b he
     rw[he] at ht;have ht:x= .pointer (some ((φ.β b).add 0)):=ht;rw[Addr.add_zero'] at ht
     split at hf
     ·rename_i cs hw hb
      split at hf
      ·rename_i ts eM hfc
       split at hf
       ·rename_i vs hfr
        cases hf
        obtain⟨us,Qf,hus⟩:=J9 (Pr:=fun j e v=>w.cell? ((φ.β b).add j)=some v∧v.cells= #[v]∧ek st.ob w φ e v) cs 0 (fun j e he=>by simpa using h.box b cs hb j e he)
        obtain⟨h1,Ly,os1,t1⟩:=zW _ cs st us ts eM h (fD.refl _) Qf (fun j e' he'=>by
         obtain⟨v,a1,_,_,a3⟩:=hus j e' he'
         exact⟨v,a1,a3⟩) hfc
        obtain⟨qf,dV,os,t2,f2⟩:=Kf ps (i+1) eM xs vs h1 hl' hx' (nb t1.sub) hfr;refine⟨qf,_,_,t1.app h.sep.nz t2,_,dV,rfl,f2,φ.β b,us,ht,by rw[Qf,Ly],hn b cs hb hw,fun j u hu=> ?_,rfl⟩
        have hj:j<cs.length:=by rw[←Qf];exact(List.getElem?_eq_some_iff.1 hu).1
        obtain⟨v,a1,a2,a3,_⟩:=hus j _ (bC hj);rw[hu] at a1
        cases a1
        rw[lG] at a2;exact⟨a2,a3,h.sep.soft b cs j hb hw hj⟩
       ·cases hf
      ·cases hf
     ·cases hf
    ·cases hf
   ·obtain⟨qf,dV,os,t2,f2⟩:=Kf ps (i+1) st xs fs h hl' hx' hn (by cases p<;>first|exact hf|exact absurd ⟨_,rfl⟩ hp)
    refine⟨qf,dV,os,t2,?_⟩
    cases p<;>first|exact f2|exact absurd ⟨_,rfl⟩ hp
theorem nh.ae6 (h:bw F A w0 φ st tm w) {dV:List It} {os:List Nat} (t:nh w φ st st' dV os): ∃I X,aa1 F A.sh w0 w I dV X∧ ∀k,¬φ.I k→(∀o,aT st.ob o→ ¬φ.S o k)→ ¬I k∧ ∀i,i<dV.length→ ¬X i k:=by
 have dom: ∀i it o,dV[i]?=some it→os[i]?=some o→o≠0→aT st.ob o:=fun i it o hi ho h0=>by
  rcases t.at' i it o hi ho with⟨e,_⟩|⟨hd,_⟩
  ·exact absurd e h0
  ·exact hd
 let I:Nat→Prop:=fun k=>φ.I k∨ ∃(i:Nat) (it:It) (o:Nat),dV[i]?=some it∧os[i]?=some o∧o≠0∧φ.S o k∧ ¬Q7 it.1 it.2.2 (φ.S o) k
 let X:Nat→Nat→Prop:=fun i k=> ∃(it:It) (o:Nat),dV[i]?=some it∧os[i]?=some o∧o≠0∧Q7 it.1 it.2.2 (φ.S o) k
 have own_S: ∀{m v S k},Q7 m v S k→S k:=fun {m v S k} hk=>by
  cases m with
  |snap=>exact hk.elim
  |top=>exact hk.1
  |deep=>exact hk
 refine⟨I,X,⟨fun i it hi=> ?_,fun i k hi hk=> ?_,fun i j k hi hj hk hk'=> ?_,fun k hk=> ?_⟩,fun k hI hS=>⟨?_,fun i hi=> ?_⟩⟩
 ·obtain⟨o,ho⟩: ∃o,os[i]?=some o:=⟨_,bC (by rw[t.len];exact(List.getElem?_eq_some_iff.1 hi).1)⟩
  rcases t.at' i it o hi ho with⟨e,hc⟩|⟨hd,hn,m',hm,hdm,hc⟩
  ·exact(hc.qm fun k hk=> .inl hk).mono fun k hk=>hk.elim
  ·have h0:=h.sep.nz o hd
   exact(hc.out hm hdm (fun k hk=> .inl hk) fun k hk hno=> .inr ⟨i,it,o,hi,ho,h0,hk,hno⟩).mono fun k hk=>⟨it,o,hi,ho,h0,hk⟩
 ·obtain⟨it,o,h1,h2,h0,hk⟩:=hk
  have hd:=dom i it o h1 h2 h0;refine⟨(h.sep.fresh o k hd (own_S hk)).1,(h.sep.fresh o k hd (own_S hk)).2,?_⟩;rintro(hI|⟨i',it',o',g1,g2,g0,g3,g4⟩)
  ·exact h.sep.read o k hd (own_S hk) hI
  ·have:=h.sep.apart o o' k hd (dom i' it' o' g1 g2 g0) (own_S hk) g3
   subst this;have:=t.inj i i' o h2 g2 h0;subst this;rw[h1] at g1
   cases g1
   exact g4 hk
 ·obtain⟨it,o,h1,h2,h0,hk⟩:=hk
  obtain⟨it',o',g1,g2,g0,hk'⟩:=hk';have:=h.sep.apart o o' k (dom i it o h1 h2 h0) (dom j it' o' g1 g2 g0) (own_S hk) (own_S hk');subst this;exact t.inj i j o h2 g2 h0
 ·rcases hk with hk|⟨i,it,o,h1,h2,h0,hk,_⟩
  ·exact h.sep.ro k hk
  ·have:=h.sep.fresh o k (dom i it o h1 h2 h0) hk
   exact⟨this.1,this.2.elim .inl fun hF=> .inr (.inl hF)⟩
 ·rintro(hk|⟨i,it,o,h1,h2,h0,hk,_⟩)
  ·exact hI hk
  ·exact hS o (dom i it o h1 h2 h0) hk
 ·rintro⟨it,o,h1,h2,h0,hk⟩
  exact hS o (dom i it o h1 h2 h0) (own_S hk)
structure NG (F:Nat→Prop) (A:Arg) (w0 w:World) (g:Sig) (args:List Value) (r:TV) (fs:List TV) (v:Value):Prop where
 frm:J2 F w0 w
 res: ∃I X ri fi,aa1 F A.sh w0 w I (ri++fi) X∧VD w X g.res r v ri∧zU w (fun k=> ¬I k∧ ∀i,i<(ri++fi).length→ ¬X i k) g.ps args fs fi
theorem ahy {X:Nat→Nat→Prop} {ms:List (List Mode)} {vs:List (Nat×List TC)} {us:List Value} {dV:List It} (h:oM w X 0 ms vs us dV):VD w X ms (LJ vs) (ahx us) dV:=by
 have tu: ∀{vs:List (Nat×List TC)} {us:List Value},oM w X 0 ms vs us dV→us.length≠1→VD w X ms (.tu vs) (ahx us) dV:=fun {vs us} h hl=>by
  refine⟨us.toArray,?_,h⟩
  match us with
  |[]=>rfl
  |[u]=>exact absurd rfl hl
  |_::_::_=>rfl
 match vs,us,h with
 |[],[],h=>exact tu h bZ
 |[(a,cs)],[u],h=>
  obtain⟨a0,b,hb,hc,hb2⟩:=h;have hb2:b=[]:=hb2;rw[hb2,m0] at hb;subst hb;rcases hc with⟨hn2,hc,hb⟩|⟨rfl,hc⟩
  ·match a,cs,hc with
   |0,[c],hc=>exact⟨hc,hb⟩
   |1,cs,hc=>exact⟨hc,hb⟩
   |0,[],hc=>have h1:=hc.2.2.2 bZ;have h2:=hc.2.1;rw[h1] at h2;simp at h2
   |0,_::_::_,hc=>have h1:=hc.2.2.2 bZ;have h2:=hc.2.1;rw[h1] at h2;simp at h2
   |n+2,_,hc=>exact absurd hc.1 au
  ·exact hc
 |[(a,cs)],u::u'::r,h=>obtain⟨_,b,_,_,hb⟩:=h;exact hb.elim
 |(a,cs)::q::r,[u],h=>obtain⟨_,b,_,_,hb⟩:=h;exact hb.elim
 |(a,cs)::q::r,u::u'::us,h=>
  have hp:LJ ((a,cs)::q::r)= .tu ((a,cs)::q::r):=by
   unfold LJ
   split<;>first|rfl|(rename_i e;cases e)
  rw[hp];exact tu h bZ
theorem ajL (hT:ij C) (g:Sig) {fn:Func} {args:List Value} {x:TX} {r:TV} {fs:List TV} (h:bw F A w0 φ st tm w) (hl:g.ps.length=args.length) (hx: ∀j ms,g.ps[j]?=some (.inout ms)→tm.getD j undef=args.getD j undef)
 (hk:(aeD C g fn.results.toList x st).holds cf lp fun p=>p=(r,fs)): ∃v,(results fn tm).run C.P w= .ok v w∧NG F A w0 w g args r fs v:=by
 unfold aeD at hk
 have hk:(QM C g.res fn.results.toList st fun rs st'=>match Yu g.ps 0 st' with
  |some fs=>fTV (LJ rs) fun r=>fL fTV fs fun fs=> .ret (r,fs)
  |none=> .fail:Ev (TV×List TV)).holds cf lp fun p=>p=(r,fs):=by
  cases x with
  |ex _=>exact hk.elim
  |norm=>exact hk
  |ret=>exact hk
 obtain⟨us,vs,eM,os1,ri,bl,hr,h1,t1,c1,k1,bo⟩:=Ke hT _ _ _ _ 0 h hk
 split at k1
 ·rename_i fs' hf
  rw[aeJ,yl aeJ] at k1;have k1:(LJ vs,fs')=(r,fs):=k1
  cases k1
  obtain⟨qf,fi,os2,t2,f2⟩:=Kf (NB:=fun k=>(¬φ.I k∧ ∀o,aT st.ob o→ ¬φ.S o k)∧ ∀n,(n,k)∉bl) g.ps 0 eM args _ h1 hl (fun j ms hj=>by rw[lG];exact hx j ms hj) (fun b cs hb hw=>by
   obtain⟨cs0,h0,_⟩:=t1.sub.bx b cs hb;obtain⟨a1,a2,_⟩:=h.sep.box b cs0 h0 hw
   exact⟨⟨a1,a2⟩,bo.rest b cs hb hw⟩) hf
  obtain⟨I,X,hb,hnb⟩:=(t1.app h.sep.nz t2).ae6 h
  have blB: ∀n k,(n,k)∈bl→k<w.heap.size∧(w0.heap.size≤k∨F k)∧ ¬I k∧ ∀i,i<(ri++fi).length→ ¬X i k:=fun n k hk=>by
   obtain⟨b,cs,g1,g2,rfl,_⟩:=bo.one n k hk;obtain⟨a1,a2,a3,_⟩:=h.sep.box b cs g1 g2;exact⟨(h.sep.spot b cs g1).2.1,a3,hnb _ a1 a2⟩
  have hb':aa1 F A.sh w0 w I (ri++fi) (fun i k=>X i k∨(i,k)∈bl):=by
   refine⟨fun i it hi=>(hb.ok i it hi).mono fun k hk=> .inl hk,fun i k hi hk=> ?_,fun i j k hi hj hk hk'=> ?_,hb.ro⟩
   ·rcases hk with hk|hk
    ·exact hb.rng i k hi hk
    ·obtain⟨x1,x2,x3,_⟩:=blB i k hk
     exact⟨x1,x2,x3⟩
   ·rcases hk with hk|hk
    ·rcases hk' with hk'|hk'
     ·exact hb.apart i j k hi hj hk hk'
     ·exact absurd hk ((blB j k hk').2.2.2 i hi)
    ·rcases hk' with hk'|hk'
     ·exact absurd hk' ((blB i k hk).2.2.2 j hj)
     ·exact bo.inj i j k hk hk'
  exact⟨_,YO hr,h.frm,I,_,ri,fi,hb',ahy (c1.mono fun n k hk=> .inr hk),f2.mono fun k hk=>⟨(hnb k hk.1.1 hk.1.2).1,fun i hi hx=>hx.elim ((hnb k hk.1.1 hk.1.2).2 i hi) (hk.2 i)⟩⟩
 ·exact k1.elim
end Go.T
namespace Go.T
variable {F : Nat → Prop} {A : Arg} {w0 w w' : World} {φ φ' φ1 : Fp} {st st' sta eM : TS} {tm IF : Array Value} {C : mG}
def Fp.WU (φ:Fp) (o:Nat):Fp where
 I k:=φ.I k∨φ.S o k∧ ¬acp (φ.V o) k
 S d k:=φ.S d k∧(d=o→acp (φ.V o) k)
 V:=φ.V
 β:=φ.β
theorem WV {o:Nat} {ds:List Nat} {k:Nat} (h:rd φ ds k):rd (φ.WU o) ds k:=by
 rcases h with h|⟨d,hd,h⟩
 ·exact .inl (.inl h)
 ·by_cases e:d=o
  ·subst e
   by_cases hb:acp (φ.V d) k
   ·exact .inr ⟨d,hd,h,fun _=>hb⟩
   ·exact .inl (.inr ⟨h,hb⟩)
  ·exact .inr ⟨d,hd,h,fun h=>absurd h e⟩
theorem bw.Bq (h:bw F A w0 φ st tm w) {o:Nat} {b:OB} (hb:an o st.ob=some b):bw F A w0 (φ.WU o) (Bq o st) tm w∧ ∀e v,ek st.ob w φ e v→ek (T.Bq o st).ob w (φ.WU o) (QI o e) v:=by
 have hin:aT st.ob o:=⟨b,hb⟩;have h0:o≠0:=h.sep.nz o hin;have hO:=h.obj o b hb;have hO:av w φ.I b.m (φ.S o) (.sub b.z b.rows) (φ.V o):=hO
 have q9: ∀d,aT (pU o (TK b) st.ob) d↔aT st.ob d:=fun d=>by
  rw[kG];exact⟨fun h=>h.elim (fun e=>e▸hin) id,.inr⟩
 have look: ∀d,an d (pU o (TK b) st.ob)=if d=o then some (TK b) else an d st.ob:=fun d=>gf o d _ _
 have hm:b.m≠ .snap:=by unfold OB.m;split<;>simp
 have loc: ∀{p:Nat} {z:Nat} {rows:List (List TC)} {v:Value} {i:Int} {f:Nat},ab9 st.ob w φ z rows v p i f→p≠o→ab9 (pU o (TK b) st.ob) w (φ.WU o) z rows v p i f:=fun {p z rows v i f} ⟨b',h1,h2⟩ hne=>⟨b',by rw[look,aJ hne];exact h1,h2⟩
 have hC: ∀e v,ek st.ob w φ e v→ek (pU o (TK b) st.ob) w (φ.WU o) (QI o e) v:=fun e v he=>by
  cases e with
  |ref p cut=>
   obtain⟨b',h1,h2⟩:=he
   by_cases hp:p=o
   ·subst hp
    rw[hb] at h1;cases h1;exact⟨TK b,by rw[look,aR rfl],h2⟩
   ·exact⟨b',by rw[look,aJ hp];exact h1,h2⟩
  |snap ds l z rows=>
   obtain⟨h1,h2,h3⟩:=he;have gen:(∀d∈ds,d=0∨aT (pU o (TK b) st.ob) d)∧av w (rd (φ.WU o) ds) .snap Lw (.sub z rows) v:=⟨fun d hd=>(h1 d hd).imp id fun h=>(q9 d).2 h,h2.qm fun k hk=>WV hk⟩
   cases l with
   |none=>exact⟨gen.1,gen.2,fun _ _ _ hl=>by cases hl⟩
   |some q=>
    obtain⟨p,i,f⟩:=q;simp only[QI]
    cases hp:Nat.beq p o with
    |false=>exact⟨gen.1,gen.2,fun p' i' f' hl=>by
      cases hl
      obtain⟨a1,a2⟩:=h3 p i f rfl
      exact⟨a1,loc a2 (tY hp)⟩⟩
    |true=>
     have hp:=jw hp;subst hp;obtain⟨_,b',l1,l2,l3,ad,n,c,l4,l5⟩:=h3 p i f rfl;rw[hb] at l1;cases l1;refine⟨fun d hd=>(by cases hd),?_,fun _ _ _ hl=>by cases hl⟩;rw[l4] at hO
     cases hO with
     |sub _ _ _ _ _ _ u T k hn=>
      have hu:=k.cell ad rfl _ _ _ l3;rw[l5] at hu
      cases hu
      refine(hn _ _ _ l3).freeze (fun k' hk=> .inl (.inl hk)) fun hn' k' hk=> ?_;have hd:=xy hn';obtain⟨s1,s2,_⟩:=k.qh hd _ _ _ hk;refine .inl (.inr ⟨s1,?_⟩);rw[l4];rintro⟨ad',n',c',e1,e2⟩
      cases e1
      exact s2 ad rfl e2
  |_=>exact he
 refine⟨?_,?_⟩
 ·unfold T.Bq
  rw[hb];refine h.IN (φ':=φ.WU o) (w':=w) rfl rfl hC (fun e v hv he=> ?_) (fun _ _ _ _ _=>rfl) (fun p b' hp=> ?_) ?_ h.frm
  ·cases e with
   |v t es=>exact absurd rfl (hv t es)
   |ep ds cells=>
    obtain⟨h1,ad,h2,hr,h3⟩:=he;refine⟨fun d hm=>(h1 d hm).imp id fun h=>(q9 d).2 h,ad,h2,fun hc=>WV (hr hc),fun j tc hj=> ?_⟩;obtain⟨u,h4,h5⟩:=h3 j tc hj;exact⟨u,h4,h5.qm fun k hk=>WV hk⟩
   |er p path i f=>
    obtain⟨b',h1,h2,ad,n,c,h3,h4⟩:=he
    cases path with
    |none=>
     by_cases hp:p=o
     ·subst hp
      rw[hb] at h1;cases h1;exact⟨TK b,by rw[look,aR rfl],h2,ad,n,c,h3,h4⟩
     ·exact⟨b',by rw[look,aJ hp];exact h1,h2,ad,n,c,h3,h4⟩
    |some q=>
     simp only[aiV]
     cases hp:Nat.beq p o with
     |true=>trivial
     |false=>exact⟨b',by rw[look,aJ (tY hp)];exact h1,h2,ad,n,c,h3,h4⟩
   |_=>exact he
  ·rw[look] at hp
   split at hp
   ·rename_i e
    subst e
    cases hp
    refine av.mono (S:=Q7 .top (φ.V p) (φ.S p)) (hO.out (m:= .top) (Rd':=(φ.WU p).I) hm (fun e=>by cases e) (fun k hk=> .inl hk) fun k hk hn=> .inr ⟨hk,fun hb=>hn ⟨hk,hb⟩⟩) fun k hk=>⟨hk.1,fun _=>hk.2⟩
   ·rename_i hne
    refine((h.obj p b' hp).qm fun k hk=> .inl hk).mono fun k hk=>⟨hk,fun e=>absurd e hne⟩
  ·have hs:=h.sep.boxes (iX (QI o))
   exact {
    arg:=by
     rw[←h.sep.arg]
     funext k
     exact propext ⟨fun hk=>hk.1,fun hk=>⟨hk,fun e=>absurd e.symm h0⟩⟩
    nz:=fun d hd=>hs.nz d ((q9 d).1 hd)
    apart:=fun p q k hp hq h1 h2=>hs.apart p q k ((q9 p).1 hp) ((q9 q).1 hq) h1.1 h2.1
    fresh:=fun p k hp hk=>hs.fresh p k ((q9 p).1 hp) hk.1
    oY:=hs.oY,spot:=hs.spot,soft:=hs.soft
    read:=fun p k hp hk hI=>by
     rcases hI with hI|⟨hI,hn⟩
     ·exact h.sep.read p k ((q9 p).1 hp) hk.1 hI
     ·have:=h.sep.apart p o k ((q9 p).1 hp) hin hk.1 hI
      exact hn (hk.2 this)
    ro:=fun k hk=>hk.elim (h.sep.ro k) fun hk=>⟨(h.sep.fresh o k hin hk.1).1,(h.sep.fresh o k hin hk.1).2.imp id .inl⟩
    box:=fun b' cs hb' hw=>by
     obtain⟨a1,a2,a3,a4⟩:=hs.box b' cs hb' hw
     exact⟨fun hI=>hI.elim a1 fun hI=>a2 o hin hI.1,fun d hd hk=>a2 d ((q9 d).1 hd) hk.1,a3,a4⟩}
 ·intro e v he
  have:(T.Bq o st).ob=pU o (TK b) st.ob:=by unfold T.Bq;rw[hb];rfl
  rw[this];exact hC e v he
end Go.T
