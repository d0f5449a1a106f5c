import Derived.Test.YtlkjkfidmkdchaaT2
import Derived.Deep.AppendSrc
import Derived.Deep.MidRow
import Derived.Deep.Upon
import Derived.Laws.MakeOwn
import Derived.Laws.IdiomStrings
import Derived.Laws.IdiomCopy
set_option linter.all false
namespace Go.T
variable {F : Nat → Prop} {A : Arg} {w0 w w' : World} {φ φ' : Fp} {st st' bD gn : TS} {tm sO : Array Value} {C : e7}
theorem jf: ∀(W:List (Nat×OB)) (ob:List (Nat×OB)) (d:Nat),aa d (dP W ob)=match aa d W with|some b=>some b|none=>aa d ob
 |[],ob,d=>rfl
 |(i,b)::r,ob,d=>by
  simp only[dP,bS,aa,jf r ob d]
  by_cases h:d=i
  ·subst h;simp
  ·rw[aH h,beq_false (Ne.symm h)]
theorem A4 {α:Type}: ∀{W:List (Nat×α)} {d:Nat},d∈jv W↔ ∃b,aa d W=some b
 |[],d=>by simp[jv,aa]
 |(i,b)::r,d=>by
  simp only[jv,bC,A4 (W:=r),aa]
  by_cases h:d=i
  ·subst h;simp
  ·rw[beq_false (Ne.symm h)];simp[h]
theorem vA {α:Type} {W:List (Nat×α)} {d:Nat} (h:d∉jv W):aa d W=none:=by
 cases hd:aa d W with
 |none=>rfl
 |some b=>exact absurd (A4.2 ⟨b,hd⟩) h
theorem sY {a l:List Nat} (h:kz a l=true): ∃x,x∈a∧x∈l:=by
 induction a with
 |nil=>cases h
 |cons y r ih=>
  simp only[kz] at h
  cases h1:ek y l with
  |true=>exact⟨y,.head _,dQ.1 h1⟩
  |false=>rw[h1] at h;obtain⟨x,a,b⟩:=ih h;exact⟨x,.tail _ a,b⟩
def Fp.wr (φ:Fp) (W:List (Nat×OB)) (X:Nat→Nat→Prop) (Z:Nat→Prop):Fp:=
 {φ with I:=fun k=>φ.I k∨Z k,S:=fun d k=>match aa d W with|some _=>X d k|none=>φ.S d k}
theorem Af {W:List (Nat×OB)} {X:Nat→Nat→Prop} {Z:Nat→Prop} {d k:Nat} (h:aa d W=none):(φ.wr W X Z).S d k=φ.S d k:=by
 unfold Fp.wr;simp only[h]
theorem Dt {W:List (Nat×OB)} {X:Nat→Nat→Prop} {Z:Nat→Prop} {d k:Nat} {b:OB} (h:aa d W=some b):(φ.wr W X Z).S d k=X d k:=by
 unfold Fp.wr;simp only[h]
theorem aq.wrote (h:aq F A w0 φ st tm w) (W:List (Nat×OB)) (X:Nat→Nat→Prop) (Z G:Nat→Prop)
 (hf:Fz F w0 w') (hsz:w.heap.size≤w'.heap.size) (hw: ∀k,k<w.heap.size→ ¬G k→w'.heap[k]?=w.heap[k]?)
 (gF: ∀k,G k→w0.heap.size≤k∨F k) (gI: ∀k,G k→ ¬φ.I k) (gS: ∀k o,G k→aj st.ob o→aa o W=none→ ¬φ.S o k) (gB: ∀b cs,aa b st.bx=some cs→ ¬G (φ.β b).block)
 (hW: ∀o b',aa o W=some b'→ ∃b,aa o st.ob=some b∧b'.z=b.z∧b'.rows.length=b.rows.length∧ah w' (fun k=>φ.I k∨Z k) b'.m (X o) (.sub b'.z b'.rows) (φ.V o)∧
   ∀k,X o k→k<w'.heap.size∧(w0.heap.size≤k∨F k)∧ ¬φ.I k∧ ¬Z k∧(∀d,aj st.ob d→aa d W=none→ ¬φ.S d k)∧(∀d b,aa d W=some b→X d k→d=o)∧ ∀b cs,aa b st.bx=some cs→nG b=true→(φ.β b).block≠k)
 (hZ: ∀k,Z k→k<w'.heap.size∧(w0.heap.size≤k∨F k∨A.sh k)∧(∀d,aj st.ob d→aa d W=none→ ¬φ.S d k)∧ ∀b cs,aa b st.bx=some cs→nG b=true→(φ.β b).block≠k):
 aq F A w0 (φ.wr W X Z) (j8 W st) tm w':=by
 have gT: ∀d,aj (dP W st.ob) d↔aj st.ob d:=fun d=>by
  unfold aj;rw[jf]
  cases hd:aa d W with
  |none=>rfl
  |some b=>obtain⟨b0,h0,_⟩:=hW d b hd;exact⟨fun _=>⟨b0,h0⟩,fun _=>⟨b,rfl⟩⟩
 have gA: ∀k,G k→ ¬A.all k:=fun k hg ha=>by
  have:=h.sep.fz k ha;rcases gF k hg with h3|h3
  ·omega
  ·exact this.2 h3
 have stI: ∀k,φ.I k→w'.heap[k]?=w.heap[k]?:=fun k hk=>hw k (h.sep.ro k hk).1 fun hg=>gI k hg hk
 have stS: ∀d k,aa d W=none→d=0∨aj st.ob d→φ.S d k→w'.heap[k]?=w.heap[k]?:=fun d k hn hd hk=>hw k (h.sep.lt h.frm.size hd hk) fun hg=>by
  rcases hd with rfl|hd
  ·rw[h.sep.arg] at hk;exact gA k hg hk
  ·exact gS k d hg hd hn hk
 have w0n:aa 0 W=none:=by
  cases h0:aa 0 W with
  |none=>rfl
  |some b=>obtain⟨b0,h1,_⟩:=hW 0 b h0;exact absurd rfl (h.sep.nz 0 ⟨b0,h1⟩)
 have stR: ∀ds k,(∀d∈ds,aa d W=none)→(∀d∈ds,d=0∨aj st.ob d)→rd φ ds k→rd (φ.wr W X Z) ds k∧w'.heap[k]?=w.heap[k]?:=fun ds k hn hd hk=>by
  rcases hk with hk|⟨d,hm,hk⟩
  ·exact⟨.inl (.inl hk),stI k hk⟩
  ·exact⟨.inr ⟨d,hm,by rw[Af (hn d hm)];exact hk⟩,stS d k (hn d hm) (hd d hm) hk⟩
 have stV: ∀p b1 ad n c i f tc u,aa p W=none→aa p st.ob=some b1→φ.V p= .slice (some ad) n c→mB b1.rows i f=some tc→w.cell? (ad.add (i*b1.z+f))=some u→w'.cell? (ad.add (i*b1.z+f))=some u:=by
  intro p b1 ad n c i f tc u hne hp hv ht hcell;have hO:=h.obj p b1 hp;unfold fD at hO;rw[hv] at hO
  have hS:φ.S p ad.block:=by
   cases hO with
   |sub _ _ _ _ _ _ u T k hn=>exact(k.own (by unfold OB.m;split<;>simp)).2 ad rfl|>.1
  rw[bZ (w:=w)]
  ·exact hcell
  ·rw[aQ];exact stS p _ hne (.inr ⟨b1,hp⟩) hS
 have cbox: ∀p cs,aa p st.bx=some cs→w'.heap[(φ.β p).block]?=w.heap[(φ.β p).block]?:=fun p cs hp=>hw _ (h.sep.spot p cs hp).2.1 (gB p cs hp)
 have look1: ∀{d b},aa d st.ob=some b→ ∃b',aa d (dP W st.ob)=some b'∧b'.z=b.z∧b'.rows.length=b.rows.length∧(aa d W=none→b'=b):=fun {d b} hb=>by
  rw[jf]
  cases hd:aa d W with
  |none=>exact⟨b,hb,rfl,rfl,fun _=>rfl⟩
  |some b'=>
   obtain⟨b0,h0,h1,h2,_⟩:=hW d b' hd;rw[hb] at h0;cases h0;exact⟨b',rfl,h1,h2,fun e=>by cases e⟩
 have obj: ∀o b,aa o (dP W st.ob)=some b→fD w' (φ.wr W X Z) o b:=fun o b ho=>by
  rw[jf] at ho;unfold fD
  cases hd:aa o W with
  |none=>
   rw[hd] at ho;refine(ah.mono ((h.obj o b ho).move (fun k hk=>⟨.inl hk,stI k hk⟩) fun _ k hk=>stS o k hd (.inr ⟨b,ho⟩) hk) fun k hk=> ?_);rw[Af hd];exact hk
  |some b'=>
   rw[hd] at ho
   cases ho
   obtain⟨b0,h0,h1,h2,h3,_⟩:=hW o _ hd;refine ah.mono h3 fun k hk=> ?_;rw[Dt hd];exact hk
 have hce: ∀e v,bn st.ob w φ e v→bn (dP W st.ob) w' (φ.wr W X Z) (rG (jv W) e) v:=fun e v he=>by
  cases e with
  |ref p cut=>
   obtain⟨b1,h1,h2⟩:=he;obtain⟨b',g1,g2,g3,_⟩:=look1 h1;refine⟨b',g1,?_⟩
   cases cut with
   |none=>exact h2
   |some q=>obtain⟨l,r⟩:=q;simp only at h2 ⊢;rw[g2,g3];exact h2
  |snap ds loc z rows=>
   simp only[rG]
   cases hd:kz ds (jv W) with
   |true=>trivial
   |false=>
    have hn: ∀d∈ds,aa d W=none:=fun d hm=>vA (iN hd hm);obtain⟨h1,h2,h3⟩:=he;refine⟨fun d hm=>(h1 d hm).imp id (gT d).2,h2.move (fun k hk=>stR ds k hn h1 hk) (fun hm=>absurd rfl hm),fun p i f hl=> ?_⟩;obtain⟨a1,b1,a2,a3,a4,ad,n,c,a5,a6⟩:=h3 p i f hl;obtain⟨b',g1,_,_,g4⟩:=look1 a2;have:=g4 (hn p a1);subst this;exact⟨a1,_,g1,a3,a4,ad,n,c,a5,stV p _ ad n c _ _ _ _ (hn p a1) a2 a5 a4 a6⟩
  |_=>exact he
 have wD: ∀e v,(∀t es,e≠ .v t es)→aU st.ob w φ e v→aU (dP W st.ob) w' (φ.wr W X Z) (oy (jv W) e) v:=fun e v hv he=>by
  cases e with
  |v t es=>exact absurd rfl (hv t es)
  |ep ds cells=>
   simp only[oy]
   cases hd:kz ds (jv W) with
   |true=>trivial
   |false=>
    have hn: ∀d∈ds,aa d W=none:=fun d hm=>vA (iN hd hm);obtain⟨h1,ad,h2,hr,h3⟩:=he;refine⟨fun d hm=>(h1 d hm).imp id (gT d).2,ad,h2,fun hc=>(stR ds _ hn h1 (hr hc)).1,fun j tc hj=> ?_⟩;obtain⟨u,h4,h5⟩:=h3 j tc hj
    have hc:cells≠[]:=fun e=>by rw[e] at hj;simp at hj
    exact⟨u,by rw[bZ (w:=w) (by rw[aQ];exact(stR ds _ hn h1 (hr hc)).2)];exact h4,h5.move (fun k hk=>stR ds k hn h1 hk) (fun hm=>absurd rfl hm)⟩
  |er p path i f=>
   obtain⟨b1,h1,h2,ad,n,c,h3,h4⟩:=he;obtain⟨b',g1,g2,g3,g4⟩:=look1 h1
   cases path with
   |none=>exact⟨b',g1,h2,ad,n,c,h3,by simp only at h4 ⊢;rw[g2];exact h4⟩
   |some q=>
    obtain⟨i0,f0⟩:=q;simp only[oy]
    cases hd:ek p (jv W) with
    |true=>trivial
    |false=>
     have hn:=vA (bF.1 hd);have:=g4 hn;subst this;obtain⟨a1,z1,ie,a2,ad1,n1,c1,a3,a4⟩:=h4;exact⟨_,g1,h2,ad,n,c,h3,a1,z1,ie,a2,ad1,n1,c1,stV p _ ad n c _ _ _ _ hn h1 h3 a2 a3,a4⟩
  |_=>exact he
 have hsep: ∀bx',(∀b cs',aa b bx'=some cs'→ ∃cs,aa b st.bx=some cs∧cs'.length=cs.length)→Sep F A w0 w' (φ.wr W X Z) bx' (dP W st.ob):=fun bx' wE=>by
  have hs:=h.sep.boxes wE
  exact {
   arg:=by
    funext k
    rw[Af w0n,h.sep.arg]
   nz:=fun d hd=>h.sep.nz d ((gT d).1 hd)
   apart:=fun d d' k h1 h2 h3 h4=>by
    have i1:=(gT d).1 h1;have i2:=(gT d').1 h2
    cases e1:aa d W with
    |some b=>
     rw[Dt e1] at h3;obtain⟨_,_,_,_,_,hx⟩:=hW d b e1;obtain⟨_,_,_,_,x5,x6,_⟩:=hx k h3
     cases e2:aa d' W with
     |some b'=>rw[Dt e2] at h4;exact(x6 d' b' e2 h4).symm
     |none=>rw[Af e2] at h4;exact absurd h4 (x5 d' i2 e2)
    |none=>
     rw[Af e1] at h3
     cases e2:aa d' W with
     |some b'=>
      rw[Dt e2] at h4;obtain⟨_,_,_,_,_,hx⟩:=hW d' b' e2;exact absurd h3 ((hx k h4).2.2.2.2.1 d i1 e1)
     |none=>rw[Af e2] at h4;exact h.sep.apart d d' k i1 i2 h3 h4
   read:=fun d k hd hk=>by
    have hd:=(gT d).1 hd
    cases e1:aa d W with
    |some b=>
     rw[Dt e1] at hk;obtain⟨_,_,_,_,_,hx⟩:=hW d b e1;obtain⟨_,_,x3,x4,_⟩:=hx k hk;exact fun hi=>hi.elim x3 x4
    |none=>
     rw[Af e1] at hk;exact fun hi=>hi.elim (h.sep.read d k hd hk) fun hz=>(hZ k hz).2.2.1 d hd e1 hk
   fresh:=fun d k hd hk=>by
    have hd:=(gT d).1 hd
    cases e1:aa d W with
    |some b=>
     rw[Dt e1] at hk;obtain⟨_,_,_,_,_,hx⟩:=hW d b e1;exact⟨(hx k hk).1,(hx k hk).2.1⟩
    |none=>
     rw[Af e1] at hk;exact⟨dI (h.sep.fresh d k hd hk).1 hsz,(h.sep.fresh d k hd hk).2⟩
   ro:=fun k hk=>hk.elim (fun hk=>⟨dI (h.sep.ro k hk).1 hsz,(h.sep.ro k hk).2⟩) fun hz=>⟨(hZ k hz).1,(hZ k hz).2.1⟩
   fz:=h.sep.fz
   box:=fun p cs hp r9=>by
    obtain⟨cs0,c1,_⟩:=wE p cs hp;obtain⟨a1,a2,a3,a4⟩:=hs.box p cs hp r9;refine⟨fun hi=>hi.elim a1 fun hz=>(hZ _ hz).2.2.2 p cs0 c1 r9 rfl,fun d hd hk=> ?_,a3,a4⟩;have hd:=(gT d).1 hd
    cases e1:aa d W with
    |some b=>
     rw[Dt e1] at hk;obtain⟨_,_,_,_,_,hx⟩:=hW d b e1;exact(hx _ hk).2.2.2.2.2.2 p cs0 c1 r9 rfl
    |none=>rw[Af e1] at hk;exact a2 d hd hk
   spot:=fun p cs hp=>⟨(hs.spot p cs hp).1,dI (hs.spot p cs hp).2.1 hsz,(hs.spot p cs hp).2.2⟩
   soft:=fun p cs j hp r9 hj=>by
    obtain⟨cs0,c1,c2⟩:=wE p cs hp;rw[eu (w:=w) (by rw[aQ];exact cbox p cs0 c1)]
    exact h.sep.soft p cs0 j c1 r9 az}
 have wE: ∀b cs,aa b st.bx=some cs→ ∀j,j<cs.length→w'.cell? ((φ.β b).add j)=w.cell? ((φ.β b).add j):=fun p cs hp j _=>bZ (by rw[aQ];exact cbox p cs hp)
 cases W with
 |nil=>
  have:=h.sV (f:=id) (g:=id) (k:=id) (φ':=φ.wr [] X Z) rfl rfl (fun e v he=> ?_) (fun e v hv he=> ?_) wE obj (by rw[vv];exact hsep st.bx fun b cs hb=>⟨cs,hb,rfl⟩) hf
  ·rw[lD] at this;exact this
  ·have:=hce e v he
   have e1:rG (jv ([]:List (Nat×OB))) e=e:=by
    cases e with
    |snap ds l z rows=>simp only[rG];cases hd:kz ds (jv ([]:List (Nat×OB))) with
     |true=>obtain⟨x,_,hx⟩:=sY hd;cases hx
     |false=>rfl
    |_=>rfl
   rw[e1] at this;exact this
  ·have:=wD e v hv he
   have e1:oy (jv ([]:List (Nat×OB))) e=e:=by
    cases e with
    |ep ds cells=>simp only[oy];cases hd:kz ds (jv ([]:List (Nat×OB))) with
     |true=>obtain⟨x,_,hx⟩:=sY hd;cases hx
     |false=>rfl
    |er p path i f=>cases path<;>rfl
    |_=>rfl
   rw[e1] at this;exact this
 |cons a r=>exact h.sV (f:=rG (jv (a::r))) (g:=oy (jv (a::r))) (k:=dP (a::r)) rfl rfl hce wD wE obj (hsep _ (cO _)) hf
end Go.T
namespace Go.T
variable {F : Nat → Prop} {A : Arg} {w0 w w' : World} {φ φ' : Fp} {st st' bD gn : TS} {tm sO : Array Value} {C : e7}
variable {R : Type} {cf : Cf} {lp : Lp} {Q : R → Prop}
theorem GC {ob:List (Nat×OB)} {e:CE} {v:Value} (h:bn ob w φ e v) (hg:e≠ .gone) (hb: ∀o b,aa o ob=some b→fD w φ o b):v.oneCell'=true:=by
 cases e with
 |sc x=>obtain⟨rfl,h⟩:=h;cases v<;>first|rfl|cases h
 |nil z=>obtain⟨rfl,_⟩:=h;rfl
 |ref o cut=>
  obtain⟨b,h1,h2⟩:=h;have:=fD.cut (hb o b h1) h2
  cases this;rfl
 |snap ds l z rows=>have:=h.2.1;cases this;rfl
 |gone=>exact absurd rfl hg
theorem jD {Rd S:Nat→Prop} {m:Mode} {c:TC} {v:Value} (h:ah w Rd m S c v):v.oneCell'=true:=by
 cases h with
 |any _ _ _ h=>exact h.1
 |sc _ _ _ h=>cases v<;>first|rfl|cases h
 |sub=>rfl
theorem fe (b:Nat): ∀(vs:List Value) (o:Nat) (w:World),(w.setCells b o vs).os=w.os∧(w.setCells b o vs).tape=w.tape∧(w.setCells b o vs).output=w.output∧(w.setCells b o vs).heap.size=w.heap.size
 |[],_,_=>⟨rfl,rfl,rfl,rfl⟩
 |v::r,o,w=>by
  obtain⟨h1,h2,h3,h4⟩:=fe b r (o+1) (w.setCell ⟨b,o,none⟩ v);refine⟨h1,h2,h3,?_⟩;rw[World.setCells,h4];simp[World.setCell]
theorem cg (b o:Nat) (vs:List Value) (w:World) {k:Nat} (hk:k<w.heap.size) (hne:k≠b):(w.setCells b o vs).heap[k]?=w.heap[k]?:=World.heap_setCells_other w b o vs hk hne
theorem Fz.setCells {b o:Nat} {vs:List Value} (h:Fz F w0 w) (hb:w0.heap.size≤b∨F b):Fz F w0 (w.setCells b o vs):=by
 obtain⟨h1,h2,h3,h4⟩:=fe b vs o w;refine⟨h1.trans h.os,h2.trans h.tape,h3.trans h.output,by rw[h4];exact h.size,fun k hk hF=> ?_⟩;rw[cg b o vs w (dI hk h.size) (fun e=>by subst e;rcases hb with hb|hb;omega;exact hF hb)];exact h.block k hk hF
def bJ (M:Mode):List TC→List Value→List It
 |c::cs,v::vs=>(M,c,v)::bJ M cs vs
 |_,_=>[]
theorem fq {M:Mode}: ∀{cs:List TC} {vs:List Value} {i:Nat} {it:It},(bJ M cs vs)[i]?=some it→ ∃c v,cs[i]?=some c∧vs[i]?=some v∧it=(M,c,v)
 |[],_,_,_,h=>by simp[bJ] at h
 |_::_,[],_,_,h=>by simp[bJ] at h
 |c::cs,v::vs,0,it,h=>by simp only[bJ,bK,aE] at h;exact⟨c,v,rfl,rfl,h.symm⟩
 |c::cs,v::vs,i+1,it,h=>by
  simp only[bJ,ju] at h;obtain⟨c',v',h1,h2,h3⟩:=fq h;exact⟨c',v',by simpa using h1,by simpa using h2,h3⟩
theorem fJ {M:Mode}: ∀{cs:List TC} {vs:List Value} {i:Nat} {c:TC} {v:Value},cs[i]?=some c→vs[i]?=some v→(bJ M cs vs)[i]?=some (M,c,v)
 |[],_,_,_,_,h,_=>by simp at h
 |_::_,[],_,_,_,_,h=>by simp at h
 |c0::cs,v0::vs,0,c,v,h1,h2=>by
  simp only[bK,aE] at h1 h2;subst h1 h2
  rfl
 |c0::cs,v0::vs,i+1,c,v,h1,h2=>by
  simp only[bJ,ju] at h1 h2 ⊢;exact fJ h1 h2
theorem dx {M:Mode}: ∀{cs:List TC} {vs:List Value},cs.length=vs.length→(bJ M cs vs).length=cs.length
 |[],[],_=>rfl
 |[],_::_,h=>by cases h
 |_::_,[],h=>by cases h
 |c::cs,v::vs,h=>by simp only[bJ,dL];rw[dx (cs:=cs) (vs:=vs) (by simpa using h)]
theorem nr {M:Mode}: ∀{cs cs':List TC} {vs vs':List Value},cs.length=vs.length→bJ M (cs++cs') (vs++vs')=bJ M cs vs++bJ M cs' vs'
 |[],_,[],_,_=>rfl
 |[],_,_::_,_,h=>by cases h
 |_::_,_,[],_,h=>by cases h
 |c::cs,cs',v::vs,vs',h=>by
  simp only[sk,bJ];rw[nr (cs:=cs) (vs:=vs) (by simpa using h)]
structure eH (w:World) (φ:Fp) (st st':TS) (bA:List It) (X:Nat→Nat→Prop) (Z:Nat→Prop):Prop where
 ok: ∀(i:Nat) (it:It),bA[i]?=some it→ah w (fun k=>φ.I k∨Z k) it.1 (X i) it.2.1 it.2.2
 src: ∀(i k:Nat),i<bA.length→X i k→ ¬Z k∧ ∃o,aj st.ob o∧ ¬aj st'.ob o∧φ.S o k
 srcZ: ∀k,Z k→ ∃o,aj st.ob o∧ ¬aj st'.ob o∧φ.S o k
 apart: ∀(i j k:Nat),i<bA.length→j<bA.length→X i k→X j k→i=j
 sub:bN st' st
theorem eH.nil (st:TS):eH w φ st st [] (fun _ _=>False) (fun _=>False):=⟨fun i it h=>by simp at h,fun i k h=>by simp at h,fun k h=>h.elim,fun i j k h=>by simp at h,bN.refl _⟩
theorem ey.parts (h:aq F A w0 φ st tm w) {bA:List It} {os:List Nat} (t:ey w φ st st' bA os): ∃X Z,eH w φ st st' bA X Z:=by
 obtain⟨I,X,hb,hn⟩:=t.Ig h
 have dom: ∀i it o,bA[i]?=some it→os[i]?=some o→o≠0→aj st.ob o∧ ¬aj st'.ob o:=fun i it o hi ho h0=>by
  rcases t.at' i it o hi ho with⟨e,_⟩|⟨hd,hd',_⟩
  ·exact absurd e h0
  ·exact⟨hd,hd'⟩
 have own_S: ∀{m v S k},yP m v S k→S k:=fun {m v S k} hk=>by
  cases m with
  |snap=>exact hk.elim
  |top=>exact hk.1
  |deep=>exact hk
 refine⟨fun i k=> ∃(it:It) (o:Nat),bA[i]?=some it∧os[i]?=some o∧o≠0∧yP it.1 it.2.2 (φ.S o) k,
  fun k=> ∃(i:Nat) (it:It) (o:Nat),bA[i]?=some it∧os[i]?=some o∧o≠0∧φ.S o k∧ ¬yP it.1 it.2.2 (φ.S o) k,⟨fun i it hi=> ?_,fun i k hi hk=> ?_,fun k hk=> ?_,fun i j k hi hj hk hk'=> ?_,t.sub⟩⟩
 ·obtain⟨o,ho⟩: ∃o,os[i]?=some o:=⟨_,aO (by rw[t.len];exact(List.getElem?_eq_some_iff.1 hi).1)⟩
  rcases t.at' i it o hi ho with⟨e,hc⟩|⟨hd,hn,m',hm,NV,hc⟩
  ·exact(hc.gy fun k hk=> .inl hk).mono fun k hk=>hk.elim
  ·have h0:=h.sep.nz o hd
   exact(hc.out hm NV (fun k hk=> .inl hk) fun k hk hno=> .inr ⟨i,it,o,hi,ho,h0,hk,hno⟩).mono fun k hk=>⟨it,o,hi,ho,h0,hk⟩
 ·obtain⟨it,o,h1,h2,h0,hk⟩:=hk
  obtain⟨hd,hd'⟩:=dom i it o h1 h2 h0;refine⟨?_,o,hd,hd',own_S hk⟩;rintro⟨i',it',o',g1,g2,g0,g3,g4⟩;have:=h.sep.apart o o' k hd (dom i' it' o' g1 g2 g0).1 (own_S hk) g3;subst this;have:=t.inj i i' o h2 g2 h0;subst this;rw[h1] at g1
  cases g1
  exact g4 hk
 ·obtain⟨i,it,o,h1,h2,h0,hk,_⟩:=hk
  obtain⟨hd,hd'⟩:=dom i it o h1 h2 h0;exact⟨o,hd,hd',hk⟩
 ·obtain⟨it,o,h1,h2,h0,hk⟩:=hk
  obtain⟨it',o',g1,g2,g0,hk'⟩:=hk';have:=h.sep.apart o o' k (dom i it o h1 h2 h0).1 (dom j it' o' g1 g2 g0).1 (own_S hk) (own_S hk');subst this;exact t.inj i j o h2 g2 h0
theorem eH.app (h:aq F A w0 φ st tm w) {a b:List It} {Xa Xb:Nat→Nat→Prop} {Za Zb:Nat→Prop} (p:eH w φ st bD a Xa Za) (q:eH w φ bD gn b Xb Zb):
 eH w φ st gn (a++b) (fun i k=>if i<a.length then Xa i k else Xb (i-a.length) k) (fun k=>Za k∨Zb k):=by
 have cross: ∀k,(∃o,aj st.ob o∧ ¬aj bD.ob o∧φ.S o k)→(∃o,aj bD.ob o∧ ¬aj gn.ob o∧φ.S o k)→False:=fun k ⟨o,a1,a2,a3⟩ ⟨o',b1,b2,b3⟩=>by
  have:=h.sep.apart o o' k a1 (p.sub.dom b1) a3 b3;subst this;exact a2 b1
 have upa: ∀{k},(∃o,aj st.ob o∧ ¬aj bD.ob o∧φ.S o k)→ ∃o,aj st.ob o∧ ¬aj gn.ob o∧φ.S o k:=fun⟨o,a1,a2,a3⟩=>⟨o,a1,fun hd=>a2 (q.sub.dom hd),a3⟩;have upb: ∀{k},(∃o,aj bD.ob o∧ ¬aj gn.ob o∧φ.S o k)→ ∃o,aj st.ob o∧ ¬aj gn.ob o∧φ.S o k:=fun⟨o,a1,a2,a3⟩=>⟨o,p.sub.dom a1,a2,a3⟩;refine⟨fun i it hi=> ?_,fun i k hi hk=> ?_,fun k hk=> ?_,fun i j k hi hj hk hk'=> ?_,q.sub.trans p.sub⟩
 ·by_cases hl:i<a.length
  ·rw[e9 hl] at hi
   simp only[aY hl];exact(p.ok i it hi).gy fun k hk=>hk.imp id .inl
  ·rw[fZ az] at hi
   simp only[aH hl];exact(q.ok _ it hi).gy fun k hk=>hk.imp id .inr
 ·by_cases hl:i<a.length
  ·simp only[aY hl] at hk
   obtain⟨h1,h2⟩:=p.src i k hl hk;exact⟨fun hz=>hz.elim h1 fun hb=>cross k h2 (q.srcZ k hb),upa h2⟩
  ·simp only[aH hl] at hk
   obtain⟨h1,h2⟩:=q.src _ k (by simp at hi;omega) hk;exact⟨fun hz=>hz.elim (fun ha=>cross k (p.srcZ k ha) h2) h1,upb h2⟩
 ·exact hk.elim (fun h=>upa (p.srcZ k h)) fun h=>upb (q.srcZ k h)
 ·simp only[cE] at hi hj
  by_cases hl:i<a.length
  ·simp only[aY hl] at hk
   by_cases hl':j<a.length
   ·simp only[aY hl'] at hk';exact p.apart i j k hl hl' hk hk'
   ·simp only[aH hl'] at hk'
    exact(cross k (p.src i k hl hk).2 (q.src _ k az hk').2).elim
  ·simp only[aH hl] at hk
   by_cases hl':j<a.length
   ·simp only[aY hl'] at hk'
    exact(cross k (p.src j k hl' hk').2 (q.src _ k az hk).2).elim
   ·simp only[aH hl'] at hk'
    have:=q.apart _ _ k az az hk hk';omega
theorem rO {g6:TS} (M:Mode): ∀(cs:List CE) (st:TS) (vs:List Value) (ts:List TC) (st':TS) (d:Bool),aq F A w0 φ st tm w→bN st g6→vs.length=cs.length→(∀(j:Nat) (e:CE),cs[j]?=some e→ ∃v,vs[j]?=some v∧bn g6.ob w φ e v)→
 (M= .snap∨d=true∧M= .deep)→yw cs st=some (ts,st',d)→aq F A w0 φ st' tm w∧ts.length=cs.length∧bN st' st∧ ∃os,ey w φ st st' (bJ M ts vs) os
 |[],st,vs,ts,st',d,h,hs,hl,hc,hM,ho=>by
  cases ho
  exact⟨h,rfl,bN.refl _,[],by cases vs<;>exact ey.nil _⟩
 |e::r,st,vs,ts,st',d,h,hs,hl,hc,hM,ho=>by
  simp only[yw] at ho
  split at ho
  ·rename_i c bD d1 hab
   split at ho
   ·rename_i cs' gn d2 G7
    cases ho
    cases vs with
    |nil=>cases hl
    |cons v vs=>
     obtain⟨v',Fj,hok⟩:=hc 0 e rfl;simp only[bK,aE] at Fj;subst Fj;obtain⟨h1,Ed,ht⟩:=B3 h hs hok hab
     obtain⟨o,ht⟩:=ht M (by
      rcases hM with rfl|⟨hd,rfl⟩
      ·unfold En;cases e<;>rfl
      ·simp only[cJ] at hd
       have OU:=hd.1;subst OU
       cases e with
       |snap ds l z rows=>
        cases ds with
        |nil=>simp[gu] at hab
        |cons _ _=>simp[gu] at hab
       |gone=>simp[gu] at hab
       |_=>rfl)
     obtain⟨h2,rY,PS,os,hts⟩:=rO M r bD vs cs' _ d2 h1 (Ed.trans hs) (by simpa using hl) (fun j e he=>by
      obtain⟨v',a1,a2⟩:=hc (j+1) e (by simpa using he)
      exact⟨v',by simpa using a1,a2⟩) (by
       rcases hM with hM|⟨hd,hM⟩
       ·exact .inl hM
       ·simp only[cJ] at hd;exact .inr ⟨hd.2,hM⟩) G7
     exact⟨h2,by simp[rY],PS.trans Ed,o::os,(ey.one ht Ed).app h.sep.nz hts⟩
   ·cases ho
  ·cases ho
theorem lG {z:Nat}: ∀{rows:List (List TC)},(∀r∈rows,r.length=z)→ ∀{i f:Nat} {tc:TC},mB rows i f=some tc→rows.flatten[i*z+f]?=some tc∧f<z∧i<rows.length
 |[],_,i,f,tc,h=>by simp[mB] at h
 |r::rs,hw,0,f,tc,h=>by
  have hr:=hw r (.head _);simp only[mB,bK,Option.bind_some] at h
  have hf:f<z:=by rw[←hr];exact(List.getElem?_eq_some_iff.1 h).1
  refine⟨?_,hf,by simp⟩;rw[qn,Nat.zero_mul,eK,e9 az];exact h
 |r::rs,hw,i+1,f,tc,h=>by
  have hr:=hw r (.head _)
  have h':mB rs i f=some tc:=by simpa [mB] using h
  obtain⟨h1,h2,h3⟩:=lG (fun r hr=>hw r (.tail _ hr)) h';refine⟨?_,h2,by simpa using h3⟩;rw[qn,fZ (by rw[hr,jT];omega),hr,show(i+1)*z+f-z=i*z+f by rw[jT];omega];exact h1
theorem aW {z:Nat}: ∀{rows:List (List TC)},(∀r∈rows,r.length=z)→rows.flatten.length=rows.length*z
 |[],_=>by simp
 |r::rs,hw=>by
  rw[qn,cE,aW fun r hr=>hw r (.tail _ hr),hw r (.head _),dL,jT];omega
theorem eH.row (dp:Bool) {X:Nat→Nat→Prop} {Z:Nat→Prop} {z:Nat} {rows:List (List TC)} {vs:List Value} (p:eH w φ st st' (bJ (if dp then .deep else .snap) rows.flatten vs) X Z) (hz:0<z) (hw: ∀r∈rows,r.length=z)
 (hl:vs.length=rows.length*z) {ad:Addr} {c:Nat} (hc:rows.length≤c) (KB:c≤maxLen) (hs:ad.spot=none) (hnew: ∀i k,i<rows.length*z→X i k→k≠ad.block)
 (hmem: ∀k,(φ.I k∨Z k)→w'.heap[k]?=w.heap[k]?) (Rl: ∀i k,i<rows.length*z→X i k→w'.heap[k]?=w.heap[k]?)
 (hcell: ∀(j:Nat) (v:Value),vs[j]?=some v→w'.cell? (ad.add j)=some v) (hall: ∀j,j<c*z→(∃x,w'.cell? ⟨ad.block,ad.off+j,none⟩=some x)∧w'.frozen? ⟨ad.block,ad.off+j,none⟩=false) (zY:1<z→ ∀i,w'.frozen? ⟨ad.block,i,none⟩=false):
 ah w' (fun k=>φ.I k∨Z k) (OB.m ⟨dp,z,rows⟩) (fun k=>k=ad.block∨ ∃i,i<rows.length*z∧X i k) (.sub z rows) (.slice (some ad) rows.length c):=by
 have hfl:=aW hw
 have hlen:(bJ (if dp then Mode.deep else .snap) rows.flatten vs).length=rows.length*z:=by rw[dx (by rw[hfl,hl]),hfl]
 have inj: ∀{i f i' f':Nat},f<z→f'<z→i*z+f=i'*z+f'→i=i'∧f=f':=fun {i f i' f'} h1 h2 e=>by
  have e1:(i*z+f)/z=i:=by rw[Nat.mul_comm,Nat.mul_add_div hz,Nat.div_eq_of_lt h1,jU]
  have e2:(i'*z+f')/z=i':=by rw[Nat.mul_comm,Nat.mul_add_div hz,Nat.div_eq_of_lt h2,jU]
  have:i=i':=by rw[←e1,e,e2]
  subst this;exact⟨rfl,by omega⟩
 refine .sub _ _ z rows (some ad) c (fun i f=>vs.getD (i*z+f) undef) (fun i f k=>f<z∧i<rows.length∧dp=true∧X (i*z+f) k) ⟨hc,KB,hz,hw,fun _=>⟨ad,rfl⟩,?_,?_,?_,fun _ G6 ad' e i=>(by cases e;exact zY G6 i),?_⟩ ?_
 ·intro ad' e i f tc ht
  cases e
  obtain⟨h1,h2,h3⟩:=lG hw ht
  have hlt:i*z+f<vs.length:=by rw[hl,←hfl];exact(List.getElem?_eq_some_iff.1 h1).1
  rw[hcell _ _ (aO hlt)];simp[List.getD,aO hlt]
 ·intro hm
  exfalso
  revert hm
  unfold OB.m
  split<;>simp
 ·intro _
  refine⟨fun e=>(by cases e),fun ad' e=> ?_⟩
  cases e
  exact⟨.inl rfl,hs,hall⟩
 ·intro hm i f k hk
  obtain⟨h1,h2,h3,h4⟩:=hk;have hi:i*z+f<rows.length*z:=dI (Nat.add_lt_add_left h1 _) (by rw[←yt];exact iM _ h2);refine⟨.inr ⟨_,hi,h4⟩,fun ad' e=>(by cases e;exact hnew _ k hi h4),fun i' f' hk'=> ?_⟩;obtain⟨g1,g2,g3,g4⟩:=hk';have hi':i'*z+f'<rows.length*z:=dI (Nat.add_lt_add_left g1 _) (by rw[←yt];exact iM _ g2);exact inj g1 h1 (p.apart _ _ k (by rw[hlen];exact hi') (by rw[hlen];exact hi) g4 h4)
 ·intro i f tc ht
  obtain⟨h1,h2,h3⟩:=lG hw ht
  have hlt:i*z+f<vs.length:=by rw[hl,←hfl];exact(List.getElem?_eq_some_iff.1 h1).1
  have hv:vs[i*z+f]?=some (vs.getD (i*z+f) undef):=by simp[List.getD,aO hlt]
  have:=p.ok _ _ (fJ h1 hv);simp only at this
  cases dp with
  |true=>
   simp only[if_true] at this;refine(ah.move this (fun k hk=>⟨hk,hmem k hk⟩) fun _ k hk=>Rl _ k (by rw[←hl];exact hlt) hk).mono fun k hk=>⟨h2,h3,rfl,hk⟩
  |false=>
   simp only[tU,if_false] at this;exact(ah.move this (fun k hk=>⟨hk,hmem k hk⟩) fun hm=>absurd rfl hm).gU fun k hk=>hk
end Go.T
namespace Go.T
variable {F : Nat → Prop} {A : Arg} {w0 w w' : World} {φ φ' : Fp} {st st' bD gn : TS} {tm sO : Array Value} {C : e7}
variable {R : Type} {cf : Cf} {lp : Lp} {Q : R → Prop}
theorem aq.LR (h:aq F A w0 φ st tm w) (g:gx w w') {e:CE} {v:Value} (he:bn st.ob w φ e v):bn st.ob w' φ e v:=
 he.stay (fun k hk=>g.block k (h.sep.ro k hk).1) (fun d k hd hk=>g.block k (h.sep.lt h.frm.size hd hk)) fun o ho ad n c hv i v hc=>g.cell hc
theorem lH (w:World) (arr:Array Value) (t:TypeId) (j:Nat):(w.alloc (.cells arr t)).cell? ⟨w.heap.size,j,none⟩=arr[j]?:=by
 unfold World.cell?;simp only[heap_alloc_new]
 rfl
theorem iG (w:World) (arr:Array Value) (t:TypeId) (j:Nat):(w.alloc (.cells arr t)).frozen? ⟨w.heap.size,j,none⟩=false:=by
 unfold World.frozen?;simp only[heap_alloc_new];simp
theorem add_lit (b o j:Nat):(⟨b,o,none⟩:Addr).add j=⟨b,o+j,none⟩:=kQ j rfl
theorem Ih (h:aq F A w0 φ st tm w) {d:Nat} (hw:nG d=true) {cs:List CE} {arr:Array Value} {t:TypeId} (hc:Nj st.ob w φ cs arr):
 aq F A w0 (φ.box d ⟨w.heap.size,0,none⟩) (vk d cs st) tm (w.alloc (.cells arr t)):=by
 have g:=gx.alloc w (.cells arr t);refine(h.Er g).vk hw rfl dh (fun o ho hS=> ?_) (fun hI=> ?_) (.inl h.frm.size) (fun b' cs' hb' _ e=> ?_) (fun j e he=> ?_) fun j hj=> ?_
 ·have:=(h.sep.fresh o _ ho hS).1;simp at this
 ·have:=(h.sep.ro _ hI).1;simp at this
 ·have:=(h.sep.spot b' cs' hb').2.1;rw[e] at this;simp at this
 ·obtain⟨x,h1,h2,h3⟩:=hc.2 j e he
  exact⟨x,by rw[add_lit,lH,eK];exact h1,h2,h.LR g h3⟩
 ·rw[add_lit];exact iG _ _ _ _
theorem Ii (h0:aq F A w0 φ st tm w) (h:aq F A w0 φ st' tm w) {dp:Bool} {z:Nat} {rows:List (List TC)} {vs:List Value} {X:Nat→Nat→Prop} {Z G:Nat→Prop} {d:Nat}
 (p:eH w φ st st' (bJ (if dp then .deep else .snap) rows.flatten vs) X Z) (hz:0<z) (ou: ∀r∈rows,r.length=z) (hl:vs.length=rows.length*z) {ad:Addr} {c:Nat} (hc:rows.length≤c) (KB:c≤maxLen) (hs:ad.spot=none)
 (hf:Fz F w0 w') (hsz:w.heap.size≤w'.heap.size) (hw: ∀k,k<w.heap.size→ ¬G k→w'.heap[k]?=w.heap[k]?) (hG: ∀k,G k→ ∃o,aj st.ob o∧ ¬aj st'.ob o∧φ.S o k)
 (QC: ∀k,Z k→ ¬G k∧k≠ad.block) (NX: ∀i k,i<rows.length*z→X i k→ ¬G k∧k≠ad.block) (hb:(w.heap.size≤ad.block∧ad.block<w'.heap.size)∨ ∃o,aj st.ob o∧ ¬aj st'.ob o∧φ.S o ad.block)
 (hcell: ∀(j:Nat) (v:Value),vs[j]?=some v→w'.cell? (ad.add j)=some v) (hall: ∀j,j<c*z→(∃x,w'.cell? ⟨ad.block,ad.off+j,none⟩=some x)∧w'.frozen? ⟨ad.block,ad.off+j,none⟩=false) (zY:1<z→ ∀i,w'.frozen? ⟨ad.block,i,none⟩=false) (hd:d<tm.size):
 Rel F A w0 (mg d ⟨dp,z,rows⟩ st') (tm.setIfInBounds d (.slice (some ad) rows.length c)) w':=by
 have kI: ∀{k},(∃o,aj st.ob o∧ ¬aj st'.ob o∧φ.S o k)→ ¬φ.I k:=fun⟨o,a1,a2,a3⟩=>h0.sep.read o _ a1 a3
 have kS: ∀{k},(∃o,aj st.ob o∧ ¬aj st'.ob o∧φ.S o k)→ ∀o',aj st'.ob o'→ ¬φ.S o' k:=fun⟨o,a1,a2,a3⟩ o' ho' hk=>by
  have:=h0.sep.apart o o' _ a1 (p.sub.dom ho') a3 hk;subst this;exact a2 ho'
 have kF: ∀{k},(∃o,aj st.ob o∧ ¬aj st'.ob o∧φ.S o k)→k<w.heap.size∧(w0.heap.size≤k∨F k):=fun⟨o,a1,a2,a3⟩=>h0.sep.fresh o _ a1 a3
 have kB: ∀{k},(∃o,aj st.ob o∧ ¬aj st'.ob o∧φ.S o k)→ ∀b cs,aa b st'.bx=some cs→(φ.β b).block≠k:=fun {k} ⟨o,a1,a2,a3⟩ b cs hb e=>by
  obtain⟨cs0,c0,_⟩:=p.sub.bx b cs hb
  cases r9:nG b with
  |true=>exact(h0.sep.box b cs0 c0 r9).2.1 o a1 (by rw[e];exact a3)
  |false=>
   have h1:=h0.sep.fz _ ((h0.sep.spot b cs0 c0).2.2 r9);rw[e] at h1;rcases (h0.sep.fresh o k a1 a3).2 with h3|h3
   ·omega
   ·exact h1.2 h3
 have h1:=h.wrote (w':=w') [] (fun _ _=>False) Z G hf hsz hw (fun k hk=>(kF (hG k hk)).2) (fun k hk=>kI (hG k hk)) (fun k o hk ho _=>kS (hG k hk) o ho) (fun b cs hb hk=>kB (hG _ hk) b cs hb rfl)
  (fun o b' hb'=>by simp[aa] at hb')
  (fun k hk=>⟨dI (kF (p.srcZ k hk)).1 hsz,(kF (p.srcZ k hk)).2.elim .inl fun hF=> .inr (.inl hF),fun o ho _=>kS (p.srcZ k hk) o ho,fun b cs hb _=>kB (p.srcZ k hk) b cs hb⟩)
 have hlen:(bJ (if dp then Mode.deep else .snap) rows.flatten vs).length=rows.length*z:=by rw[dx (by rw[aW ou,hl]),aW ou]
 have hrow:=p.row (w':=w') dp hz ou hl hc KB hs (fun i k hi hk=>(NX i k hi hk).2)
  (fun k hk=>by
    rcases hk with hk|hk
    ·exact hw k (h0.sep.ro k hk).1 fun hg=>kI (hG k hg) hk
    ·exact hw k (kF (p.srcZ k hk)).1 (QC k hk).1)
  (fun i k hi hk=>hw k (kF (p.src i k (by rw[hlen];exact hi) hk).2).1 (NX i k hi hk).1) hcell hall zY
 have Rm: ¬φ.I ad.block:=fun hI=>by
  rcases hb with⟨hb,_⟩|hb
  ·have:=(h0.sep.ro _ hI).1;omega
  ·exact kI hb hI
 have h2:=h1.qq (o:=jr d 0 0) (b:=⟨dp,z,rows⟩) (by unfold jr;omega) hrow (fun k hk=>by
  rcases hk with rfl|⟨i,hi,hk⟩
  ·rcases hb with⟨b1,b2⟩|hb
   ·exact⟨b2,.inl (kr h0.frm.size b1)⟩
   ·exact⟨dI (kF hb).1 hsz,(kF hb).2⟩
  ·have:=kF (p.src i k (by rw[hlen];exact hi) hk).2
   exact⟨dI this.1 hsz,this.2⟩)
  (fun k hk hI=>by
    rcases hk with rfl|⟨i,hi,hk⟩
    ·rcases hI with hI|hI
     ·exact Rm hI
     ·exact(QC _ hI).2 rfl
    ·have QD:=p.src i k (by rw[hlen];exact hi) hk
     rcases hI with hI|hI
     ·exact kI QD.2 hI
     ·exact QD.1 hI)
  (fun k o hk _ ho hS=>by
    have hS:φ.S o k:=hS;have ho:aj st'.ob o:=ho;rcases hk with rfl|⟨i,hi,hk⟩
    ·rcases hb with⟨b1,_⟩|hb
     ·have:=(h.sep.fresh o _ ho hS).1;omega
     ·exact kS hb o ho hS
    ·exact kS (p.src i k (by rw[hlen];exact hi) hk).2 o ho hS)
  (fun b cs hb' r9 hk=>by
    have hb':aa b st'.bx=some cs:=hb';rcases hk with e|⟨i,hi,hk⟩
    ·rcases hb with⟨b1,_⟩|hb
     ·have:=(h.sep.spot b cs hb').2.1
      have e:(φ.β b).block=ad.block:=e;omega
     ·exact kB hb b cs hb' e
    ·exact kB (p.src i _ (by rw[hlen];exact hi) hk).2 b cs hb' rfl)
 have h3:=h2.Ae (d:=d) (e:=one (.ref (jr d 0 0) none)) (v:= .slice (some ad) rows.length c) hd (BS rfl ⟨⟨dp,z,rows⟩,by
  show aa _ (fR _ _ _)=_
  exact eF,by simp[Fp.add]⟩)
 exact⟨_,h3⟩
theorem GD (h:aq F A w0 φ st tm w) {dp:Bool} {z d:Nat} (hz:0<z) (hd:d<tm.size):Rel F A w0 (mg d ⟨dp,z,[]⟩ st) (tm.setIfInBounds d (.slice none 0 0)) w:=by
 have h2:=h.qq (o:=jr d 0 0) (b:=⟨dp,z,[]⟩) (X:=vg) (v:= .slice none 0 0) (by unfold jr;omega) (mF hz) (fun k hk=>hk.elim) (fun k hk=>hk.elim) (fun k o hk=>hk.elim) (fun b cs _ _ hk=>hk)
 exact⟨_,h2.Ae (d:=d) (e:=one (.ref (jr d 0 0) none)) (v:= .slice none 0 0) hd (BS rfl ⟨⟨dp,z,[]⟩,by
  show aa _ (fR _ _ _)=_
  exact eF,by simp[Fp.add]⟩)⟩
theorem ah.parts (h:aq F A w0 φ st tm w) {o:Nat} (ho:aj st.ob o) {m M:Mode} {z:Nat} {rows:List (List TC)} {v:Value} (hr:ah w φ.I m (φ.S o) (.sub z rows) v) (hm:m≠ .snap) (hM:M= .snap∨M= .deep∧m= .deep):
 ∃vals X Z,vals.length=rows.length*z∧eH w φ st (fC o st) (bJ M rows.flatten vals) X Z∧ ∀ad n c,v= .slice (some ad) n c→(∀(j:Nat) (x:Value),vals[j]?=some x→w.cell? (ad.add j)=some x)∧(∀i k,X i k→k≠ad.block)∧ ∀k,Z k→k≠ad.block:=by
 cases hr with
 |sub _ _ _ _ Ad c u T k hn=>
  have hz:=k.z0;have ou:=k.width;have hsub:=bN.kill st o;have hfl:=aW ou
  have at_of: ∀{p:Nat} {tc:TC},rows.flatten[p]?=some tc→mB rows (p/z) (p % z)=some tc:=fun {p tc} hp=>by
   have hlt:p<rows.length*z:=by rw[←hfl];exact(List.getElem?_eq_some_iff.1 hp).1
   have hi:p/z<rows.length:=Nat.div_lt_of_lt_mul (by rw[Nat.mul_comm];exact hlt);have hrl:=ou _ (qo hi)
   have hf:p % z<(rows[p/z]).length:=by rw[hrl];exact Nat.mod_lt _ hz
   have h1:mB rows (p/z) (p % z)=some (rows[p/z][p % z]):=by simp[mB,aO hi,aO hf]
   have h2:=(lG ou h1).1;rw[tW p z] at h2;rw[h1,←h2,hp]
  have gT:aj st.ob o∧ ¬aj (fC o st).ob o:=⟨ho,fun hd=>(dN.1 hd).1 rfl⟩
  let vals:List Value:=(List.range (rows.length*z)).map fun p=>u (p/z) (p % z)
  have hvl:vals.length=rows.length*z:=by simp[vals]
  have hval: ∀{p:Nat} {x:Value},vals[p]?=some x→p<rows.length*z∧x=u (p/z) (p % z):=fun {p x} hp=>by
   have hlt:p<rows.length*z:=by rw[←hvl];exact(List.getElem?_eq_some_iff.1 hp).1
   refine⟨hlt,?_⟩;simp[vals,hlt] at hp;exact hp.symm
  have hcl:(bJ M rows.flatten vals).length=rows.length*z:=by rw[dx (by rw[hfl,hvl]),hfl]
  have hmem: ∀ad n c',Value.slice Ad rows.length c= .slice (some ad) n c'→ ∀(j:Nat) (x:Value),vals[j]?=some x→w.cell? (ad.add j)=some x:=fun ad n c' e j x hx=>by
   cases e
   obtain⟨hlt,rfl⟩:=hval hx;obtain⟨tc,KC⟩: ∃tc,rows.flatten[j]?=some tc:=⟨_,aO (by rw[hfl];exact hlt)⟩;have:=k.cell ad rfl _ _ tc (at_of KC);rw[tW j z] at this;exact this
  by_cases Bz:M= .deep
  ·subst Bz
   have CI:m= .deep:=by
    rcases hM with e|⟨_,e⟩
    ·cases e
    ·exact e
   subst CI;refine⟨vals,fun p b=>p<rows.length*z∧T (p/z) (p % z) b,fun _=>False,hvl,⟨fun i it hi=> ?_,fun i b hi hb=> ?_,fun b hb=>hb.elim,fun i j b hi hj hb hb'=> ?_,hsub⟩,fun ad n c' e=>⟨hmem ad n c' e,fun i b hb=> ?_,fun b hb=>hb.elim⟩⟩
   ·obtain⟨tc,x,h1,h2,rfl⟩:=fq hi
    obtain⟨hlt,rfl⟩:=hval h2;exact((hn _ _ tc (at_of h1)).gy fun b hb=> .inl hb).mono fun b hb=>⟨hlt,hb⟩
   ·exact⟨id,o,gT.1,gT.2,(k.gZ rfl _ _ b hb.2).1⟩
   ·obtain⟨e1,e2⟩:=(k.gZ rfl _ _ b hb.2).2.2 _ _ hb'.2
    rw[←tW i z,←tW j z,e1,e2]
   ·cases e
    exact(k.gZ rfl _ _ b hb.2).2.1 ad rfl
  ·have PT:M= .snap:=hM.elim id fun⟨e,_⟩=>absurd e Bz
   subst PT;refine⟨vals,fun _ _=>False,fun b=>m= .deep∧ ∃i f,T i f b,hvl,⟨fun i it hi=> ?_,fun i b hi hb=>hb.elim,fun b hb=> ?_,fun i j b hi hj hb=>hb.elim,hsub⟩,fun ad n c' e=>⟨hmem ad n c' e,fun i b hb=>hb.elim,fun b hb=> ?_⟩⟩
   ·obtain⟨tc,x,h1,h2,rfl⟩:=fq hi
    obtain⟨hlt,rfl⟩:=hval h2;exact(hn _ _ tc (at_of h1)).freeze (fun b hb=> .inl hb) fun hx b hb=> .inr ⟨kO hx,_,_,hb⟩
   ·obtain⟨CI,i,f,hb⟩:=hb
    exact⟨o,gT.1,gT.2,(k.gZ CI _ _ b hb).1⟩
   ·cases e
    obtain⟨CI,i,f,hb⟩:=hb;exact(k.gZ CI _ _ b hb).2.1 ad rfl
end Go.T
namespace Go.T
variable {F : Nat → Prop} {A : Arg} {w0 w w' : World} {φ φ' : Fp} {st st' bD gn : TS} {tm sO : Array Value} {C : e7}
variable {R : Type} {cf : Cf} {lp : Lp} {Q : R → Prop}
def Wr (st:TS) (φ:Fp) (l:List Nat) (k:Nat):Prop:=(∃b cs,2*b+1∈l∧aa b st.bx=some cs∧nG b=true∧k=(φ.β b).block)∨ ∃o,2*o∈l∧aj st.ob o∧φ.S o k
def Ec (C:e7) (F:Nat→Prop) (A:Arg) (w0:World) (φ:Fp) (st:TS) (o:Oper) (a:Act) (w:World) (K:TS→Ev R) (cf:Cf) (lp:Lp) (Q:R→Prop):Prop:=
 ∃nx v w' st',(execOp a.eval o).run C.P w= .ok nx w'∧(nx= .value v∨nx= .skip∧v=undef)∧Rel F A w0 st' (a.put o.dst v).tmps w'∧(K st').holds cf lp Q∧w.heap.size≤w'.heap.size∧
  ∀k,k<w.heap.size→ ¬Wr st φ (writes C st o) k→w'.heap[k]?=w.heap[k]?
theorem nS {i:ec} (h:nk i=true):known i=true∧ ∀e,i.ti≠ .ptr e:=by
 unfold nk at h;unfold known
 split at h<;>first|cases h|skip
 rename_i h1 h2;exact⟨by split<;>first|rfl|(rename_i e;exact absurd e h1),fun e he=>h2 e he⟩
theorem FN (hT:ct C) {a:Act} (h:aq F A w0 φ st a.tmps w) {o:Oper} {K:TS→Ev R} (hd: ∀d,o.dst=some d→d<a.tmps.size) (hk:(AO C st o K).holds cf lp Q):Ec C F A w0 φ st o a w K cf lp Q:=by
 unfold AO at hk
 cases ef:o.dst with
 |none=>rw[ef] at hk;exact hk.elim
 |some d=>
  rw[ef] at hk;obtain⟨v,e,h1,h2,h3,_⟩:=Dm hT h hk;exact⟨_,v,w,_,h1,.inl rfl,⟨φ,by rw[ef];exact h.Ae (hd d ef) h2⟩,h3,bE _,fun _ _ _=>rfl⟩
theorem Ij (hT:ct C) {a:Act} (h:aq F A w0 φ st a.tmps w) {o:Oper} {t:TypeId} (ho:o.op= .alloc t) {K:TS→Ev R} (hd: ∀d,o.dst=some d→d<a.tmps.size) (hk:(gv C st o K).holds cf lp Q):Ec C F A w0 φ st o a w K cf lp Q:=by
 unfold gv at hk;rw[ho] at hk;simp only at hk
 split at hk
 ·rename_i d ef hp
  split at hk
  ·rename_i hw
   obtain⟨hkn,hnp⟩:=nS hp;obtain⟨i,z,h1,h2,h3,h4,h5⟩:=BZ (w:=w) (φ:=φ) hT hkn hnp (ob:=st.ob)
   have hn:=(Ih h hw (t:=t) h4).Ae (d:=d) (e:= .bp d 0) (v:= .pointer (some ⟨w.heap.size,0,none⟩)) (hd d ef) (by
    show _=Value.pointer (some (((φ.box d ⟨w.heap.size,0,none⟩).β d).add 0))
    rw[lF,Addr.add_zero'])
   refine⟨.value (.pointer (some ⟨w.heap.size,0,none⟩)),_,_,_,?_,.inl rfl,⟨_,by rw[ef];exact hn⟩,hk,by simp,fun k hk _=>(gx.alloc w _).block k hk⟩;unfold execOp;rw[ho];simp[Instr.alloc,zeroValue,typeInfo,h1,h3,newVar,newRow]
  ·exact hk.elim
 ·exact hk.elim
theorem LS (hT:ct C) {a:Act} (h:aq F A w0 φ st a.tmps w) {o:Oper} {t:TypeId} {x:Operand} (ho:o.op= .box t x) {K:TS→Ev R} (hd: ∀d,o.dst=some d→d<a.tmps.size) (hk:(gv C st o K).holds cf lp Q):Ec C F A w0 φ st o a w K cf lp Q:=by
 unfold gv at hk;rw[ho] at hk;simp only at hk
 split at hk
 ·rename_i d cs ef hc
  split at hk
  ·rename_i hw
   have hcs:=jz (bM hT h t x) hc
   have hn:=(Ih h hw (t:=t) (arr:=(a.eval x).cells) hcs).Ae (d:=d) (e:= .bp d 0) (v:= .pointer (some ⟨w.heap.size,0,none⟩)) (hd d ef) (by
    show _=Value.pointer (some (((φ.box d ⟨w.heap.size,0,none⟩).β d).add 0))
    rw[lF,Addr.add_zero'])
   refine⟨.value (.pointer (some ⟨w.heap.size,0,none⟩)),_,_,_,?_,.inl rfl,⟨_,by rw[ef];exact hn⟩,hk,by simp,fun k hk _=>(gx.alloc w _).block k hk⟩;unfold execOp;rw[ho];simp[Instr.box,newVar,newRow]
  ·exact hk.elim
 ·exact hk.elim
theorem uz {P:Program} {tt:TypeId→ec} {t:TypeId} (h:rL P tt t) {ad:Addr} (hs:ad.spot=none) {v:Value} (hv:v.cells.size=(tt t).size) (h1: ∀x∈v.cells.toList,x.oneCell'=true)
 (hc: ∀j,j<v.cells.size→(w.cell? (ad.add j)).isSome=true∧w.frozen? (ad.add j)=false):(Instr.storeAt t (.pointer (some ad)) v).run P w= .ok () (w.setCells ad.block ad.off v.cells.toList):=by
 obtain⟨i,z,g1,g2,_⟩:=h.info;have wF: ∀j,ad.add j=⟨ad.block,ad.off+j,none⟩:=fun j=>kQ j hs;have hst:=run_storeCells_cells (P:=P) ad.block ad.off v.cells.toList 0 w (fun j hj=>by rw[jU,←wF];exact(hc j (by simpa using hj)).1) (fun j hj=>by rw[jU,←wF];exact(hc j (by simpa using hj)).2) h1
 have had:(⟨ad.block,ad.off,none⟩:Addr)=ad:=by cases ad;simp_all
 rw[had,jU] at hst;simp only[Instr.storeAt,Instr.sureAddr,storeVar,sizeOf,typeInfo,Sem.run_bind,Sem.run_pure,Result.andThen];simp[g1,g2,hv,hst]
theorem sx: ∀{cs:List CE},x9 cs=false→ ∀e∈cs,e≠ .gone
 |[],_,e,he=>by cases he
 |c::r,h,e,he=>by
  cases c with
  |gone=>cases h
  |_=>
   rcases bC.1 he with rfl|he
   ·simp
   ·exact sx (cs:=r) h e he
theorem rM.one {cs:List CE} {v:Value} (h:rM st.ob w φ cs v) (hb: ∀o b,aa o st.ob=some b→fD w φ o b) (hg:x9 cs=false): ∀x∈v.cells.toList,x.oneCell'=true:=by
 intro x hx;obtain⟨j,hj,rfl⟩:=List.mem_iff_getElem.1 hx
 have hj':j<cs.length:=by rw[←h.1];simpa using hj
 obtain⟨y,h1,_,h3⟩:=h.2 j _ (aO hj')
 have PU:j<v.cells.size:=by simpa using hj
 rw[lq PU] at h1;simp only[aE] at h1;rw[Array.getElem_toList,h1];exact GC h3 (sx hg _ (qo hj')) hb
theorem FO {α:Type} {old cs:List α} {off j:Nat} {e:α} (h:(old.take off++cs++old.drop (off+cs.length))[j]?=some e) (hle:off+cs.length≤old.length):
 (off≤j∧j<off+cs.length∧cs[j-off]?=some e)∨((j<off∨off+cs.length≤j)∧old[j]?=some e):=by
 have hto:(old.take off).length=off:=by rw[g7];omega
 rw[sj] at h
 by_cases h1:j<off
 ·rw[e9 az,wI,aY h1] at h
  exact .inr ⟨.inl h1,h⟩
 ·rw[fZ az,hto] at h
  by_cases h2:j<off+cs.length
  ·rw[e9 az] at h
   exact .inl ⟨by omega,h2,h⟩
  ·rw[fZ az,iL,show off+cs.length+(j-off-cs.length)=j by omega] at h
   exact .inr ⟨.inr az,h⟩
theorem sZ {α:Type} {old cs:List α} {off:Nat} (hle:off+cs.length≤old.length):(old.take off++cs++old.drop (off+cs.length)).length=old.length:=by
 simp only[cE,g7,pg];omega
theorem Du {a:Act} (hT:ct C) (h:aq F A w0 φ st a.tmps w) {o:Oper} {t:TypeId} {p x:Operand} (ho:o.op= .store t p x) (ef:o.dst=none) {cs:List CE} (hkn:known (C.tt t)=true) (hcs:rM st.ob w φ cs (a.eval x))
 (hsz:cs.length=(C.tt t).size) {b off:Nat} (hp:iZ C st 0 p= .bp b off) {st':TS} (hs:yz b off cs st=some st') {K:TS→Ev R} (hk:(K st').holds cf lp Q):Ec C F A w0 φ st o a w K cf lp Q:=by
 unfold yz at hs
 split at hs
 ·rename_i old hb
  split at hs
  ·rename_i QE hle
   cases hs
   have hle:=iX hle;simp only[cJ,o9] at QE;obtain⟨hw,hg⟩:=QE;have MV:=bM hT h 0 p;rw[hp] at MV;have MV:a.eval p= .pointer (some ((φ.β b).add off)):=MV;have kH:=(h.sep.spot b old hb).1 hw;have wF: ∀j,(φ.β b).add j=⟨(φ.β b).block,(φ.β b).off+j,none⟩:=fun j=>kQ j kH;obtain⟨bx1,bx2,bx3,bx4⟩:=h.sep.box b old hb hw;have G8:(a.eval x).cells.size=cs.length:=hcs.1
   have hrun:=uz (w:=w) (hT t hkn) (ad:=(φ.β b).add off) (qB off kH) (v:=a.eval x) (by rw[G8,hsz]) (hcs.one h.obj hg) (fun j hj=>by
    rw[Addr.add_add]
    have hj:off+j<old.length:=by rw[G8] at hj;omega
    obtain⟨v,c1,_⟩:=h.box b old hb (off+j) _ (aO hj)
    exact⟨by rw[c1];rfl,h.sep.soft b old (off+j) hb hw hj⟩)
   rw[aQ,wF off] at hrun;simp only at hrun;have tQ: ∀k,k<w.heap.size→k≠(φ.β b).block→(w.setCells (φ.β b).block ((φ.β b).off+off) (a.eval x).cells.toList).heap[k]?=w.heap[k]?:=fun k hk hne=>cg _ _ _ _ hk hne;have hlt:(φ.β b).block<w.heap.size:=(h.sep.spot b old hb).2.1
   have hnew:=h.vj (w':=w.setCells (φ.β b).block ((φ.β b).off+off) (a.eval x).cells.toList) hb hw (sZ hle) (h.frm.setCells bx3) (by rw[(fe _ _ _ _).2.2.2];exact bE _) tQ
    (fun j hj=>by rw[World.frozen?_setCells];exact h.sep.soft b old j hb hw (by rw[sZ hle] at hj;exact hj))
    (fun j e he=>by
      rcases FO he hle with⟨l1,l2,l3⟩|⟨l1,l2⟩
      ·obtain⟨y,y1,y2,y3⟩:=hcs.2 _ e l3
       have hin:=World.cell?_setCells_in (φ.β b).block (a.eval x).cells.toList ((φ.β b).off+off) w (fun j' hj'=>by
        have hj':j'<cs.length:=by rw[←G8];simpa using hj'
        obtain⟨v,c1,_⟩:=h.box b old hb (off+j') _ (aO az);rw[wF] at c1
        rw[show(φ.β b).off+off+j'=(φ.β b).off+(off+j') by omega,c1];rfl) (j-off) (by rw[nH,G8];omega)
       refine⟨y,?_,y2,y3⟩;rw[wF,show(φ.β b).off+j=(φ.β b).off+off+(j-off) by omega,hin]
       have PU:j-off<(a.eval x).cells.size:=by rw[G8];omega
       rw[lq PU] at y1;rw[Array.getElem_toList,←y1]
      ·obtain⟨v,c1,c2,c3⟩:=h.box b old hb j e l2
       refine⟨v,?_,c2,c3⟩;rw[World.cell?_setCells_out]
       ·exact c1
       ·intro _ _
        rw[wF,nH,G8];simp only
        omega)
   refine⟨.skip,undef,_,_,?_,.inr ⟨rfl,rfl⟩,⟨φ,by rw[ef];exact hnew⟩,hk,by rw[(fe _ _ _ _).2.2.2];exact bE _,fun k hk KD=> ?_⟩
   ·unfold execOp
    rw[ho];simp only[Sem.run_bind,MV,wF,hrun,Result.andThen]
    rfl
   ·refine tQ k hk fun e=>KD (.inl ⟨b,old,?_,hb,hw,e⟩)
    unfold writes;rw[ho];simp only[hp];exact .head _
  ·cases hs
 ·cases hs
end Go.T
namespace Go.T
variable {F : Nat → Prop} {A : Arg} {w0 w w' : World} {φ φ' : Fp} {st st' bD gn : TS} {tm sO : Array Value} {C : e7}
variable {R : Type} {cf : Cf} {lp : Lp} {Q : R → Prop}
def iq (rows:List (List TC)) (i f:Nat) (cs:List TC):List (List TC):=match rows[i]? with
 |some r=>rows.set i (r.take f++cs++r.drop (f+cs.length))
 |none=>rows
attribute [local semireducible] setRow in
theorem jE (rows:List (List TC)) (i:Int) (f:Nat) (cs:List TC):setRow rows i f cs=iq rows i.toNat f cs:=rfl
theorem dR (rows:List (List TC)) (i f:Nat) (cs:List TC):(iq rows i f cs).length=rows.length:=by
 unfold iq;split<;>simp
theorem oJ {rows:List (List TC)} {i f:Nat} {cs row:List TC} (hrow:rows[i]?=some row) (hf:f+cs.length≤row.length) {i' f':Nat} {tc:TC} (h:mB (iq rows i f cs) i' f'=some tc):
 (i'=i∧f≤f'∧f'<f+cs.length∧cs[f'-f]?=some tc)∨((i'≠i∨f'<f∨f+cs.length≤f')∧mB rows i' f'=some tc):=by
 unfold iq at h;simp only[hrow] at h
 by_cases hi:i'=i
 ·subst hi
  have hlt:=(List.getElem?_eq_some_iff.1 hrow).1;simp only[mB,List.getElem?_set_self hlt,Option.bind_some] at h;rcases FO h hf with⟨a,b,c⟩|⟨a,b⟩
  ·exact .inl ⟨rfl,a,b,c⟩
  ·exact .inr ⟨.inr a,by simp[mB,hrow,b]⟩
 ·simp only[mB,List.getElem?_set_ne (Ne.symm hi)] at h
  exact .inr ⟨.inl hi,h⟩
theorem uA {z:Nat} {rows:List (List TC)} (hw: ∀r∈rows,r.length=z) {i f:Nat} {cs row:List TC} (hrow:rows[i]?=some row) (hf:f+cs.length≤row.length): ∀r∈iq rows i f cs,r.length=z:=by
 intro r hr;unfold iq at hr;simp only[hrow] at hr;rcases List.mem_or_eq_of_mem_set hr with hr|rfl
 ·exact hw r hr
 ·rw[sZ hf];exact hw row (dw hrow)
theorem ah.mono' {w:World} {Rd S S':Nat→Prop} {m:Mode} {t:TC} {v:Value} (h:ah w Rd m S t v) (hS:m≠ .snap→ ∀b,S b→S' b):ah w Rd m S' t v:=by
 by_cases hm:m= .snap
 ·subst hm;exact h.gU fun _ h=>h
 ·exact h.mono (hS hm)
theorem ah.GF {w w':World} {Rd S:Nat→Prop} {t:TC} {v:Value} (h:ah w Rd .deep S t v) (hS: ∀b,S b→w'.heap[b]?=w.heap[b]?):ah w' Rd .deep S t v:=
 (((h.sw rfl:ah w vg .deep S t v).move (R':=vg) (fun _ h=>h.elim) fun _=>hS).sw rfl:ah w' Rd .deep S t v)
theorem ah.put {Rd S:Nat→Prop} {m:Mode} {z n c:Nat} {rows:List (List TC)} {ad:Addr} (h:ah w Rd m S (.sub z rows) (.slice (some ad) n c)) (hm:m≠ .snap) {i f:Nat} {ts row:List TC} (hrow:rows[i]?=some row) (hf:f+ts.length≤row.length)
 {vs:List Value} (hl:vs.length=ts.length) (h1: ∀v∈vs,v.oneCell'=true) {X:Nat→Nat→Prop} (hX: ∀(j:Nat) (t:TC) (v:Value),ts[j]?=some t→vs[j]?=some v→ah w Rd m.nx (X j) t v)
 (OV:m= .deep→ ∀j k,j<ts.length→X j k→ ¬S k∧ ∀j',j'<ts.length→X j' k→j'=j) (OW: ∀k,Rd k→k<w.heap.size∧k≠ad.block) (hS: ∀k,S k→k<w.heap.size) (Rn: ∀j k,j<ts.length→X j k→k<w.heap.size):
 ad.spot=none∧S ad.block∧(∀j,j<vs.length→(w.cell? (ad.add (i*z+f+j))).isSome=true∧w.frozen? (ad.add (i*z+f+j))=false)∧
 ah (w.setCells ad.block (ad.off+(i*z+f)) vs) Rd m (fun k=>S k∨(m= .deep∧ ∃j,j<ts.length∧X j k)) (.sub z (iq rows i f ts)) (.slice (some ad) n c):=by
 cases h with
 |sub _ _ _ _ _ _ u T k hn=>
  have hlt:=(List.getElem?_eq_some_iff.1 hrow).1;have hrl:=k.width row (dw hrow);obtain⟨Lf,kH,hall⟩:=(k.own hm).2 ad rfl;have wF: ∀j,ad.add j=⟨ad.block,ad.off+j,none⟩:=fun j=>kQ j kH
  have inb: ∀j,j<ts.length→i*z+f+j<c*z:=fun j hj=>by
   have:i*z+f+j<(i+1)*z:=by rw[jT];omega
   exact dI this (iM _ (by have:=k.len;omega))
  have there: ∀j,j<vs.length→(w.cell? (ad.add (i*z+f+j))).isSome=true∧w.frozen? (ad.add (i*z+f+j))=false:=fun j hj=>by
   obtain⟨⟨x,hx⟩,hfz⟩:=hall (i*z+f+j) (inb j az);rw[wF];exact⟨by rw[hx];rfl,hfz⟩
  have tQ: ∀b,b<w.heap.size→b≠ad.block→(w.setCells ad.block (ad.off+(i*z+f)) vs).heap[b]?=w.heap[b]?:=fun b hb hne=>cg _ _ _ _ hb hne;have QF: ∀j b,j<ts.length→m= .deep→X j b→b≠ad.block:=fun j b hj CI hb e=>(OV CI j b hj hb).1 (by rw[e];exact Lf)
  have hin: ∀j (hj:j<vs.length),(w.setCells ad.block (ad.off+(i*z+f)) vs).cell? (ad.add (i*z+f+j))=some vs[j]:=fun j hj=>by
   have:=World.cell?_setCells_in ad.block vs (ad.off+(i*z+f)) w (fun j' hj'=>by
    have:=(there j' hj').1;rw[wF] at this
    rw[show ad.off+(i*z+f)+j'=ad.off+(i*z+f+j') by omega];exact this) j hj
   rw[wF,show ad.off+(i*z+f+j)=ad.off+(i*z+f)+j by omega];exact this
  have hout: ∀p,(p<i*z+f∨i*z+f+vs.length≤p)→(w.setCells ad.block (ad.off+(i*z+f)) vs).cell? (ad.add p)=w.cell? (ad.add p):=fun p hp=>by
   refine World.cell?_setCells_out _ _ _ _ _ fun _ _=> ?_;rw[wF];simp only;omega
  refine⟨kH,Lf,there,?_⟩
  let inr:Nat→Nat→Prop:=fun i' f'=>i'=i∧f≤f'∧f'<f+ts.length
  have dec: ∀i' f',Decidable (inr i' f'):=fun _ _=>inferInstanceAs (Decidable (_∧_∧_))
  have key:=ah.sub (w:=w.setCells ad.block (ad.off+(i*z+f)) vs) (R:=Rd) m (fun b=>S b∨(m= .deep∧ ∃j,j<ts.length∧X j b)) z (iq rows i f ts) (some ad) c
   (fun i' f'=>if i'=i∧f≤f'∧f'<f+ts.length then vs.getD (f'-f) undef else u i' f') (fun i' f' b=>if i'=i∧f≤f'∧f'<f+ts.length then m= .deep∧X (f'-f) b else T i' f' b) ?_ ?_
  ·rw[dR] at key;exact key
  ·refine⟨by rw[dR];exact k.len,k.cap,k.z0,uA k.width hrow hf,fun _=>⟨ad,rfl⟩,?_,fun e=>absurd e hm,fun _=>⟨fun e=>(by cases e),?_⟩,fun hm G6 ad' e i=>(by cases e;rw[World.frozen?_setCells];exact k.soft hm G6 ad rfl i),?_⟩
   ·intro ad' e i' f' tc ht
    cases e
    rcases oJ hrow hf ht with⟨rfl,a,b,hc⟩|⟨hn',hc⟩
    ·rw[aY ⟨rfl,a,b⟩]
     have hj:f'-f<vs.length:=by omega
     have:=hin (f'-f) hj;rw[show i'*z+f+(f'-f)=i'*z+f' by omega] at this;rw[this];simp[List.getD,aO hj]
    ·rw[aH az]
     rw[hout]
     ·exact k.cell ad rfl i' f' tc hc
     ·obtain⟨_,hf',_⟩:=lG k.width hc
      by_cases hi:i'=i
      ·subst hi;omega
      ·rcases Nat.lt_or_gt_of_ne hi with hi|hi
       ·left
        have:i'*z+z≤i*z:=by rw[←yt];exact iM _ hi
        omega
       ·right
        have:i*z+z≤i'*z:=by rw[←yt];exact iM _ hi
        omega
   ·intro ad' e
    cases e
    refine⟨.inl Lf,kH,fun j hj=> ?_⟩;obtain⟨⟨x,hx⟩,hfz⟩:=hall j hj;refine⟨?_,by rw[World.frozen?_setCells];exact hfz⟩;have:=World.isSome_setCells ad.block vs (ad.off+(i*z+f)) w ⟨ad.block,ad.off+j,none⟩ (by rw[hx];rfl);exact Option.isSome_iff_exists.1 this
   ·intro CI i' f' b hb
    by_cases hr:i'=i∧f≤f'∧f'<f+ts.length
    ·rw[aY hr] at hb
     have hj:f'-f<ts.length:=by omega
     refine⟨.inr ⟨CI,_,hj,hb.2⟩,fun ad' e=>(by cases e;exact QF _ b hj CI hb.2),fun i2 f2 hb2=> ?_⟩
     by_cases BA:i2=i∧f≤f2∧f2<f+ts.length
     ·rw[aY BA] at hb2
      have:=(OV CI _ b hj hb.2).2 _ az hb2.2;omega
     ·rw[aH BA] at hb2
      exact absurd (k.gZ CI i2 f2 b hb2).1 (OV CI _ b hj hb.2).1
    ·rw[aH hr] at hb
     obtain⟨d1,d2,d3⟩:=k.gZ CI i' f' b hb;refine⟨.inl d1,d2,fun i2 f2 hb2=> ?_⟩
     by_cases BA:i2=i∧f≤f2∧f2<f+ts.length
     ·rw[aY BA] at hb2
      exact absurd d1 (OV CI _ b az hb2.2).1
     ·rw[aH BA] at hb2
      exact d3 i2 f2 hb2
  ·intro i' f' tc ht
   rcases oJ hrow hf ht with⟨rfl,a,b',hc⟩|⟨hn',hc⟩
   ·rw[aY ⟨rfl,a,b'⟩]
    have hj:f'-f<vs.length:=by omega
    have hx:=hX (f'-f) tc vs[f'-f] hc (aO hj)
    have hv:vs.getD (f'-f) undef=vs[f'-f]:=by simp[List.getD,aO hj]
    rw[hv];refine(ah.move hx (fun b hb=>⟨hb,tQ b (OW b hb).1 (OW b hb).2⟩) fun NY b hb=>tQ b (Rn _ b az hb) (QF _ b az (kO NY) hb)).mono' fun NY b hb=> ?_;rw[aY ⟨rfl,a,b'⟩];exact⟨kO NY,hb⟩
   ·rw[aH az]
    refine(ah.move (hn i' f' tc hc) (fun b hb=>⟨hb,tQ b (OW b hb).1 (OW b hb).2⟩) fun NY b hb=> ?_).mono fun b hb=>by rw[aH az];exact hb
    obtain⟨d1,d2,_⟩:=k.gZ (kO NY) i' f' b hb;exact tQ b (hS b d1) (d2 ad rfl)
theorem ah.inner {Rd S:Nat→Prop} {z n c:Nat} {rows:List (List TC)} {ad:Addr} (h:ah w Rd .deep S (.sub z rows) (.slice (some ad) n c)) {i f:Nat} {tc:TC} (ht:mB rows i f=some tc):
 ∃V1 T0,w.cell? (ad.add (i*z+f))=some V1∧ah w Rd .deep T0 tc V1∧(∀k,T0 k→S k∧k≠ad.block)∧S ad.block∧
  ∀(w':World) (tc':TC) (T1:Nat→Prop),ah w' Rd .deep T1 tc' V1→(∀k,S k→ ¬T0 k→w'.heap[k]?=w.heap[k]?)→(∀k,T1 k→T0 k∨ ¬S k)→
   ah w' Rd .deep (fun k=>(S k∧ ¬T0 k)∨T1 k) (.sub z (iq rows i f [tc'])) (.slice (some ad) n c):=by
 cases h with
 |sub _ _ _ _ _ _ u T k hn=>
  obtain⟨row,hrow,hfr⟩: ∃row,rows[i]?=some row∧row[f]?=some tc:=by
   unfold mB at ht
   cases hr:rows[i]? with
   |none=>rw[hr] at ht;cases ht
   |some row=>rw[hr] at ht;exact⟨row,rfl,ht⟩
  have hf:f+1≤row.length:=(List.getElem?_eq_some_iff.1 hfr).1;obtain⟨Lf,kH,hall⟩:=(k.own dh).2 ad rfl;have OX: ∀b,T i f b→S b∧b≠ad.block:=fun b hb=>⟨(k.gZ rfl i f b hb).1,(k.gZ rfl i f b hb).2.1 ad rfl⟩;refine⟨u i f,T i f,k.cell ad rfl i f tc ht,hn i f tc ht,OX,Lf,fun w' tc' T1 h1 hsame PV=> ?_⟩;have Aa:w'.heap[ad.block]?=w.heap[ad.block]?:=hsame _ Lf fun hb=>(OX _ hb).2 rfl;have key:=ah.sub (w:=w') (R:=Rd) .deep (fun b=>(S b∧ ¬T i f b)∨T1 b) z (iq rows i f [tc']) (some ad) c u (fun i' f' b=>if i'=i∧f'=f then T1 b else T i' f' b) ?_ ?_
  ·rw[dR] at key;exact key
  ·refine⟨by rw[dR];exact k.len,k.cap,k.z0,uA k.width hrow hf,fun _=>⟨ad,rfl⟩,?_,fun e=>(by cases e),fun _=>⟨fun e=>(by cases e),?_⟩,fun hm G6 ad' e i=>(by cases e;rw[eu (w:=w) (a:=⟨ad.block,i,none⟩) Aa];exact k.soft dh G6 ad rfl i),?_⟩
   ·intro ad' e i' f' t' ht'
    cases e
    rw[bZ (w:=w) (by rw[aQ];exact Aa)];rcases oJ hrow hf ht' with⟨rfl,a,b,hc⟩|⟨_,hc⟩
    ·have:f'=f:=by simp at b;omega
     subst this;exact k.cell ad rfl _ _ tc ht
    ·exact k.cell ad rfl i' f' t' hc
   ·intro ad' e
    cases e
    refine⟨.inl ⟨Lf,fun hb=>(OX _ hb).2 rfl⟩,kH,fun j hj=> ?_⟩;obtain⟨⟨x,hx⟩,hfz⟩:=hall j hj;exact⟨⟨x,by rw[bZ (w:=w) (by exact Aa)];exact hx⟩,by rw[eu (w:=w) (by exact Aa)];exact hfz⟩
   ·intro _ i' f' b hb
    by_cases hr:i'=i∧f'=f
    ·rw[aY hr] at hb
     have hne:b≠ad.block:=fun e=>by
      subst e;rcases PV _ hb with h|h
      ·exact(OX _ h).2 rfl
      ·exact h Lf
     refine⟨.inr hb,fun ad' e=>(by cases e;exact hne),fun i2 f2 hb2=> ?_⟩
     by_cases BA:i2=i∧f2=f
     ·exact⟨BA.1.trans hr.1.symm,BA.2.trans hr.2.symm⟩
     ·rw[aH BA] at hb2
      rcases PV _ hb with h|h
      ·have:=(k.gZ rfl i2 f2 b hb2).2.2 i f h
       exact absurd ⟨this.1.symm,this.2.symm⟩ BA
      ·exact absurd (k.gZ rfl i2 f2 b hb2).1 h
    ·rw[aH hr] at hb
     obtain⟨d1,d2,d3⟩:=k.gZ rfl i' f' b hb;refine⟨.inl ⟨d1,fun hb0=>hr (by have:=d3 i f hb0;exact⟨this.1.symm,this.2.symm⟩)⟩,d2,fun i2 f2 hb2=> ?_⟩
     by_cases BA:i2=i∧f2=f
     ·rw[aY BA] at hb2
      rcases PV _ hb2 with h|h
      ·have:=d3 i f h
       exact absurd ⟨this.1.symm,this.2.symm⟩ hr
      ·exact absurd d1 h
     ·rw[aH BA] at hb2
      exact d3 i2 f2 hb2
  ·intro i' f' t' ht'
   rcases oJ hrow hf ht' with⟨rfl,a,b,hc⟩|⟨hn',hc⟩
   ·have:f'=f:=by simp at b;omega
    subst this;simp at hc;subst hc
    exact h1.mono fun b hb=>by rw[aY ⟨rfl,rfl⟩];exact hb
   ·have hr: ¬(i'=i∧f'=f):=by simp at hn';omega
    refine(ah.GF (hn i' f' t' hc) fun b hb=> ?_).mono fun b hb=>by rw[aH hr];exact hb
    obtain⟨d1,d2,d3⟩:=k.gZ rfl i' f' b hb;exact hsame b d1 fun hb0=>hr (by have:=d3 i f hb0;exact⟨this.1.symm,this.2.symm⟩)
end Go.T
namespace Go.T
variable {F : Nat → Prop} {A : Arg} {w0 w w' : World} {φ φ' : Fp} {st st' bD gn : TS} {tm sO : Array Value} {C : e7}
variable {R : Type} {cf : Cf} {lp : Lp} {Q : R → Prop}
structure jt (F:Nat→Prop) (w0 w:World) (φ:Fp) (st:TS) (k:Nat):Prop where
 lt:k<w.heap.size
 new:w0.heap.size≤k∨F k
 I: ¬φ.I k
 S: ∀o,aj st.ob o→ ¬φ.S o k
 B: ∀b cs,aa b st.bx=some cs→(φ.β b).block≠k
theorem aq.fU (h:aq F A w0 φ st tm w) {o k:Nat} (ho:aj st.ob o) (hk:φ.S o k) {b:Nat} {cs:List CE} (hb:aa b st.bx=some cs):(φ.β b).block≠k:=fun e=>by
 subst e
 cases r9:nG b with
 |true=>exact(h.sep.box b cs hb r9).2.1 o ho hk
 |false=>
  have h1:=h.sep.fz _ ((h.sep.spot b cs hb).2.2 r9);rcases (h.sep.fresh o _ ho hk).2 with h3|h3
  ·omega
  ·exact h1.2 h3
theorem aq.free (h:aq F A w0 φ st tm w) (hs:bN st' st) {k:Nat} (hk: ∃o,aj st.ob o∧ ¬aj st'.ob o∧φ.S o k):jt F w0 w φ st' k:=by
 obtain⟨o,a1,a2,a3⟩:=hk
 exact⟨(h.sep.fresh o k a1 a3).1,(h.sep.fresh o k a1 a3).2,h.sep.read o k a1 a3,fun o' ho' hk=>by
  have:=h.sep.apart o o' k a1 (hs.dom ho') a3 hk
  subst this;exact a2 ho',fun b cs hb=>by
  obtain⟨cs0,c0,_⟩:=hs.bx b cs hb
  exact h.fU a1 a3 c0⟩
theorem Dv (h:aq F A w0 φ st tm w) (h1:aq F A w0 φ bD tm w) {bA:List It} {X:Nat→Nat→Prop} {Zp:Nat→Prop} (p:eH w φ st bD bA X Zp) {r:Nat} {B b':OB} (hr:aa r bD.ob=some B) (hz:b'.z=B.z) (hl:b'.rows.length=B.rows.length)
 {Zt Xr:Nat→Prop} {gb off:Nat} {vs:List Value} (hg:φ.S r gb) (Ro: ∀k,Xr k→ ¬Zt k∧(φ.S r k∨ ∃j,j<bA.length∧X j k)) (Rq: ∀k,Zt k→Zp k∨φ.S r k)
 (hc:ah (w.setCells gb off vs) (fun k=>φ.I k∨Zt k) b'.m Xr (.sub b'.z b'.rows) (φ.V r)):Rel F A w0 (j8 [(r,b')] bD) tm (w.setCells gb off vs):=by
 have hin:aj bD.ob r:=⟨_,hr⟩;have hsize:=(fe gb vs off w).2.2.2
 have lookW: ∀{o b},aa o [(r,b')]=some b→o=r∧b=b':=fun {o b} ho=>by
  simp only[aa] at ho
  cases hb:Nat.beq r o with
  |true=>rw[hb] at ho;cases ho;exact⟨(cY hb).symm,rfl⟩
  |false=>rw[hb] at ho;cases ho
 have neW: ∀{o},aa o [(r,b')]=none→o≠r:=fun {o} ho e=>by subst e;simp[aa] at ho
 have frS: ∀{k},φ.S r k→k<w.heap.size∧(w0.heap.size≤k∨F k)∧ ¬φ.I k∧(∀d,aj bD.ob d→aa d [(r,b')]=none→ ¬φ.S d k)∧ ∀b cs,aa b bD.bx=some cs→(φ.β b).block≠k:=fun {k} hk=>
  ⟨(h1.sep.fresh r k hin hk).1,(h1.sep.fresh r k hin hk).2,h1.sep.read r k hin hk,fun d hd hn hk'=>neW hn (h1.sep.apart d r k hd hin hk' hk),fun b cs hb=>h1.fU hin hk hb⟩
 refine⟨_,h1.wrote (w':=w.setCells gb off vs) [(r,b')] (fun _ k=>Xr k) Zt (fun k=>k=gb) (h1.frm.setCells (frS hg).2.1) (by rw[hsize];exact bE _) (fun k hk hn=>cg _ _ _ _ hk hn)
  (fun k e=>by subst e;exact(frS hg).2.1) (fun k e=>by subst e;exact(frS hg).2.2.1) (fun k o e ho hn=>by subst e;exact(frS hg).2.2.2.1 o ho hn) (fun b cs hb e=>(frS hg).2.2.2.2 b cs hb e) (fun o b ho=> ?_) (fun k hk=> ?_)⟩
 ·obtain⟨rfl,rfl⟩:=lookW ho
  refine⟨B,hr,hz,hl,hc,fun k hk=> ?_⟩;obtain⟨x1,x2⟩:=Ro k hk;rcases x2 with x2|⟨j,hj,x2⟩
  ·obtain⟨f1,f2,f3,f4,f5⟩:=frS x2
   exact⟨by rw[hsize];exact f1,f2,f3,x1,f4,fun d b hb _=>(lookW hb).1,fun b cs hb _=>f5 b cs hb⟩
  ·have fr:=h.free p.sub (p.src j k hj x2).2
   exact⟨by rw[hsize];exact fr.lt,fr.new,fr.I,x1,fun d hd _=>fr.S d hd,fun d b hb _=>(lookW hb).1,fun b cs hb _=>fr.B b cs hb⟩
 ·rcases Rq k hk with hz|hz
  ·have fr:=h.free p.sub (p.srcZ k hz)
   exact⟨by rw[hsize];exact fr.lt,fr.new.elim .inl fun hF=> .inr (.inl hF),fun d hd _=>fr.S d hd,fun b cs hb _=>fr.B b cs hb⟩
  ·obtain⟨f1,f2,f3,f4,f5⟩:=frS hz
   exact⟨by rw[hsize];exact f1,f2.elim .inl fun hF=> .inr (.inl hF),f4,fun b cs hb _=>f5 b cs hb⟩
theorem ta {a:Act} (hT:ct C) (h:aq F A w0 φ st a.tmps w) {o:Oper} {t:TypeId} {q x:Operand} (ho:o.op= .store t q x) (ef:o.dst=none) {cs:List CE} (hkn:known (C.tt t)=true) (hcs:rM st.ob w φ cs (a.eval x))
 (hsz:cs.length=(C.tt t).size) {r:Nat} {path:Option (Int×Nat)} {i:Int} {f:Nat} (hq:iZ C st 0 q= .er r path i f) {K:TS→Ev R} (hk:(uc r path i f cs st K).holds cf lp Q):Ec C F A w0 φ st o a w K cf lp Q:=by
 have NZ:=bM hT h 0 q;rw[hq] at NZ;obtain⟨b,hb,hi,ad,n,c,hV,Lg⟩:=NZ;unfold uc at hk
 split at hk
 ·rename_i ts bD d1 hab
  split at hk
  ·rename_i d z rows CQ
   have vlen:(a.eval x).cells.toList.length=cs.length:=by simpa using hcs.1
   have hce: ∀(j:Nat) (e:CE),cs[j]?=some e→ ∃v,(a.eval x).cells.toList[j]?=some v∧bn st.ob w φ e v:=fun j e he=>by
    obtain⟨y,y1,_,y3⟩:=hcs.2 j e he;exact⟨y,by simpa using y1,y3⟩
   have fin: ∀{ad':Addr} {b':OB},a.eval q= .pointer (some ad')→ad'.spot=none→(∀j,j<(a.eval x).cells.size→(w.cell? (ad'.add j)).isSome=true∧w.frozen? (ad'.add j)=false)→(∀y∈(a.eval x).cells.toList,y.oneCell'=true)→φ.S r ad'.block→
    Rel F A w0 (j8 [(r,b')] bD) a.tmps (w.setCells ad'.block ad'.off (a.eval x).cells.toList)→(K (j8 [(r,b')] bD)).holds cf lp Q→Ec C F A w0 φ st o a w K cf lp Q:=fun {ad' b'} hv hs hc h1 hS lY hk=>by
    have hrun:=uz (w:=w) (hT t hkn) hs (v:=a.eval x) (by rw[hcs.1,hsz]) h1 hc;refine⟨.skip,undef,_,_,?_,.inr ⟨rfl,rfl⟩,by rw[ef];exact lY,hk,by rw[(fe _ _ _ _).2.2.2];exact bE _,fun k hk KD=> ?_⟩
    ·unfold execOp
     rw[ho];simp only[Sem.run_bind,hv,hrun,Result.andThen]
     rfl
    ·refine cg _ _ _ _ hk fun e=>KD (.inr ⟨r,?_,⟨b,hb⟩,by rw[e];exact hS⟩)
     unfold writes;rw[ho];simp only[hq];exact .head _
   have one: ∀{M:Mode} {X:Nat→Nat→Prop} {Z:Nat→Prop},ts.length=cs.length→eH w φ st bD (bJ M ts (a.eval x).cells.toList) X Z→ ∀y∈(a.eval x).cells.toList,y.oneCell'=true:=fun {M X Z} hl p y hy=>by
    obtain⟨j,hj,rfl⟩:=List.mem_iff_getElem.1 hy;exact jD (p.ok j _ (fJ (aO az) (aO hj)))
   cases path with
   |none=>
    simp only at hk;obtain⟨row,hrow,hk⟩:=hk;obtain⟨_,hrow⟩:=iF hrow;simp only at hk
    split at hk
    ·rename_i hle
     have hle:=iX hle
     obtain⟨h1,hl,hsub,os,tk⟩:=rO (if d&&d1 then .deep else .snap) cs st _ ts bD d1 h (bN.refl _) vlen hce (by
      cases hd:d&&d1 with
      |true=>simp only[cJ] at hd;exact .inr ⟨hd.2,rfl⟩
      |false=>exact .inl rfl) hab
     obtain⟨X,Zp,p⟩:=tk.parts h;have:=hsub.ob r _ CQ;rw[hb] at this
     cases this
     have hO:=h1.obj r _ CQ;unfold fD at hO;rw[hV] at hO;have hin:aj bD.ob r:=⟨_,CQ⟩;have hlen:(bJ (if(d&&d1)=true then Mode.deep else .snap) ts (a.eval x).cells.toList).length=ts.length:=dx az;have itm: ∀(j:Nat) (tc:TC) (v:Value),ts[j]?=some tc→(a.eval x).cells.toList[j]?=some v→ah w (fun k=>φ.I k∨Zp k) (if(d&&d1)=true then Mode.deep else .snap) (X j) tc v:=fun j tc v e1 e2=>p.ok j _ (fJ e1 e2);have zW:a.eval q= .pointer (some (ad.add (i.toNat*z+f))):=Lg
     obtain⟨Zt,Sr,g1,g2,g3,g4,g5⟩: ∃Zt Sr:Nat→Prop,ah w (fun k=>φ.I k∨Zt k) (OB.m ⟨d&&d1,z,setRow rows i f ts⟩) Sr (.sub z rows) (.slice (some ad) n c)∧(∀k,Sr k→φ.S r k∧ ¬Zt k)∧(∀k,Zt k→(Zp k∨φ.S r k)∧k≠ad.block)∧
      (∀(j:Nat) (tc:TC) (v:Value),ts[j]?=some tc→(a.eval x).cells.toList[j]?=some v→ah w (fun k=>φ.I k∨Zt k) (OB.m ⟨d&&d1,z,setRow rows i f ts⟩).nx (X j) tc v)∧((d&&d1)=true→ ∀k,Zt k→Zp k):=by
      have adS:φ.S r ad.block:=by
       cases hO with
       |sub _ _ _ _ _ _ u T k hn=>exact(k.own (by unfold OB.m;split<;>simp)).2 ad rfl|>.1
      have zpn: ∀k,Zp k→k≠ad.block:=fun k hk e=>(h.free p.sub (p.srcZ k hk)).S r hin (by rw[e];exact adS)
      cases hd:d&&d1 with
      |true=>
       rw[hd] at itm
       have Gj:d=true:=by simp only[cJ] at hd;exact hd.1
       subst Gj;refine⟨Zp,φ.S r,hO.gy fun k hk=> .inl hk,fun k hk=>⟨hk,fun hz=>(h.free p.sub (p.srcZ k hz)).S r hin hk⟩,fun k hk=>⟨.inl hk,zpn k hk⟩,itm,fun _ k hk=>hk⟩
      |false=>
       rw[hd] at itm;refine⟨fun k=>Zp k∨(φ.S r k∧ ¬yP .top (.slice (some ad) n c) (φ.S r) k),yP .top (.slice (some ad) n c) (φ.S r),?_,fun k hk=>⟨hk.1,fun hz=> ?_⟩,fun k hk=> ?_,fun j tc v e1 e2=> ?_,fun e=>by cases e⟩
       ·exact hO.out (m:= .top) (by unfold OB.m;split<;>simp) (fun e=>by cases e) (fun k hk=> .inl hk) fun k hk hn=> .inr (.inr ⟨hk,hn⟩)
       ·rcases hz with hz|hz
        ·exact(h.free p.sub (p.srcZ k hz)).S r hin hk.1
        ·exact hz.2 hk
       ·rcases hk with hk|hk
        ·exact⟨.inl hk,zpn k hk⟩
        ·exact⟨.inr hk.1,fun e=>hk.2 ⟨hk.1,ad,n,c,rfl,e⟩⟩
       ·exact(itm j tc v e1 e2).gU (S':=X j) fun k hk=>hk.elim .inl fun h=> .inr (.inl h)
     obtain⟨ps,pS,pt,pc⟩:=g1.put (by unfold OB.m;split<;>simp) hrow hle (vs:=(a.eval x).cells.toList) az (one hl p) g4 (fun CI j k hj hk=>by
      obtain⟨s1,s2⟩:=p.src j k (by rw[hlen];exact hj) hk
      exact⟨fun hS=>(h.free p.sub s2).S r hin (g2 k hS).1,fun j' hj' hk'=>p.apart _ _ k (by rw[hlen];exact hj') (by rw[hlen];exact hj) hk' hk⟩)
      (fun k hk=>by
        rcases hk with hk|hk
        ·refine⟨(h.sep.ro k hk).1,fun e=> ?_⟩
         have adS:φ.S r ad.block:=by
          cases hO with
          |sub _ _ _ _ _ _ u T k hn=>exact(k.own (by unfold OB.m;split<;>simp)).2 ad rfl|>.1
         exact h1.sep.read r _ hin adS (by rw[←e];exact hk)
        ·refine⟨?_,(g3 k hk).2⟩
         rcases (g3 k hk).1 with hz|hz
         ·exact(h.free p.sub (p.srcZ k hz)).lt
         ·exact(h1.sep.fresh r k hin hz).1)
      (fun k hk=>(h1.sep.fresh r k hin (g2 k hk).1).1) (fun j k hj hk=>(h.free p.sub (p.src j k (by rw[hlen];exact hj) hk).2).lt)
     refine fin zW (qB _ ps) (fun j hj=>by rw[Addr.add_add];exact pt j (by simpa using hj)) (one hl p) (by rw[aQ];exact(g2 _ pS).1) ?_ hk;rw[aQ,kQ _ ps];refine Dv h h1 p CQ (b':=⟨d&&d1,z,setRow rows i f ts⟩) rfl (by simp only[jE,dR]) (g2 _ pS).1 (Zt:=Zt) (Xr:=fun k=>Sr k∨((OB.m ⟨d&&d1,z,setRow rows i f ts⟩)= .deep∧ ∃j,j<ts.length∧X j k)) (fun k hk=> ?_) (fun k hk=>(g3 k hk).1) ?_
     ·rcases hk with hk|⟨CI,j,hj,hk⟩
      ·exact⟨(g2 k hk).2,.inl (g2 k hk).1⟩
      ·refine⟨fun hz=> ?_,.inr ⟨j,by rw[hlen];exact hj,hk⟩⟩
       have Gj:(d&&d1)=true:=by
        unfold OB.m at CI
        cases hd:d&&d1 with
        |true=>rfl
        |false=>simp[hd] at CI
       exact(p.src j k (by rw[hlen];exact hj) hk).1 (g5 Gj k hz)
     ·show ah _ _ (OB.m ⟨d&&d1,z,setRow rows i f ts⟩) _ (.sub z (setRow rows i f ts)) _
      rw[hV,jE];exact pc
    ·exact hk.elim
   |some pq=>
    obtain⟨i0,f0⟩:=pq;simp only at hk
    split at hk
    ·obtain⟨row0,Jm,hk⟩:=hk
     obtain⟨_,Jm⟩:=iF Jm;simp only at hk
     split at hk
     ·rename_i z1 ie Mn
      obtain⟨row,hrow,hk⟩:=hk;obtain⟨_,hrow⟩:=iF hrow;simp only at hk
      split at hk
      ·rename_i hle
       have hle:=iX hle;obtain⟨h1,hl,hsub,os,tk⟩:=rO .deep cs st _ ts bD true h (bN.refl _) vlen hce (.inr ⟨rfl,rfl⟩) hab;obtain⟨X,Zp,p⟩:=tk.parts h;have:=hsub.ob r _ CQ;rw[hb] at this
       cases this
       have hO:=h1.obj r _ CQ;unfold fD at hO;rw[hV] at hO;have hin:aj bD.ob r:=⟨_,CQ⟩;have hlen:(bJ Mode.deep ts (a.eval x).cells.toList).length=ts.length:=dx az;obtain⟨_,z1',rows1',NR,ad1,n1,c1,hcell,MV⟩:=Lg;have QG:mB rows i0.toNat f0=some (.sub z1 ie):=kR Jm Mn;rw[QG] at NR
       cases NR
       obtain⟨V1,T0,v1,v2,v3,v4,v5⟩:=ah.inner (hO.gy (R':=fun k=>φ.I k∨Zp k) fun k hk=> .inl hk:ah w (fun k=>φ.I k∨Zp k) .deep (φ.S r) (.sub z rows) (.slice (some ad) n c)) QG
       have:V1= .slice (some ad1) n1 c1:=by have hh:=v1.symm.trans hcell;simpa using hh
       subst this;have XS: ∀j k,j<ts.length→X j k→ ¬φ.S r k:=fun j k hj hk=>(h.free p.sub (p.src j k (by rw[hlen];exact hj) hk).2).S r hin
       have ad1S:T0 ad1.block:=by
        cases v2 with
        |sub _ _ _ _ _ _ u T k hn=>exact(k.own dh).2 ad1 rfl|>.1
       obtain⟨ps,pS,pt,pc⟩:=v2.put dh hrow hle (vs:=(a.eval x).cells.toList) az (one hl p) (X:=X) (fun j tc v e1 e2=>p.ok j _ (fJ e1 e2)) (fun _ j k hj hk=>
        ⟨fun hS=>XS j k hj hk (v3 k hS).1,fun j' hj' hk'=>p.apart _ _ k (by rw[hlen];exact hj') (by rw[hlen];exact hj) hk' hk⟩)
        (fun k hk=>by
          rcases hk with hk|hk
          ·exact⟨(h.sep.ro k hk).1,fun e=>h1.sep.read r _ hin (v3 _ ad1S).1 (by rw[←e];exact hk)⟩
          ·have fr:=h.free p.sub (p.srcZ k hk)
           exact⟨fr.lt,fun e=>fr.S r hin (by rw[e];exact(v3 _ ad1S).1)⟩)
        (fun k hk=>(h1.sep.fresh r k hin (v3 k hk).1).1) (fun j k hj hk=>(h.free p.sub (p.src j k (by rw[hlen];exact hj) hk).2).lt)
       have zW:a.eval q= .pointer (some (ad1.add (i.toNat*z1+f))):=MV;refine fin zW (qB _ ps) (fun j hj=>by rw[Addr.add_add];exact pt j (by simpa using hj)) (one hl p) (by rw[aQ];exact(v3 _ ad1S).1) ?_ hk;rw[aQ,kQ _ ps]
       have hnew:=v5 _ _ _ pc (fun k hk hn=>cg _ _ _ _ (h1.sep.fresh r k hin hk).1 fun e=>hn (by rw[e];exact ad1S)) (fun k hk=>by
        rcases hk with hk|⟨_,j,hj,hk⟩
        ·exact .inl hk
        ·exact .inr (XS j k hj hk))
       refine Dv h h1 p CQ (b':=⟨true,z,setRow rows i0 f0 [.sub z1 (setRow ie i f ts)]⟩) rfl (by simp only[jE,dR]) (v3 _ ad1S).1 (Zt:=Zp) (Xr:=fun k=>(φ.S r k∧ ¬T0 k)∨(T0 k∨(Mode.deep= .deep∧ ∃j,j<ts.length∧X j k))) (fun k hk=> ?_) (fun k hk=> .inl hk) ?_
       ·rcases hk with hk|hk|⟨_,j,hj,hk⟩
        ·exact⟨fun hz=>(h.free p.sub (p.srcZ k hz)).S r hin hk.1,.inl hk.1⟩
        ·exact⟨fun hz=>(h.free p.sub (p.srcZ k hz)).S r hin (v3 k hk).1,.inl (v3 k hk).1⟩
        ·exact⟨(p.src j k (by rw[hlen];exact hj) hk).1,.inr ⟨j,by rw[hlen];exact hj,hk⟩⟩
       ·show ah _ _ .deep _ (.sub z (setRow rows i0 f0 [.sub z1 (setRow ie i f ts)])) _
        rw[hV,jE,jE];exact hnew
      ·exact hk.elim
     ·exact hk.elim
    ·exact hk.elim
  ·exact hk.elim
 ·exact hk.elim
theorem Ik {a:Act} (hT:ct C) (h:aq F A w0 φ st a.tmps w) {o:Oper} {t:TypeId} {q x:Operand} (ho:o.op= .store t q x) {K:TS→Ev R} (hk:(gv C st o K).holds cf lp Q):Ec C F A w0 φ st o a w K cf lp Q:=by
 unfold gv at hk;rw[ho] at hk;simp only at hk
 split at hk
 ·rename_i cs ef hkn hc
  have hcs:=jz (bM hT h t x) hc
  split at hk
  ·rename_i b off hsz hp
   split at hk
   ·rename_i st' hs
    exact Du hT h ho ef hkn hcs (cY hsz) hp hs hk
   ·exact hk.elim
  ·rename_i r i f hsz hp
   split at hk
   ·have NZ:=bM hT h 0 q
    rw[hp] at NZ;obtain⟨b,hb,_⟩:=NZ;obtain⟨h',hce⟩:=h.nK hb
    have PW:rM (nK r st).ob w (φ.B6 r) (cs.map (yy r)) (a.eval x):=by
     refine⟨by rw[dH];exact hcs.1,fun j e he=> ?_⟩;rw[ei] at he
     cases hj:cs[j]? with
     |none=>rw[hj] at he;cases he
     |some e0=>
      rw[hj] at he;simp only[eL,aE] at he;subst he;obtain⟨y,y1,y2,y3⟩:=hcs.2 j e0 hj;exact⟨y,y1,y2,hce _ _ y3⟩
    have CG:iZ C (nK r st) 0 q= .er r none i f:=by
     cases q with
     |tmp n=>
      have hp:st.get n= .er r none i f:=hp;show(nK r st).get n=_;unfold T.nK;rw[hb];simp only;rw[get_map _ _ _ rfl,hp]
      rfl
     |_=>exact hp
    obtain⟨nx,v,w',st',d1,d2,d3,d4,d5,d6⟩:=ta hT h' ho ef hkn PW (by rw[dH];exact cY hsz) CG hk;refine⟨nx,v,w',st',d1,d2,d3,d4,d5,fun k hk KD=>d6 k hk fun hw=>KD ?_⟩
    have e1:writes C st o=[2*r]:=by unfold writes;rw[ho];simp only[hp]
    have e2:writes C (nK r st) o=[2*r]:=by unfold writes;rw[ho];simp only[CG]
    rw[e1];rw[e2] at hw;rcases hw with⟨b',cs',hm,_⟩|⟨o',hm,_,hS⟩
    ·simp only[eG] at hm;omega
    ·simp only[eG] at hm
     have:o'=r:=by omega
     subst this;exact .inr ⟨o',.head _,⟨b,hb⟩,hS.1⟩
   ·exact ta hT h ho ef hkn hcs (cY hsz) hp hk
  ·rename_i r path i f hn hsz hp
   exact ta hT h ho ef hkn hcs (cY hsz) hp hk
  ·exact hk.elim
 ·exact hk.elim
end Go.T
namespace Go.T
variable {F : Nat → Prop} {A : Arg} {w0 w w' : World} {φ φ' : Fp} {st st' bD gn : TS} {tm sO : Array Value} {C : e7}
variable {R : Type} {cf : Cf} {lp : Lp} {Q : R → Prop}
theorem uB (h0:aq F A w0 φ st tm w) (h:aq F A w0 φ st' tm w) {dp:Bool} {z:Nat} {rows:List (List TC)} {vs:List Value} {X:Nat→Nat→Prop} {Z:Nat→Prop} {d:Nat}
 (p:eH w φ st st' (bJ (if dp then .deep else .snap) rows.flatten vs) X Z) (hz:0<z) (ou: ∀r∈rows,r.length=z) (hl:vs.length=rows.length*z) {c:Nat} (hc:rows.length≤c) (KB:c≤maxLen)
 (g:gx w w') (hlt:w.heap.size<w'.heap.size) (hcell: ∀(j:Nat) (v:Value),vs[j]?=some v→w'.cell? ⟨w.heap.size,j,none⟩=some v)
 (hall: ∀j,j<c*z→(∃x,w'.cell? ⟨w.heap.size,j,none⟩=some x)∧w'.frozen? ⟨w.heap.size,j,none⟩=false) (zY:1<z→ ∀i,w'.frozen? ⟨w.heap.size,i,none⟩=false) (hd:d<tm.size):
 Rel F A w0 (mg d ⟨dp,z,rows⟩ st') (tm.setIfInBounds d (.slice (some ⟨w.heap.size,0,none⟩) rows.length c)) w':=by
 have hlen:(bJ (if dp then Mode.deep else .snap) rows.flatten vs).length=rows.length*z:=by rw[dx (by rw[aW ou,hl]),aW ou]
 exact Ii h0 h p hz ou hl (ad:=⟨w.heap.size,0,none⟩) hc KB rfl (h.frm.Er g) g.size (fun k hk _=>g.block k hk) (G:=fun _=>False) (fun k hk=>hk.elim)
  (fun k hk=>⟨id,fun e=>by have:=(h0.free p.sub (p.srcZ k hk)).lt;rw[e] at this;simp at this⟩)
  (fun i k hi hk=>⟨id,fun e=>by have:=(h0.free p.sub (p.src i k (by rw[hlen];exact hi) hk).2).lt;rw[e] at this;simp at this⟩)
  (.inl ⟨bE _,hlt⟩) (fun j v hj=>by rw[add_lit,eK];exact hcell j v hj) (fun j hj=>by simp only[eK];exact hall j hj) zY hd
theorem FP {z:Nat}: ∀(ps:List (Nat×Value)) (n:Nat) (cs:Array Value),(∀(j:Nat) p,ps[j]?=some p→p.1=n+j∧p.2.cells.size=z)→(n+ps.length)*z≤cs.size→
 ∃cs',Instr.fill (fun i=>some (i*z,z)) cs ps=some cs'∧cs'.size=cs.size∧(∀j,j<n*z→cs'[j]?=cs[j]?)∧ ∀j,j<ps.length*z→cs'[n*z+j]?=(ps.flatMap fun p=>p.2.cells.toList)[j]?
 |[],n,cs,_,_=>⟨cs,rfl,rfl,fun _ _=>rfl,fun j hj=>by simp at hj⟩
 |(i,v)::r,n,cs,hp,hle=>by
  obtain⟨h1,h2⟩:=hp 0 _ rfl;simp only[jU] at h1 h2;subst h1;simp only[dL] at hle
  have Rr:i*z+z≤cs.size:=by
   have:(i+1)*z≤(i+(r.length+1))*z:=iM _ az;rw[jT] at this;omega
  obtain⟨g1,g2⟩:=vw (i*z) v.cells.toList 0 cs (by simp[h2];omega)
  obtain⟨cs',k1,k2,k3,k4⟩:=FP r (i+1) (v.cells.zipIdx.foldl (fun(cs:Array Value) (p:Value×Nat)=>cs.setIfInBounds (i*z+p.2) p.1) cs) (fun j p hj=>by
   obtain⟨a,b⟩:=hp (j+1) p (by simpa using hj)
   exact⟨by omega,b⟩) (by
   have e1:v.cells.zipIdx.foldl (fun(cs:Array Value) (p:Value×Nat)=>cs.setIfInBounds (i*z+p.2) p.1) cs=(v.cells.toList.zipIdx 0).foldl (fun(cs:Array Value) (p:Value×Nat)=>cs.setIfInBounds (i*z+p.2) p.1) cs:=by
    rw[←Array.foldl_toList,Array.toList_zipIdx]
   rw[e1,g1]
   have:i+1+r.length=i+(r.length+1):=by omega
   rw[this];exact hle)
  have e1:v.cells.zipIdx.foldl (fun(cs:Array Value) (p:Value×Nat)=>cs.setIfInBounds (i*z+p.2) p.1) cs=(v.cells.toList.zipIdx 0).foldl (fun(cs:Array Value) (p:Value×Nat)=>cs.setIfInBounds (i*z+p.2) p.1) cs:=by
   rw[←Array.foldl_toList,Array.toList_zipIdx]
  refine⟨cs',?_,by rw[k2,e1,g1],fun j hj=> ?_,fun j hj=> ?_⟩
  ·unfold Instr.fill
   simp only[h2,ne_eq,not_true_eq_false,decide_false,yl,decide_eq_true_eq];rw[aH az];exact k1
  ·rw[k3 j (by rw[jT];omega),e1,g2 j,aH az]
  ·rw[List.flatMap_cons]
   by_cases Ss:j<z
   ·rw[k3 _ (by rw[jT];omega),e1,g2,aY (by simp[h2];omega),e9 (by simp[h2];omega)]
    simp
   ·rw[fZ (by simp[h2];omega)]
    have:=k4 (j-z) (by simp only[dL,jT] at hj;omega);rw[show(i+1)*z+(j-z)=i*z+j by rw[jT];omega] at this;rw[this];simp[h2]
theorem yR {P:Program} {t e:TypeId} {i:TypeInfo} {zv:Value} (ht:P.underlying t=some (.slice e)) (hi:P.info? e=some i) (hz:i.zero=some zv) (parts:Array (Nat×Value)) {len:Nat}
 (hp: ∀(j:Nat) p,parts.toList[j]?=some p→p.1=j∧p.2.cells.size=i.size) (hl:parts.size=len) (hle:len*i.size≤16777216):
 ∃cells,(Instr.buildSlice t len parts).run P w= .ok (.slice (some ⟨w.heap.size,0,none⟩) len len) (w.alloc (.cells cells e))∧cells.size=len*i.size∧ ∀j,j<len*i.size→cells[j]?=(parts.toList.flatMap fun p=>p.2.cells.toList)[j]?:=by
 have N0: ¬(len*i.size>16777216):=by omega
 obtain⟨cs',k1,k2,_,k4⟩:=FP (z:=i.size) parts.toList 0 ((Array.range (len*i.size)).map ((if len*i.size=0 then #[] else zv.cells)[· % (if len*i.size=0 then #[] else zv.cells).size]!)) (fun j p hj=>by rw[eK];exact hp j p hj) (by simp[hl]);refine⟨cs',?_,by rw[k2];simp,fun j hj=> ?_⟩
 ·unfold Instr.buildSlice
  by_cases h0:len*i.size=0
  ·have hr: ∀f:Nat→Value,(Array.range 0).map f= #[]:=fun f=>Array.eq_empty_of_size_eq_zero dh
   simp only[h0,if_true,hr] at k1;simp[run_underlying ht,sizeOf,typeInfo,hi,N0,h0,hr,k1,newRow]
  ·simp only[h0,if_false] at k1
   simp[run_underlying ht,sizeOf,typeInfo,zeroValue,hi,hz,N0,h0,k1,newRow]
 ·have:=k4 j (by rw[nH,hl];exact hj)
  simpa using this
theorem A5 (hT:ct C) {a:Act} {ty:TypeId} (M:Mode): ∀(l:List (Nat×Operand)) (n:Nat) (st:TS) (rs:List (List TC)) (st':TS) (dp:Bool),aq F A w0 φ st a.tmps w→(M= .snap∨dp=true∧M= .deep)→rowsOf C st ty l n=some (rs,st',dp)→
 aq F A w0 φ st' a.tmps w∧rs.length=l.length∧(∀r∈rs,r.length=(C.tt ty).size)∧(∀(j:Nat) p,l[j]?=some p→p.1=n+j∧(a.eval p.2).cells.size=(C.tt ty).size)∧
  ∃X Z,eH w φ st st' (bJ M rs.flatten (l.flatMap fun p=>(a.eval p.2).cells.toList)) X Z
 |[],n,st,rs,st',dp,h,hM,hr=>by
  cases hr
  exact⟨h,rfl,fun r hr=>(by cases hr),fun j p hj=>by simp at hj,_,_,eH.nil _⟩
 |(i,x)::l,n,st,rs,st',dp,h,hM,hr=>by
  simp only[rowsOf] at hr
  split at hr
  ·rename_i cs hin hcs
   have hin:=cY hin;have hok:=jz (bM hT h ty x) hcs
   split at hr
   ·rename_i cs' bD d1 hsz hab
    have hsz:=cY hsz
    split at hr
    ·rename_i rs2 gn d2 BA
     cases hr
     have vlen:(a.eval x).cells.toList.length=cs.length:=by simpa using hok.1
     obtain⟨h1,w9,Ed,os,tk⟩:=rO M cs st (a.eval x).cells.toList cs' bD d1 h (bN.refl _) vlen (fun j e he=>by
      obtain⟨y,y1,_,y3⟩:=hok.2 j e he
      exact⟨y,by simpa using y1,y3⟩) (by
      rcases hM with hM|⟨hd,hM⟩
      ·exact .inl hM
      ·simp only[cJ] at hd;exact .inr ⟨hd.1,hM⟩) hab
     obtain⟨X1,Z1,p1⟩:=tk.parts h
     obtain⟨h2,rY,CJ,Fk,X2,Z2,p2⟩:=A5 hT M l (n+1) bD rs2 _ d2 h1 (by
      rcases hM with hM|⟨hd,hM⟩
      ·exact .inl hM
      ·simp only[cJ] at hd;exact .inr ⟨hd.2,hM⟩) BA
     have key:=p1.app h p2;rw[←nr az] at key;refine⟨h2,by simp[rY],fun r hr=> ?_,fun j p hj=> ?_,_,_,key⟩
     ·rcases bC.1 hr with rfl|hr
      ·rw[w9,hsz]
      ·exact CJ r hr
     ·cases j with
      |zero=>simp only[bK,aE] at hj;subst hj;exact⟨hin,by rw[hok.1,hsz]⟩
      |succ j=>
       obtain⟨a1,a2⟩:=Fk j p (by simpa using hj);exact⟨by omega,a2⟩
    ·cases hr
   ·cases hr
  ·cases hr
theorem Ag (hT:ct C) {a:Act} (h:aq F A w0 φ st a.tmps w) {o:Oper} {t:TypeId} {n:Nat} {ps:Array (Nat×Operand)} (ho:o.op= .buildSlice t n ps) {K:TS→Ev R} (hd: ∀d,o.dst=some d→d<a.tmps.size) (hk:(gv C st o K).holds cf lp Q):
 Ec C F A w0 φ st o a w K cf lp Q:=by
 unfold gv at hk;rw[ho] at hk;simp only at hk
 split at hk
 ·rename_i d e ef he
  split at hk
  ·rename_i rs st' dp hb hr
   simp only[cJ] at hb;obtain⟨⟨hn,hle⟩,CO⟩:=hb;have hn:=cY hn;have hle:=iX hle;obtain⟨hkn,hnp⟩:=nS CO;obtain⟨i,zv,g1,g2,g3,_⟩:=BZ (w:=w) (φ:=φ) hT hkn hnp (ob:=st.ob);obtain⟨h1,hl,hw,hp,X,Z,p⟩:=A5 hT (if dp then .deep else .snap) ps.toList 0 st rs st' dp h (by cases dp<;>simp) hr
   have vf:rs.length=n:=by rw[hl,hn];simp
   obtain⟨cells,c1,c2,c3⟩:=yR (w:=w) (ld hT he).1 g1 g3 (ps.map fun(i,x)=>(i,a.eval x)) (len:=n) (fun j q hj=>by
    rw[Array.toList_map,ei] at hj
    cases hq:ps.toList[j]? with
    |none=>rw[hq] at hj;cases hj
    |some r=>
     rw[hq] at hj;simp only[eL,aE] at hj;subst hj;obtain⟨a1,a2⟩:=hp j r hq
     exact⟨by rw[a1,eK],by rw[g2];exact a2⟩) (by simp[hn]) (by rw[g2];exact hle)
   have hvl:(ps.toList.flatMap fun p=>(a.eval p.2).cells.toList).length=rs.length*(C.tt e).size:=by
    have: ∀(l:List (Nat×Operand)),(∀p∈l,(a.eval p.2).cells.size=(C.tt e).size)→(l.flatMap fun p=>(a.eval p.2).cells.toList).length=l.length*(C.tt e).size:=by
     intro l
     induction l with
     |nil=>intro _;simp
     |cons x r ih=>
      intro hx;rw[List.flatMap_cons,cE,ih fun p hp=>hx p (.tail _ hp),nH,hx x (.head _),dL,jT];omega
    rw[this _ fun p CG=> ?_,hl];obtain⟨j,hj,rfl⟩:=List.mem_iff_getElem.1 CG;exact(hp j _ (aO hj)).2
   have Rs:((ps.map fun(i,x)=>(i,a.eval x)).toList.flatMap fun p=>p.2.cells.toList)=ps.toList.flatMap fun p=>(a.eval p.2).cells.toList:=by
    rw[Array.toList_map,List.flatMap_map]
   have lY:=uB (w':=w.alloc (.cells cells e)) (d:=d) h h1 p (hT e hkn).pos hw hvl (c:=n) az (by
    have hpos:=(hT e hkn).pos;have:n≤n*(C.tt e).size:=Nat.le_mul_of_pos_right n hpos
    simp only[maxLen];omega) (gx.alloc w _) dh (fun j v hj=>by
    rw[lH,c3 j (by
     have:=(List.getElem?_eq_some_iff.1 hj).1;rw[hvl,vf] at this
     rw[g2];exact this),Rs]
    exact hj) (fun j hj=>⟨⟨cells[j]'(by rw[c2,g2];exact hj),by rw[lH];exact lq _⟩,iG _ _ _ _⟩) (fun _ i=>iG _ _ _ _) (hd d ef)
   rw[vf] at lY;refine⟨.value _,_,_,_,?_,.inl rfl,by rw[ef];exact lY,hk,by simp,fun k hk _=>(gx.alloc w _).block k hk⟩;unfold execOp;rw[ho];simp only[Sem.run_bind,c1,Result.andThen]
   rfl
  ·exact hk.elim
 ·exact hk.elim
theorem yd {z:Nat} {rows:List (List TC)} (hz:0<z) (ou: ∀r∈rows,r.length=z) {p:Nat} {tc:TC} (hp:rows.flatten[p]?=some tc):mB rows (p/z) (p % z)=some tc:=by
 have hfl:=aW ou
 have hlt:p<rows.length*z:=by rw[←hfl];exact(List.getElem?_eq_some_iff.1 hp).1
 have hi:p/z<rows.length:=Nat.div_lt_of_lt_mul (by rw[Nat.mul_comm];exact hlt);have hrl:=ou _ (qo hi)
 have hf:p % z<(rows[p/z]).length:=by rw[hrl];exact Nat.mod_lt _ hz
 have h1:mB rows (p/z) (p % z)=some (rows[p/z][p % z]):=by simp[mB,aO hi,aO hf]
 have h2:=(lG ou h1).1;rw[tW p z] at h2;rw[h1,←h2,hp]
theorem Il {Rd S:Nat→Prop} {m:Mode} {c:TC} (h:Et c=true):ah w Rd m S c (JL c):=by
 cases c with
 |any=>cases h
 |sc v=>cases v<;>first|exact .sc _ _ _ trivial|cases h
 |sub z rows=>cases rows with
  |nil=>exact mF (iX h)
  |cons _ _=>cases h
attribute [local semireducible] gW sQ tY fits in
theorem B8 (hT:ct C) {a:Act} (h:aq F A w0 φ st a.tmps w) {o:Oper} {t:TypeId} {l c:Operand} (ho:o.op= .makeSlice t l c) {K:TS→Ev R} (hd: ∀d,o.dst=some d→d<a.tmps.size) (hk:(gv C st o K).holds cf lp Q):
 Ec C F A w0 φ st o a w K cf lp Q:=by
 unfold gv at hk;rw[ho] at hk;simp only at hk
 split at hk
 ·rename_i d e n n' ef he hl hc
  have hk2:(match(nk (C.tt e)&&gW n n'&&sQ 0 n&&fits (tY n) (C.tt e).bytes) with|true=>K (mg d ⟨true,(C.tt e).size,List.replicate (tY n) (C.tt e).zero⟩ st)|false=> .fail:Ev R).holds cf lp Q:=hk;clear hk
  split at hk2
  ·rename_i hb
   simp only[cJ] at hb;obtain⟨⟨⟨CO,PX⟩,h0⟩,hf⟩:=hb
   have PX:n=n':=by simpa [gW] using PX
   subst PX
   have h0:0≤n:=by simpa [sQ] using h0
   have hf:n.toNat*(C.tt e).bytes≤140737488355328∧n.toNat≤140737488355328:=by simpa [fits,tY] using hf
   obtain⟨hkn,hnp⟩:=nS CO;obtain⟨i,zv,g1,g2,g2b,g3,g4⟩:=(hT e hkn).info;obtain⟨z1,z2,z3,_⟩:=g4 hnp;obtain⟨kl,hkl⟩:=nP (bM hT h 3 l) hl;obtain⟨kc,Rt⟩:=nP (bM hT h 3 c) hc;have hpos:=(hT e hkn).pos
   have hzs:zv.cells.size=(C.tt e).size:=by rw[←nH,z1];simpa using z2
   have hby:(i.bytes:Int)*n≤281474976710656:=by
    have h1:=hf.1
    have e1:(i.bytes:Int)*n=((n.toNat*(C.tt e).bytes:Nat):Int):=by rw[g2b,Int.natCast_mul,Int.toNat_of_nonneg h0,Int.mul_comm]
    rw[e1];omega
   have hrun:=run_make (P:=C.P) w t e i zv (ld hT he).1 g1 g3 kl kc n n h0 (Int.le_refl _) hby az
   have hw: ∀r∈List.replicate (tY n) (C.tt e).zero,r.length=(C.tt e).size:=fun r hr=>by rw[List.eq_of_mem_replicate hr];exact z2
   have hlen:(List.replicate (tY n) (C.tt e).zero).length=n.toNat:=by simp[tY]
   have hvl:(madeCells zv.cells (n.toNat*i.size)).toList.length=(List.replicate (tY n) (C.tt e).zero).length*(C.tt e).size:=by rw[hlen];simp[madeCells,g2]
   have hval: ∀{j:Nat} {v:Value},(madeCells zv.cells (n.toNat*i.size)).toList[j]?=some v→zv.cells[j % (C.tt e).size]?=some v:=fun {j v} hj=>by
    have hlt:j<n.toNat*i.size:=by have:=(List.getElem?_eq_some_iff.1 hj).1;simpa [madeCells] using this
    simp[madeCells,hlt] at hj;have hm:j % zv.cells.size<zv.cells.size:=Nat.mod_lt _ (by rw[hzs];exact hpos);rw[getElem!_pos zv.cells _ hm] at hj;rw[←hj,←hzs,lq hm]
   have p:eH w φ st st (bJ (if true=true then .deep else .snap) (List.replicate (tY n) (C.tt e).zero).flatten (madeCells zv.cells (n.toNat*i.size)).toList) (fun _ _=>False) (fun _=>False):=by
    refine⟨fun j it hj=> ?_,fun _ _ _ hk=>hk.elim,fun _ hk=>hk.elim,fun _ _ _ _ _ hk=>hk.elim,bN.refl _⟩;obtain⟨tc,v,h1,h2,rfl⟩:=fq hj;have Hf:=yd hpos hw h1
    have MW:(C.tt e).zero[j % (C.tt e).size]?=some tc:=by
     unfold mB at Hf
     cases hrow:(List.replicate (tY n) (C.tt e).zero)[j/(C.tt e).size]? with
     |none=>rw[hrow] at Hf;cases Hf
     |some row=>
      rw[hrow] at Hf;rw[List.eq_of_mem_replicate (dw hrow)] at Hf;exact Hf
    have hv:=hval h2;rw[←CT,z1,ei,MW] at hv;simp only[eL,aE] at hv;subst hv;exact Il (List.all_eq_true.1 z3 tc (dw MW))
   have lY:=uB (w':=w.alloc (.cells (madeCells zv.cells (n.toNat*i.size)) e)) (d:=d) h h p hpos hw hvl (c:=n.toNat) (by rw[hlen];exact bE _) (by simp only[maxLen];omega) (gx.alloc w _) dh (fun j v hj=>by
    rw[lH];simpa using hj) (fun j hj=>⟨⟨_,by rw[lH];exact lq (by rw[size_madeCells,g2];exact hj)⟩,iG _ _ _ _⟩) (fun _ i=>iG _ _ _ _) (hd d ef)
   rw[hlen] at lY;refine⟨.value _,_,_,_,?_,.inl rfl,by rw[ef];exact lY,hk2,by simp,fun k hk _=>(gx.alloc w _).block k hk⟩;unfold execOp;rw[ho];simp only[hkl,Rt,Sem.run_bind,hrun,Result.andThen]
   rfl
  ·exact hk2.elim
 ·exact hk.elim
end Go.T
namespace Go.T
variable {F : Nat → Prop} {A : Arg} {w0 w w' : World} {φ φ' : Fp} {st st' sta bD gn : TS} {tm sO : Array Value} {C : e7}
variable {R : Type} {cf : Cf} {lp : Lp} {Q : R → Prop}
theorem A6 (w:World) (arr:Array Value) (t:TypeId) (fr:Nat×Nat) (j:Nat):(w.alloc (.cells arr t fr)).cell? ⟨w.heap.size,j,none⟩=arr[j]?:=by
 unfold World.cell?;simp only[heap_alloc_new]
 rfl
theorem Dw (w:World) (arr:Array Value) (t:TypeId) (fr:Nat×Nat) (j:Nat) (h:j<fr.1):(w.alloc (.cells arr t fr)).frozen? ⟨w.heap.size,j,none⟩=false:=by
 unfold World.frozen?;simp only[heap_alloc_new];obtain⟨a,b⟩:=fr;simp only at h ⊢;simp;omega
attribute [local semireducible] sq in
theorem yS (s:ByteArray):sq s=s.data.toList.map fun b=>[TC.sc (.int .u8 b.toNat)]:=rfl
theorem EJ (s:ByteArray):(sq s).flatten=s.data.toList.map fun b=>TC.sc (.int .u8 b.toNat):=by
 rw[yS]
 induction s.data.toList with
 |nil=>rfl
 |cons b r ih=>simp only[List.map_cons,qn,ih];rfl
theorem gM (s:ByteArray):(sq s).length=s.size:=by rw[yS,dH,nH];rfl
theorem wO (s:ByteArray): ∀r∈sq s,r.length=1:=fun r hr=>by
 rw[yS] at hr;obtain⟨_,_,rfl⟩:=List.mem_map.1 hr
 rfl
theorem A7 (s:ByteArray) (M:Mode) (st:TS):eH w φ st st (bJ M (sq s).flatten (byteCells s)) (fun _ _=>False) (fun _=>False):=by
 refine⟨fun j it hj=> ?_,fun _ _ _ hk=>hk.elim,fun _ hk=>hk.elim,fun _ _ _ _ _ hk=>hk.elim,bN.refl _⟩;obtain⟨tc,v,h1,h2,rfl⟩:=fq hj;rw[EJ,ei] at h1;unfold byteCells at h2;rw[ei] at h2
 cases hb:s.data.toList[j]? with
 |none=>rw[hb] at h1;cases h1
 |some b=>
  rw[hb] at h1 h2;simp only[eL,aE] at h1 h2;subst h1 h2;exact .sc _ _ _ trivial
attribute [local semireducible] fits in
theorem FQ {n b:Nat} (h:fits n b=true):n*b≤140737488355328∧n≤140737488355328:=tX h
theorem Im (hT:ct C) {a:Act} (h:aq F A w0 φ st a.tmps w) {o:Oper} {src dst:TypeId} {x:Operand} (ho:o.op= .convert src dst x) {K:TS→Ev R} (hd: ∀d,o.dst=some d→d<a.tmps.size) (hk:(gv C st o K).holds cf lp Q):Ec C F A w0 φ st o a w K cf lp Q:=by
 have vh:=hk;unfold gv at hk;rw[ho] at hk;simp only at hk
 split at hk
 ·rename_i et hdt hst
  split at hk
  ·rename_i d s ef hu hs
   have hv:=BT (bM hT h src x) hs;have hrun:=run_bytes_of_string (P:=C.P) w src dst et s (yL hT hst) (yM hT hdt).1 (B0 hT hu);have hge:=grownCap_ge w s.size 0 et
   have hsz:(bytesRow s (grownCap w s.size 0 et)).size=grownCap w s.size 0 et:=by
    have:s.data.size=s.size:=rfl;simp[bytesRow,this];omega
   have hk2:(match fits s.size 1 with|true=>K (mg d ⟨true,1,sq s⟩ st)|false=> .fail:Ev R).holds cf lp Q:=hk;clear hk
   split at hk2
   ·rename_i hfit
    have hbig:s.size≤maxLen:=by
     have:s.size*1≤140737488355328∧s.size≤140737488355328:=FQ hfit;simp only[maxLen];omega
    have lY:=uB (w':=w.drew.alloc (.cells (bytesRow s (grownCap w s.size 0 et)) et ((bytesRow s (grownCap w s.size 0 et)).size,(bytesRow s (grownCap w s.size 0 et)).size+1))) (d:=d) (dp:=true) (z:=1) h h (A7 s _ st)
     Nat.one_pos (wO s) (by rw[byteCells_length,gM,Nat.mul_one]) (c:=grownCap w s.size 0 et) (by rw[gM];exact hge) (grownCap_le_maxLen w s.size 0 et hbig) ((gx.drew w).trans (gx.alloc _ _)) dh
     (fun j v hj=>by
       have hj0:=hj
       have hjl:j<s.size:=by have:=(List.getElem?_eq_some_iff.1 hj).1;rwa [byteCells_length] at this
       show(w.drew.alloc _).cell? ⟨w.drew.heap.size,j,none⟩=_;rw[A6];unfold bytesRow;rw[Array.getElem?_append_left (by rw[Array.size_map];exact hjl)];unfold byteCells at hj0
       simpa using hj0)
     (fun j hj=>by
       rw[Nat.mul_one] at hj;show(∃x,(w.drew.alloc _).cell? ⟨w.drew.heap.size,j,none⟩=_)∧(w.drew.alloc _).frozen? ⟨w.drew.heap.size,j,none⟩=_
       exact⟨⟨_,by rw[A6];exact lq (by rw[hsz];exact hj)⟩,Dw _ _ _ _ _ (by simp only[hsz];exact hj)⟩) (fun G6=>absurd G6 az) (hd d ef)
    rw[gM] at lY;refine⟨.value _,_,_,_,?_,.inl rfl,by rw[ef];exact lY,hk2,by simp,fun k hk _=>((gx.drew w).trans (gx.alloc _ _)).block k hk⟩;unfold execOp;rw[ho];simp only[hv,Sem.run_bind,hrun,Result.andThen]
    rfl
   ·exact hk2.elim
  ·exact hk.elim
 ·exact FN hT h hd hk
theorem yT {Rd S:Nat→Prop} {m:Mode} {z:Nat} {rows:List (List TC)} {v:Value} (hr:ah w Rd m S (.sub z rows) v) {tx e':TypeId} (hk:C.P.underlying tx=some (.slice e')) {size:Nat} (hsz:size=z) {vs:List Value} (hl:vs.length=rows.length*z)
 (hcell: ∀ad n c,v= .slice (some ad) n c→ ∀(j:Nat) (x:Value),vs[j]?=some x→w.cell? (ad.add j)=some x) (h1: ∀x∈vs,x.oneCell'=true):Src C.P size tx v rows.length vs w:=by
 subst hsz
 cases hr with
 |sub _ _ _ _ Ad c u T k hn=>
  cases Ad with
  |none=>
   have hne:rows=[]:=Classical.byContradiction fun hne=>by obtain⟨ad,h⟩:=k.addr hne;cases h
   subst hne;have:vs=[]:=sn (by simpa using hl);subst this;exact Src.ofNil w hk c
  |some ad=>exact Src.ofSlice w hk ad _ c vs hl (hcell ad _ _ rfl) h1
theorem ah.vals {Rd S:Nat→Prop} {m:Mode} {z:Nat} {rows:List (List TC)} {v:Value} (hr:ah w Rd m S (.sub z rows) v): ∃vals:List Value,vals.length=rows.length*z∧(∀r∈rows,r.length=z)∧0<z∧
 (∀ad n c,v= .slice (some ad) n c→ ∀(j:Nat) (x:Value),vals[j]?=some x→w.cell? (ad.add j)=some x)∧ ∀(p:Nat) (tc:TC) (x:Value),rows.flatten[p]?=some tc→vals[p]?=some x→ ∃T,ah w Rd m.nx T tc x:=by
 cases hr with
 |sub _ _ _ _ Ad c u T k hn=>
  have hz:=k.z0;have hfl:=aW k.width;refine⟨(List.range (rows.length*z)).map fun p=>u (p/z) (p % z),by simp,k.width,hz,?_,fun p tc x h1 h2=> ?_⟩
  ·intro ad n c' e j x hx
   cases e
   have hlt:j<rows.length*z:=by have:=(List.getElem?_eq_some_iff.1 hx).1;simpa using this
   simp[hlt] at hx;subst hx;obtain⟨tc,KC⟩: ∃tc,rows.flatten[j]?=some tc:=⟨_,aO (by rw[hfl];exact hlt)⟩;have:=k.cell ad rfl _ _ tc (yd hz k.width KC);rw[tW j z] at this;exact this
  ·have hlt:p<rows.length*z:=by have:=(List.getElem?_eq_some_iff.1 h2).1;simpa using this
   simp[hlt] at h2;subst h2;exact⟨_,hn _ _ tc (yd hz k.width h1)⟩
theorem A8 (hT:ct C) {t t' ty e:TypeId} {P:Program} (hP:P=C.P) (ht:P.underlying t=some (.slice e)) (CO:nk (C.tt e)=true) (h0:aq F A w0 φ st tm w) (h1:aq F A w0 φ bD tm w) {d:Nat} (hd:d<tm.size) {dp:Bool} {z:Nat} (hz:z=(C.tt e).size)
 {rows ax:List (List TC)} {rD o7:List Value} {X1 X2:Nat→Nat→Prop} {Z1 Z2:Nat→Prop} (p1:eH w φ st sta (bJ (if dp then .deep else .snap) rows.flatten rD) X1 Z1) (p2:eH w φ sta bD (bJ (if dp then .deep else .snap) ax.flatten o7) X2 Z2)
 (hw1: ∀r∈rows,r.length=z) (CJ: ∀r∈ax,r.length=z) (w9:rD.length=rows.length*z) (rY:o7.length=ax.length*z) {Ad:Option Addr} {c:Nat} (hc:rows.length≤c) (KB:c≤maxLen) {x:Value} (hs:Src P z t' x ax.length o7 w)
 (hA:(Ad=none∧rows=[]∧c=0)∨ ∃ad,Ad=some ad∧ad.spot=none∧(∃o,aj st.ob o∧ ¬aj sta.ob o∧φ.S o ad.block)∧(∀(j:Nat) (v:Value),rD[j]?=some v→w.cell? (ad.add j)=some v)∧
   (∀j,j<c*z→(∃x,w.cell? ⟨ad.block,ad.off+j,none⟩=some x)∧w.frozen? ⟨ad.block,ad.off+j,none⟩=false)∧(∀i k,X1 i k→k≠ad.block)∧(∀k,Z1 k→k≠ad.block)∧(1<z→ ∀i,w.frozen? ⟨ad.block,i,none⟩=false))
 (hf:fits (rows.length+ax.length) (C.tt e).bytes=true):
 ∃v w',(Builtin.append_ #[t,t'] ty #[.slice Ad rows.length c,x]).run P w= .ok v w'∧Rel F A w0 (mg d ⟨dp,z,rows++ax⟩ bD) (tm.setIfInBounds d v) w'∧w.heap.size≤w'.heap.size∧ ∀k,k<w.heap.size→(∀ad,Ad=some ad→k≠ad.block)→w'.heap[k]?=w.heap[k]?:=by
 subst hP;obtain⟨Ru,QH⟩:=FQ hf;obtain⟨hkn,hnp⟩:=nS CO;obtain⟨i,zv,g1,g2,g2b,g3,g4⟩:=(hT e hkn).info;obtain⟨z1,z2,z3,_⟩:=g4 hnp;have hpos:=(hT e hkn).pos
 have hzs:zv.cells.size=(C.tt e).size:=by rw[←nH,z1];simpa using z2
 have MW:0<z:=by omega
 have isz:i.size=z:=by rw[g2,hz]
 have p:=p1.app h0 p2;have Mr:=aW hw1;have N3:=aW CJ;rw[←nr (by rw[Mr,w9]),←Fo] at p;have N4: ∀r∈rows++ax,r.length=z:=fun r hr=>(List.mem_append.1 hr).elim (hw1 r) (CJ r)
 have Ms:(rD++o7).length=(rows++ax).length*z:=by rw[cE,cE,jT,w9,rY]
 have hs':Src C.P i.size t' x ax.length o7 w:=by rw[isz];exact hs
 have big:rows.length+ax.length≤maxLen:=by simp only[maxLen];omega
 have grow:c<rows.length+ax.length→(∃olds:List Value,olds=rD∧(Builtin.firstCells i.size rows.length (.slice Ad rows.length c)).run C.P w.drew= .ok olds.toArray w.drew)→
  ∃v w',(Builtin.append_ #[t,t'] ty #[.slice Ad rows.length c,x]).run C.P w= .ok v w'∧Rel F A w0 (mg d ⟨dp,z,rows++ax⟩ bD) (tm.setIfInBounds d v) w'∧w.heap.size≤w'.heap.size∧ ∀k,k<w.heap.size→(∀ad,Ad=some ad→k≠ad.block)→w'.heap[k]?=w.heap[k]?:=fun hg ⟨olds,ho,Le⟩=>by
  rw[ho] at Le;have hr:=run_append_grow_src (P:=C.P) w t t' ty e i zv ht g1 g3 Ad rows.length c rD Le x ax.length o7 hs' hg (by simp only[maxLen] at big;omega) (growslice_fits hg (by rw[g2b];exact Ru));have hge:=grownCap_ge w (rows.length+ax.length) c e;have Rv:=grownCap_le_maxLen w (rows.length+ax.length) c e big
  have hsize:((rD++o7).toArray++Builtin.zeroCells zv.cells (grownCap w (rows.length+ax.length) c e-(rows.length+ax.length))).size=grownCap w (rows.length+ax.length) c e*z:=by
   rw[Array.size_append,size_zeroCells,List.size_toArray,Ms,hzs,←hz,cE,←jT]
   congr 1;omega
  have lY:=uB (w':=w.drew.alloc (.cells ((rD++o7).toArray++Builtin.zeroCells zv.cells (grownCap w (rows.length+ax.length) c e-(rows.length+ax.length))) e)) (d:=d) h0 h1 p MW N4 Ms
   (c:=grownCap w (rows.length+ax.length) c e) (by rw[cE];exact hge) Rv ((gx.drew w).trans (gx.alloc _ _)) dh
   (fun j v hj=>by
     have hlt:=(List.getElem?_eq_some_iff.1 hj).1;have e1:=lH w.drew ((rD++o7).toArray++Builtin.zeroCells zv.cells (grownCap w (rows.length+ax.length) c e-(rows.length+ax.length))) e j;refine e1.trans ?_;rw[Array.getElem?_append_left (by simpa using hlt)]
     simpa using hj)
   (fun j hj=>⟨⟨_,(lH w.drew _ e j).trans (lq (by rw[hsize];exact hj))⟩,iG w.drew _ e j⟩) (fun _ i=>iG w.drew _ e i) hd
  rw[cE] at lY;exact⟨_,_,hr,lY,by simp,fun k hk _=>((gx.drew w).trans (gx.alloc _ _)).block k hk⟩
 rcases hA with⟨rfl,rfl,rfl⟩|⟨ad,rfl,kH,PY,hcell,hall,Rw,Rx,zY⟩
 ·by_cases hn:ax.length=0
  ·have Mm:ax=[]:=sn hn
   subst Mm;have Lh:o7=[]:=sn (by simpa using rY);subst Lh;exact⟨_,w,run_append_nothing w t t' ty e i ht g1 none _ _ (bE _) x hs',GD h1 MW hd,bE _,fun _ _ _=>rfl⟩
  ·refine grow rZ ⟨_,rfl,?_⟩
   have Lh:rD=[]:=sn (by simpa using w9);subst Lh;exact run_firstCells_none w.drew i.size 0 0 0
 ·have Ry: ∀i k,i<ax.length*z→X2 i k→k≠ad.block:=fun i k hi hk e=>by
   subst e;obtain⟨o,o1,o2,o3⟩:=PY;obtain⟨o',q1,q2,q3⟩:=(p2.src i _ (by rw[dx (by rw[N3,rY]),N3];exact hi) hk).2;have:=h0.sep.apart o o' _ o1 (p1.sub.dom q1) o3 q3;subst this;exact o2 q1
  have Rz: ∀k,Z2 k→k≠ad.block:=fun k hk e=>by
   subst e;obtain⟨o,o1,o2,o3⟩:=PY;obtain⟨o',q1,q2,q3⟩:=p2.srcZ _ hk;have:=h0.sep.apart o o' _ o1 (p1.sub.dom q1) o3 q3;subst this;exact o2 q1
  by_cases hroom:rows.length+ax.length≤c
  ·have inb: ∀j,j<o7.length→rows.length*z+j<c*z:=fun j hj=>by
    have:rows.length*z+ax.length*z≤c*z:=by rw[←jT];exact iM _ hroom
    omega
   have had:(⟨ad.block,ad.off,none⟩:Addr)=ad:=by cases ad;simp_all
   have hr:=run_append_room_src (P:=C.P) w t t' ty e i ht g1 ad.block ad.off rows.length c x ax.length o7 hs' hroom
    (fun j hj=>by obtain⟨⟨y,hy⟩,_⟩:=hall _ (inb j hj);rw[isz,mm,hy];rfl) (fun j hj=>by obtain⟨_,hy⟩:=hall _ (inb j hj);rw[isz,mm];exact hy)
   rw[had,isz] at hr
   have Mt: ∃o,aj st.ob o∧ ¬aj bD.ob o∧φ.S o ad.block:=let ⟨o,o1,o2,o3⟩:=PY;⟨o,o1,fun hd=>o2 (p2.sub.dom hd),o3⟩
   have fr:=h0.free p.sub Mt;obtain⟨s1,s2,s3,s4⟩:=fe ad.block o7 (ad.off+rows.length*z) w
   have N5: ∀j,j<c*z→(∃x,(w.setCells ad.block (ad.off+rows.length*z) o7).cell? ⟨ad.block,ad.off+j,none⟩=some x)∧(w.setCells ad.block (ad.off+rows.length*z) o7).frozen? ⟨ad.block,ad.off+j,none⟩=false:=fun j hj=>by
    obtain⟨⟨y,hy⟩,hz⟩:=hall j hj;exact⟨Option.isSome_iff_exists.1 (World.isSome_setCells _ _ _ w _ (by rw[hy];rfl)),by rw[World.frozen?_setCells];exact hz⟩
   have hcl: ∀{i k:Nat},i<(rows++ax).length*z→(if i<(bJ (if dp=true then Mode.deep else .snap) rows.flatten rD).length then X1 i k else X2 (i-(bJ (if dp=true then Mode.deep else .snap) rows.flatten rD).length) k)→k≠ad.block:=fun {i k} hi hk=>by
    rw[dx (by rw[Mr,w9]),Mr] at hk
    by_cases hlt:i<rows.length*z
    ·rw[aY hlt] at hk;exact Rw i k hk
    ·rw[aH hlt] at hk;exact Ry _ k (by rw[cE,jT] at hi;omega) hk
   have lY:=Ii (w':=w.setCells ad.block (ad.off+rows.length*z) o7) (d:=d) h0 h1 p MW N4 Ms (ad:=ad) (c:=c) (by rw[cE];exact hroom) KB kH (h0.frm.setCells fr.new) (by rw[s4];exact bE _)
    (G:=fun k=>k=ad.block) (fun k hk hn=>cg _ _ _ _ hk hn) (fun k hk=>by subst hk;exact Mt) (fun k hk=>by
      have:k≠ad.block:=hk.elim (Rx k) (Rz k)
      exact⟨this,this⟩) (fun i k hi hk=>⟨hcl hi hk,hcl hi hk⟩) (.inr Mt) (fun j v hj=>by
      rw[kQ j kH]
      by_cases hlt:j<rows.length*z
      ·rw[World.cell?_setCells_out _ _ _ _ _ (fun _ _=>by simp only;omega),←kQ j kH]
       rw[e9 az] at hj;exact hcell j v hj
      ·rw[fZ az,w9] at hj
       have N6:=(List.getElem?_eq_some_iff.1 hj).1
       have:=World.cell?_setCells_in ad.block o7 (ad.off+rows.length*z) w (fun j' hj'=>by
        obtain⟨⟨y,hy⟩,_⟩:=hall _ (inb j' hj');rw[mm,hy];rfl) (j-rows.length*z) N6
       rw[show ad.off+rows.length*z+(j-rows.length*z)=ad.off+j by omega] at this;rw[this];rw[aO N6] at hj
       exact hj) N5 (fun G6 i=>by rw[World.frozen?_setCells];exact zY G6 i) hd
   rw[cE] at lY;exact⟨_,_,hr,lY,by rw[s4];exact bE _,fun k hk hn=>cg _ _ _ _ hk (hn ad rfl)⟩
  ·refine grow az ⟨rD,rfl,?_⟩
   exact run_firstCells_some w.drew i.size rows.length ad rows.length c rD (by rw[isz];exact w9) (by simpa using hcell)
end Go.T
namespace Go.T
structure yU where
 tc:TC
 val:Value
 own:Nat→Prop
def yU.ok (w:World) (t:yU):Prop:=ah w (fun _=>False) .deep t.own t.tc t.val
def yU.apart (a b:yU):Prop:= ∀k,a.own k→ ¬b.own k
def JY (w:World) (b off:Nat) (L:List Value):Prop:= ∀k y,L[k]?=some y→w.cell? ⟨b,off+k,none⟩=some y
def Nk (w:World) (b off n:Nat):Prop:= ∀j,j<n→w.frozen? ⟨b,off+j,none⟩=false
theorem ah.O9 {w:World} {R R' S:Nat→Prop} {c:TC} {v:Value} (h:ah w R .deep S c v):ah w R' .deep S c v:=by
 generalize hm:Mode.deep=m at h
 induction h with
 |any _ _ _ h=>exact .any _ _ _ h
 |sc _ _ _ h=>exact .sc _ _ _ h
 |sub m S z rows A c u T h hn ih=>
  subst hm;exact .sub _ _ z rows A c u T {h with read:=fun hm=>by cases hm} fun i f tc ht=>ih i f tc ht rfl
structure td (w:World) (S:Nat→Prop) (z:Nat) (rows:List (List TC)) (v:Value) (A:Option Addr) (c:Nat) (bA:List yU):Prop where
 val:v= .slice A rows.length c
 le:rows.length≤c
 cap:c≤maxLen
 z0:0<z
 width: ∀r∈rows,r.length=z
 tcs:rows.flatten=bA.map (·.tc)
 ok: ∀t∈bA,t.ok w
 gZ:bA.Pairwise yU.apart
 sub: ∀t∈bA,∀k,t.own k→S k∧ ∀ad,A=some ad→k≠ad.block
 none:A=none→c=0
 row: ∀ad,A=some ad→S ad.block∧ad.spot= .none∧(∃sp,JY w ad.block ad.off (bA.map (·.val)++sp)∧(bA.map (·.val)++sp).length=c*z)∧Nk w ad.block ad.off (c*z)∧(1<z→ ∀i,w.frozen? ⟨ad.block,i,.none⟩=false)
theorem ah.opened {w:World} {R S:Nat→Prop} {z:Nat} {rows:List (List TC)} {v:Value} (h:ah w R .deep S (.sub z rows) v): ∃A c bA,td w S z rows v A c bA:=by
 cases h with
 |sub _ _ _ _ A c u T k hn=>
  have hz:=k.z0;have hfl:=aW k.width;have Hf: ∀p tc,rows.flatten[p]?=some tc→mB rows (p/z) (p % z)=some tc:=fun p tc h=>yd hz k.width h;refine⟨A,c,(List.range (rows.length*z)).map fun p=>⟨rows.flatten.getD p default,u (p/z) (p % z),T (p/z) (p % z)⟩,rfl,k.len,k.cap,hz,k.width,?_,?_,?_,?_,(k.own dh).1,?_⟩
  ·apply List.ext_getElem
   ·simp[hfl]
   ·intro p h1 h2
    simp only[List.getElem_map,List.getElem_range,ym,aO h1];rfl
  ·intro t ht
   obtain⟨p,hp,rfl⟩:=List.mem_map.1 ht;have hp:=List.mem_range.1 hp
   have hs:rows.flatten[p]?=some (rows.flatten.getD p default):=by
    rw[ym,aO az];rfl
   exact(hn _ _ _ (Hf p _ hs)).O9
  ·rw[List.pairwise_map]
   refine(List.nodup_range (n:=rows.length*z)).imp_of_mem ?_;intro a b ha hb hab k' h1 h2;have:=(k.gZ rfl _ _ _ h1).2.2 _ _ h2
   apply hab
   rw[←tW a z,←tW b z,this.1,this.2]
  ·intro t ht k' hk
   obtain⟨p,hp,rfl⟩:=List.mem_map.1 ht;exact⟨(k.gZ rfl _ _ _ hk).1,(k.gZ rfl _ _ _ hk).2.1⟩
  ·intro ad ha
   obtain⟨hS,hs,hc⟩:=(k.own dh).2 ad ha;refine⟨hS,hs,⟨(List.range (c*z-rows.length*z)).map fun j=>(w.cell? ⟨ad.block,ad.off+(rows.length*z+j),.none⟩).getD default,?_,?_⟩,fun j hj=>(hc j hj).2,fun h1 i=>k.soft dh h1 ad ha i⟩
   ·intro j y hj
    by_cases hl:j<rows.length*z
    ·rw[e9 (by simpa using hl)] at hj
     simp[hl] at hj;subst hj
     have PS:rows.flatten[j]?=some (rows.flatten.getD j default):=by
      rw[ym,aO az];rfl
     have:=k.cell ad ha _ _ _ (Hf j _ PS);rw[tW j z] at this;obtain⟨b0,o0,s0⟩:=ad
     cases hs
     rwa [Addr.add_lit] at this
    ·rw[fZ (by simpa using hl)] at hj
     have hlt:=(List.getElem?_eq_some_iff.1 hj).1;simp at hj hlt
     obtain⟨q1,rfl⟩:=by simpa [hlt] using hj
     obtain⟨x,hx⟩:=(hc j az).1;rw[show rows.length*z+(j-rows.length*z)=j by omega,hx];rfl
   ·have:=iM z k.len
    simp;omega
theorem td.rep {w:World} {S:Nat→Prop} {z:Nat} {rows:List (List TC)} {v:Value} {A:Option Addr} {c:Nat} {bA:List yU} (h:td w S z rows v A c bA) {R:Nat→Prop}:ah w R .deep S (.sub z rows) v:=by
 rw[h.val];have hfl:=aW h.width
 have N7:bA.length=rows.length*z:=by have:=congrArg List.length h.tcs;rw[hfl,dH] at this;exact this.symm
 have o6: ∀{i f:Nat} {tc:TC},mB rows i f=some tc→ ∃t,bA[i*z+f]?=some t∧t.tc=tc∧f<z∧i<rows.length:=fun {i f tc} ht=>by
  obtain⟨h1,h2,h3⟩:=lG h.width ht;rw[h.tcs,ei] at h1
  cases hq:bA[i*z+f]? with
  |none=>rw[hq] at h1;cases h1
  |some t=>rw[hq] at h1;exact⟨t,rfl,by simpa using h1,h2,h3⟩
 have PZ: ∀{i f i' f':Nat},f<z→f'<z→i*z+f=i'*z+f'→i=i'∧f=f':=fun {i f i' f'} h1 h2 e=>by
  have e1:(i*z+f)/z=i:=by rw[Nat.mul_comm,Nat.mul_add_div h.z0,Nat.div_eq_of_lt h1,jU]
  have e2:(i'*z+f')/z=i':=by rw[Nat.mul_comm,Nat.mul_add_div h.z0,Nat.div_eq_of_lt h2,jU]
  have:i=i':=by rw[←e1,e,e2]
  subst this;exact⟨rfl,by omega⟩
 refine .sub _ _ z rows A c (fun i f=>(bA[i*z+f]?.map (·.val)).getD default) (fun i f k=>f<z∧ ∃t,bA[i*z+f]?=some t∧t.own k) ⟨h.le,h.cap,h.z0,h.width,?_,?_,fun hm=>(by cases hm),fun _=>⟨h.none,?_⟩,?_,?_⟩ ?_
 ·intro hne
  cases hA:A with
  |none=>
   have h1:=h.none hA;have h2:=h.le;rw[h1] at h2;exact absurd (sn az) hne
  |some ad=>exact⟨ad,rfl⟩
 ·intro ad ha i f tc ht
  obtain⟨t,h1,rfl,h2,h3⟩:=o6 ht;obtain⟨_,hs,⟨sp,hr,_⟩,_⟩:=h.row ad ha;have:=hr (i*z+f) t.val (by rw[e9 (by rw[dH];exact(List.getElem?_eq_some_iff.1 h1).1),ei,h1];rfl);obtain⟨b0,o0,s0⟩:=ad
  cases hs
  rw[Addr.add_lit,h1];exact this
 ·intro ad ha
  obtain⟨hS,hs,⟨sp,hr,hl⟩,hf,_⟩:=h.row ad ha;refine⟨hS,hs,fun j hj=>⟨⟨_,hr j _ (aO (by rw[hl];exact hj))⟩,hf j hj⟩⟩
 ·intro _ h1 ad ha i
  exact(h.row ad ha).2.2.2.2 h1 i
 ·rintro _ i f k ⟨hf,t,ht,hk⟩
  have hm:=dw ht;refine⟨(h.sub t hm k hk).1,(h.sub t hm k hk).2,fun i' f'=> ?_⟩;rintro⟨hf',t',ht',hk'⟩
  by_cases e:i*z+f=i'*z+f'
  ·have:=PZ hf hf' e
   exact⟨this.1.symm,this.2.symm⟩
  ·have hp:=List.pairwise_iff_getElem.1 h.gZ
   obtain⟨l1,e1⟩:=List.getElem?_eq_some_iff.1 ht;obtain⟨l2,e2⟩:=List.getElem?_eq_some_iff.1 ht';rcases Nat.lt_or_gt_of_ne e with hlt|hlt
   ·exact absurd hk' (by have:=hp _ _ l1 l2 hlt;rw[e1,e2] at this;exact this k hk)
   ·exact absurd hk (by have:=hp _ _ l2 l1 hlt;rw[e1,e2] at this;exact this k hk')
 ·intro i f tc ht
  obtain⟨t,h1,rfl,h2,h3⟩:=o6 ht;have:=h.ok t (dw h1)
  have e:(bA[i*z+f]?.map (·.val)).getD default=t.val:=by rw[h1];rfl
  show ah w R .deep _ t.tc ((bA[i*z+f]?.map (·.val)).getD default);rw[e];exact ah.mono (ah.O9 this) fun k hk=>⟨h2,t,h1,hk⟩
theorem JY.put {w:World} {b off:Nat} {L us:List Value} (h:JY w b off L) {p:Nat} (hp:p+us.length≤L.length):JY (w.setCells b (off+p) us) b off (L.take p++us++L.drop (p+us.length)):=by
 intro k y hk
 have hs: ∀j,j<us.length→(w.cell? ⟨b,off+p+j,none⟩).isSome=true:=fun j hj=>by
  rw[mm,h (p+j) _ (aO az)];rfl
 by_cases h1:k<p
 ·rw[sj,e9 (by rw[g7];omega),wI,aY h1] at hk
  rw[World.cell?_setCells_out b us _ _ _ (fun _ _=> .inl (by show off+k<off+p;omega))];exact h k y hk
 ·by_cases h2:k<p+us.length
  ·rw[sj,fZ (by rw[g7];omega),e9 (by rw[g7];omega),g7,Nat.min_eq_left az] at hk
   have hl:k-p<us.length:=by omega
   have:=World.cell?_setCells_in b us (off+p) w hs (k-p) hl;rw[show off+p+(k-p)=off+k by omega] at this;rw[this,←hk,aO hl]
  ·rw[fZ (by rw[cE,g7];omega),iL,cE,g7,Nat.min_eq_left az] at hk
   rw[World.cell?_setCells_out b us _ _ _ (fun _ _=> .inr (by show off+p+us.length≤off+k;omega))];exact h k y (by rw[←hk];congr 1;omega)
theorem FA {w:World} {a:Addr} {y:Value} (h:w.cell? a=some y):a.block<w.heap.size:=by
 unfold World.cell? at h
 split at h
 ·rename_i hh;exact(Array.getElem?_eq_some_iff.1 hh).1
 ·cases h
end Go.T
namespace Go.T
variable {F : Nat → Prop} {A : Arg} {w0 w w' : World} {φ φ' φ1 : Fp} {st st' sta bD : TS} {tm sO : Array Value} {C : e7}
theorem oK {z:Nat}: ∀{rows:List (List TC)},(∀r∈rows,r.length=z)→ ∀i,(rows.take i).flatten=rows.flatten.take (i*z)
 |[],_,i=>by simp
 |r::rs,hw,0=>by simp
 |r::rs,hw,i+1=>by
  have hr:=hw r (.head _);rw[List.take_succ_cons,qn,qn,oK (fun r hr=>hw r (.tail _ hr)) i,yt,List.take_append,hr];rw[KP (by omega:r.length≤i*z+z),show i*z+z-z=i*z by omega]
theorem oL {z:Nat}: ∀{rows:List (List TC)},(∀r∈rows,r.length=z)→ ∀i,(rows.drop i).flatten=rows.flatten.drop (i*z)
 |[],_,i=>by simp
 |r::rs,hw,0=>by simp
 |r::rs,hw,i+1=>by
  have hr:=hw r (.head _);rw[List.drop_succ_cons,qn,oL (fun r hr=>hw r (.tail _ hr)) i,yt,List.drop_append,hr];rw[AI (by omega:r.length≤i*z+z),mj,show i*z+z-z=i*z by omega]
def yU.out (t:yU):yU:=⟨.any,t.val,fun _=>False⟩
theorem wP {z:Nat}: ∀n,(List.replicate n (List.replicate z TC.any)).flatten=List.replicate (n*z) TC.any
 |0=>by simp
 |n+1=>by
  rw[List.replicate_succ,qn,wP n,yt,Nat.add_comm,List.replicate_append_replicate]
theorem JZ (l:List yU):(l.map yU.out).map (·.tc)=List.replicate l.length .any:=by
 induction l with
 |nil=>rfl
 |cons a l ih=>rw[List.map_cons,List.map_cons,ih,dL,List.replicate_succ];rfl
theorem Io (l:List yU):(l.map yU.out).map (·.val)=l.map (·.val):=by
 rw[List.map_map];rfl
attribute [local semireducible] dO cF in
theorem td.move {S:Nat→Prop} {z:Nat} {rows:List (List TC)} {v:Value} {Ad:Option Addr} {c:Nat} {bA:List yU} (o:td w S z rows v Ad c bA) {l h:Int} (h0:0≤l) (h1:l≤h) (h2:h≤rows.length):
 ∃N8 itm:List yU,td w (fun k=>S k∧ ¬ ∃t∈itm,t.own k) z (dO z rows l h) v Ad c N8∧(dO z rows l h).length=rows.length∧(cF rows l h).flatten=itm.map (·.tc)∧itm.map (·.val)=((bA.map (·.val)).take (h.toNat*z)).drop (l.toNat*z)∧
  (∀t∈itm,t.ok w∧ ∀k,t.own k→S k∧ ∀ad,Ad=some ad→k≠ad.block)∧itm.Pairwise yU.apart∧(∀r∈cF rows l h,r.length=z):=by
 obtain⟨a,ha⟩: ∃a,a=l.toNat:=⟨_,rfl⟩;obtain⟨b,hb⟩: ∃b,b=h.toNat:=⟨_,rfl⟩
 have hab:a≤b:=by omega
 have He:b≤rows.length:=by omega
 have lt:=o.width
 have li:bA.length=rows.length*z:=by
  have:=congrArg List.length o.tcs;rw[aW o.width,dH] at this;exact this.symm
 have e1:=iM z hab;have e2:=iM z He;obtain⟨i1,hi1⟩: ∃i1,i1=bA.take (a*z):=⟨_,rfl⟩;obtain⟨i2,hi2⟩: ∃i2,i2=(bA.take (b*z)).drop (a*z):=⟨_,rfl⟩;obtain⟨i3,CR⟩: ∃i3,i3=bA.drop (b*z):=⟨_,rfl⟩
 have hsplit:bA=i1++i2++i3:=by
  rw[hi1,hi2,CR];have q1:=Hi (b*z) bA;have q2:=Hi (a*z) (bA.take (b*z));rw[List.take_take,Nat.min_eq_left e1] at q2;rw[q2,q1]
 have l1:i1.length=a*z:=by rw[hi1,g7];omega
 have l2:i2.length=(b-a)*z:=by rw[hi2,pg,g7,Nat.sub_mul];omega
 have hd:=o.gZ;rw[hsplit] at hd;obtain⟨d12,d3,d123⟩:=List.pairwise_append.1 hd;obtain⟨d1,d2,dc⟩:=List.pairwise_append.1 d12
 have m1: ∀t∈i1,t∈bA:=fun t ht=>by rw[hsplit];exact dD _ (dD _ ht)
 have m2: ∀t∈i2,t∈bA:=fun t ht=>by rw[hsplit];exact dD _ (ga _ ht)
 have m3: ∀t∈i3,t∈bA:=fun t ht=>by rw[hsplit];exact ga _ ht
 have hv:(i1++i2.map yU.out++i3).map (·.val)=bA.map (·.val):=by
  rw[hsplit];simp only[yo,Io]
 have hlen:(dO z rows l h).length=rows.length:=by
  unfold dO;rw[←ha,←hb];simp only[cE,g7,List.length_replicate,pg];omega
 have hfl:(dO z rows l h).flatten=(i1++i2.map yU.out++i3).map (·.tc):=by
  unfold dO;rw[←ha,←hb,Fo,Fo,oK lt,oL lt,wP,yo,yo,JZ,l2,o.tcs,hi1,CR,CV,AJ]
 have anyA: ∀t∈i2.map yU.out,∀k,¬t.own k:=fun t ht k hk=>by
  obtain⟨t0,_,rfl⟩:=List.mem_map.1 ht;exact hk
 refine⟨i1++i2.map yU.out++i3,i2,⟨?_,by rw[hlen];exact o.le,o.cap,o.z0,fun r hr=> ?_,hfl,fun t ht=> ?_,?_,fun t ht k hk=> ?_,o.none,fun ad e=> ?_⟩,hlen,?_,?_,fun t ht=>⟨o.ok t (m2 t ht),fun k hk=>o.sub t (m2 t ht) k hk⟩,d2,fun r hr=> ?_⟩
 ·rw[hlen];exact o.val
 ·unfold dO at hr
  rcases List.mem_append.1 hr with hr|hr
  ·rcases List.mem_append.1 hr with hr|hr
   ·exact lt r (wJ hr)
   ·rw[List.eq_of_mem_replicate hr,List.length_replicate]
  ·exact lt r (yp hr)
 ·rcases List.mem_append.1 ht with ht|ht
  ·rcases List.mem_append.1 ht with ht|ht
   ·exact o.ok t (m1 t ht)
   ·obtain⟨t0,h0,rfl⟩:=List.mem_map.1 ht
    have:=o.ok t0 (m2 t0 h0);exact .any _ _ _ ⟨jD this,ah.cells this⟩
  ·exact o.ok t (m3 t ht)
 ·refine List.pairwise_append.2 ⟨List.pairwise_append.2 ⟨d1,?_,fun x hx y hy k _ hk=>anyA y hy k hk⟩,d3,fun x hx y hy=> ?_⟩
  ·rw[List.pairwise_map]
   exact d2.imp fun _ k hk=>hk.elim
  ·rcases List.mem_append.1 hx with hx|hx
   ·exact d123 x (dD _ hx) y hy
   ·exact fun k hk=>(anyA x hx k hk).elim
 ·rcases List.mem_append.1 ht with ht|ht
  ·rcases List.mem_append.1 ht with ht|ht
   ·exact⟨⟨(o.sub t (m1 t ht) k hk).1,fun⟨t',ht',hk'⟩=>dc t ht t' ht' k hk hk'⟩,(o.sub t (m1 t ht) k hk).2⟩
   ·exact(anyA t ht k hk).elim
  ·exact⟨⟨(o.sub t (m3 t ht) k hk).1,fun⟨t',ht',hk'⟩=>d123 t' (ga _ ht') t ht k hk' hk⟩,(o.sub t (m3 t ht) k hk).2⟩
 ·obtain⟨r1,r2,r3,r4⟩:=o.row ad e
  refine⟨⟨r1,fun⟨t,ht,hk⟩=>(o.sub t (m2 t ht) _ hk).2 ad e rfl⟩,r2,?_,r4⟩;rw[hv];exact r3
 ·unfold cF
  rw[←ha,←hb,oL (fun r hr=>lt r (wJ hr)),oK lt,o.tcs,hi2,AJ,CV]
 ·rw[←ha,←hb,hi2,AJ,CV]
 ·unfold cF at hr
  exact lt r (wJ (yp hr))
theorem aq.Nl (h:aq F A w0 φ st tm w) {o g:Nat} {z:Nat} {rows:List (List TC)} (hb:aa o st.ob=some ⟨true,z,rows⟩) {l hh:Int} (h0:0≤l) (h1:l≤hh) (h2:hh≤rows.length) (hg:g≠0) (OY:g≠o):
 ∃φ2,aq F A w0 φ2 (sR g o ⟨true,z,rows⟩ l hh st) tm w∧φ2.β=φ.β∧(∀d,d≠g→φ2.V d=φ.V d)∧(∀d k,d≠g→φ2.S d k→φ.S d k)∧
  ∃vs X,vs.length=(cF rows l hh).length*z∧(∀r∈cF rows l hh,r.length=z)∧(∀vX,pE z rows.length l hh (φ.V o) vX→ ∀ad n c,vX= .slice (some ad) n c→ ∀(j:Nat) (x:Value),vs[j]?=some x→w.cell? (ad.add j)=some x)∧
   ∀sta:TS,aj sta.ob g→eH w φ2 sta (T.fC g sta) (bJ .deep (cF rows l hh).flatten vs) X (fun _=>False):=by
 have hin:aj st.ob o:=⟨_,hb⟩;have hO:ah w φ.I .deep (φ.S o) (.sub z rows) (φ.V o):=h.obj o _ hb;obtain⟨Ad,c,bA,op⟩:=hO.opened;obtain⟨N8,itm,op',e1,e2,e3,e4,e5,e6⟩:=op.move h0 h1 h2;have hS: ∀t∈itm,∀k,t.own k→φ.S o k:=fun t ht k hk=>((e4 t ht).2 k hk).1
 have w1:=h.j7 (w':=w) (b':=⟨true,z,dO z rows l hh⟩) (X:=fun k=>φ.S o k∧ ¬ ∃t∈itm,t.own k) hb rfl e1 op'.rep h.frm (bE _) (fun _ _ _=>rfl)
  (fun k hk=>h.sep.fresh o k hin hk.1) (fun k hk=>h.sep.read o k hin hk.1) (fun k d hk hne hd hs=>hne (h.sep.apart d o k hd hin hs hk.1)) (fun b cs wE hw hk=>(h.sep.box b cs wE hw).2.1 o hin hk.1)
 have gT: ∀d,aj (T.j7 o ⟨true,z,dO z rows l hh⟩ st).ob d→aj st.ob d:=fun d hd=>by
  have:aj (fR o ⟨true,z,dO z rows l hh⟩ st.ob) d:=hd;rw[dF] at this;exact this.elim (fun e=>e▸hin) id
 have w2:=w1.qq (o:=g) (b:=⟨true,1,[]⟩) (X:=fun k=> ∃t∈itm,t.own k) (v:= .slice none 0 0) hg (mF (Nat.lt_succ_self 0)) (fun k ⟨t,ht,hk⟩=>h.sep.fresh o k hin (hS t ht k hk)) (fun k ⟨t,ht,hk⟩=>h.sep.read o k hin (hS t ht k hk))
  (fun k d ⟨t,ht,hk⟩ hne hd hs=>by
    by_cases e:d=o
    ·subst e
     have hs:(if d=d then φ.S d k∧ ¬ ∃t∈itm,t.own k else φ.S d k):=hs;rw[aY rfl] at hs;exact hs.2 ⟨t,ht,hk⟩
    ·rw[kD e] at hs
     exact e (h.sep.apart d o k (gT d hd) hin hs (hS t ht k hk)))
  (fun b cs wE hw ⟨t,ht,hk⟩=>by
    obtain⟨cs0,hc0,_⟩:=cO _ b cs wE
    exact(h.sep.box b cs0 hc0 hw).2.1 o hin (hS t ht _ hk))
 have lits:bA.length=rows.length*z:=by
  have:=congrArg List.length op.tcs;rw[aW op.width,dH] at this;exact this.symm
 have litm:itm.length=(cF rows l hh).length*z:=by
  have:=congrArg List.length e2;rw[aW e6,dH] at this;exact this.symm
 refine⟨_,w2,rfl,fun d hd=> ?_,fun d k hd hs=> ?_,itm.map (·.val),fun i k=> ∃t,itm[i]?=some t∧t.own k,by rw[dH];exact litm,e6,fun vX hc ad n c' ev j x hj=> ?_,fun sta hgd=>⟨fun i it hi=> ?_,fun i k hi hk=>⟨id,g,hgd,fun hd=>(dN.1 hd).1 rfl,?_⟩,fun k hk=>hk.elim,fun i j k hi hj hk hk'=> ?_,bN.kill sta g⟩⟩
 ·show(if d=g then _ else if d=o then φ.V o else φ.V d)=φ.V d
  rw[aH hd]
  split
  ·subst_vars;rfl
  ·rfl
 ·rw[kD hd] at hs
  by_cases e:d=o
  ·subst e
   have hs:(if d=d then φ.S d k∧ ¬ ∃t∈itm,t.own k else φ.S d k):=hs;rw[aY rfl] at hs;exact hs.1
  ·rw[kD e] at hs;exact hs
 ·obtain⟨c1,c2,c3,A0,A',c0,f1,f2,f3,f4,f5⟩:=hc
  rw[op.val] at f1
  cases f1
  rw[ev] at f2
  cases f2
  obtain⟨ad0,hA⟩: ∃ad0,Ad=some ad0:=by
   cases hA:Ad with
   |none=>have:=f4 hA;cases this
   |some ad0=>exact⟨ad0,rfl⟩
  obtain⟨_,hsp,⟨sp,hr,hrl⟩,_⟩:=op.row ad0 hA;rw[e3] at hj;have hjl:=(List.getElem?_eq_some_iff.1 hj).1;rw[pg,g7,dH,lits] at hjl;rw[iL,wI] at hj
  split at hj
  ·have hbz:hh.toNat*z≤rows.length*z:=iM z az
   have hx:=hr _ x (by rw[e9 (by rw[dH,lits];exact dI MF hbz)];exact hj);have hle:=op.le;have hz:=op.z0
   have hne:c≠l.toNat:=fun e=>by
    have:hh.toNat≤l.toNat:=by omega
    have:=iM z this;omega
   have:=f3 hne;rw[hA] at this;simp only[eL,aE] at this;obtain⟨b0,o0,s0⟩:=ad0
   cases hsp
   rw[this,Addr.add_add,Addr.add_lit];rw[←mm] at hx;rw[show o0+(l.toNat*z+j)=o0+l.toNat*z+j by omega];exact hx
  ·cases hj
 ·obtain⟨tc,v,t1,t2,rfl⟩:=fq hi
  rw[e2,ei] at t1;rw[ei] at t2
  cases hq:itm[i]? with
  |none=>rw[hq] at t1;cases t1
  |some t=>
   rw[hq] at t1 t2;simp only[eL,aE] at t1 t2;subst t1 t2;exact ah.mono (ah.O9 (e4 t (dw hq)).1) fun k hk=>⟨t,rfl,hk⟩
 ·obtain⟨t,ht,hk⟩:=hk
  show(if g=g then ∃t∈itm,t.own k else _);rw[aY rfl];exact⟨t,dw ht,hk⟩
 ·obtain⟨t,ht,hk⟩:=hk
  obtain⟨t',ht',hk'⟩:=hk';obtain⟨l1,q1⟩:=List.getElem?_eq_some_iff.1 ht;obtain⟨l2,q2⟩:=List.getElem?_eq_some_iff.1 ht';have hp:=List.pairwise_iff_getElem.1 e5;rcases Nat.lt_trichotomy i j with hlt|rfl|hlt
  ·exact absurd hk' (by have:=hp _ _ l1 l2 hlt;rw[q1,q2] at this;exact this k hk)
  ·rfl
  ·exact absurd hk (by have:=hp _ _ l2 l1 hlt;rw[q1,q2] at this;exact this k hk')
end Go.T
namespace Go.T
variable {F : Nat → Prop} {A : Arg} {w0 w w' : World} {φ φ' : Fp} {st st' sta bD gn : TS} {tm sO : Array Value} {C : e7}
variable {R : Type} {cf : Cf} {lp : Lp} {Q : R → Prop}
theorem A9 {e:TypeId} {z:Nat} (h:vl C e z=true):nk (C.tt e)=true∧z=(C.tt e).size:=by
 unfold vl at h
 split at h
 ·exact⟨by assumption,cY h⟩
 ·cases h
attribute [local semireducible] cM in
theorem yV {rows:List (List TC)} (h:cM rows=true): ∀(p:Nat) (tc:TC),rows.flatten[p]?=some tc→ ∃v,tc= .sc v:=fun p tc hp=>by
 have hm:=dw hp;obtain⟨r,hr,hc⟩:=List.mem_flatten.1 hm;have h1:=List.all_eq_true.1 h r hr;have h2:=List.all_eq_true.1 h1 tc hc
 cases tc with
 |any=>cases h2
 |sc v=>exact⟨v,rfl⟩
 |sub z rows=>cases h2
structure LU (w:World) (φ:Fp) (st sta:TS) (dp:Bool) (z:Nat) (rows:List (List TC)) (vS:Value) (M:Mode) (rD:List Value) (X1:Nat→Nat→Prop) (Z1:Nat→Prop) (Ad:Option Addr) (c:Nat):Prop where
 val:vS= .slice Ad rows.length c
 parts:eH w φ st sta (bJ M rows.flatten rD) X1 Z1
 width: ∀r∈rows,r.length=z
 len:rD.length=rows.length*z
 le:rows.length≤c
 max:c≤maxLen
 at':(Ad=none∧rows=[]∧c=0)∨ ∃ad,Ad=some ad∧ad.spot=none∧(∃o,aj st.ob o∧ ¬aj sta.ob o∧φ.S o ad.block)∧(∀(j:Nat) (v:Value),rD[j]?=some v→w.cell? (ad.add j)=some v)∧
    (∀j,j<c*z→(∃x,w.cell? ⟨ad.block,ad.off+j,none⟩=some x)∧w.frozen? ⟨ad.block,ad.off+j,none⟩=false)∧(∀i k,X1 i k→k≠ad.block)∧(∀k,Z1 k→k≠ad.block)∧(1<z→ ∀i,w.frozen? ⟨ad.block,i,none⟩=false)
theorem uC (h:aq F A w0 φ st tm w) {cs:CE} {vS:Value} (hc:bn st.ob w φ cs vS) {o:Option Nat} {z:Nat} {dp:Bool} {rows:List (List TC)} (hb:nq st cs=some (o,z,dp,rows)) {M:Mode} (hM:M= .snap∨M= .deep∧dp=true):
 0<z∧aq F A w0 φ (gf o st) tm w∧ ∃rD X1 Z1 Ad c,LU w φ st (gf o st) dp z rows vS M rD X1 Z1 Ad c:=by
 unfold nq at hb
 split at hb
 ·cases hb
  obtain⟨rfl,hz⟩:=hc;exact⟨hz,h,[],_,_,none,0,rfl,eH.nil _,fun r hr=>(by cases hr),by simp,bE _,so _,.inl ⟨rfl,rfl,rfl⟩⟩
 ·rename_i o' cut
  cases hl:aa o' st.ob with
  |none=>rw[hl] at hb;cases hb
  |some b=>
   obtain⟨d0,z0,gq⟩:=b;rw[hl] at hb
   cases hb
   obtain⟨b0,e0,ql⟩:=hc;rw[hl] at e0
   cases e0
   have hr:=fD.cut (h.obj o' _ hl) ql
   have hm:OB.m ⟨dp,z,gq⟩≠ .snap:=by unfold OB.m;split<;>simp
   obtain⟨rD,X1,Z1,l1,p1,a1⟩:=ah.parts h ⟨_,hl⟩ hr hm (M:=M) (hM.imp id fun⟨e1,e2⟩=>⟨e1,by rw[e2];rfl⟩);obtain⟨_,_,ou,hz,_⟩:=hr.vals;refine⟨hz,h.fC o',rD,X1,Z1,?_⟩
   cases hr with
   |sub _ _ _ _ Ad c u T k hn=>
    refine⟨Ad,c,rfl,p1,ou,l1,k.len,k.cap,?_⟩
    cases Ad with
    |none=>
     have hne:CZ cut gq=[]:=Classical.byContradiction fun hne=>by obtain⟨ad,h⟩:=k.addr hne;cases h
     exact .inl ⟨rfl,hne,(k.own hm).1 rfl⟩
    |some ad=>
     obtain⟨hS,hs,hall⟩:=(k.own hm).2 ad rfl;obtain⟨q1,q2,q3⟩:=a1 ad _ _ rfl;exact .inr ⟨ad,rfl,hs,⟨o',⟨_,hl⟩,fun hd=>(dN.1 hd).1 rfl,hS⟩,q1,hall,q2,q3,fun G6=>k.soft hm G6 ad rfl⟩
 ·cases hb
theorem J0 (h:aq F A w0 φ st tm w) {g6:TS} (hsub:bN st g6) {cx:CE} {vX:Value} (hc:bn g6.ob w φ cx vX) {tx e':TypeId} (hk:C.P.underlying tx=some (.slice e')) {z:Nat} {rows:List (List TC)} {bD:TS} {d1:Bool} (hab:gu cx st=some (.sub z rows,bD,d1))
 {M:Mode} (hM:M= .snap∨M= .deep∧d1=true):aq F A w0 φ bD tm w∧ ∃o7 X2 Z2,eH w φ st bD (bJ M rows.flatten o7) X2 Z2∧(∀r∈rows,r.length=z)∧o7.length=rows.length*z∧Src C.P z tx vX rows.length o7 w:=by
 unfold gu at hab
 split at hab
 ·cases hab
 ·cases hab
  obtain⟨rfl,hz⟩:=hc;exact⟨h,[],_,_,eH.nil _,fun r hr=>(by cases hr),by simp,Src.ofNil w hk 0⟩
 ·rename_i o cut
  cases hl:aa o st.ob with
  |none=>rw[hl] at hab;cases hab
  |some b=>
   obtain⟨d0,z0,gq⟩:=b;rw[hl] at hab
   cases hab
   obtain⟨b0,e0,ql⟩:=hc;rw[hsub.ob _ _ hl] at e0
   cases e0
   have hr:=fD.cut (h.obj o _ hl) ql
   have hm:OB.m ⟨d1,z,gq⟩≠ .snap:=by unfold OB.m;split<;>simp
   obtain⟨rD,X1,Z1,l1,p1,a1⟩:=ah.parts h ⟨_,hl⟩ hr hm (M:=M) (hM.imp id fun⟨e1,e2⟩=>⟨e1,by rw[e2];rfl⟩);obtain⟨_,_,ou,hz,_⟩:=hr.vals;refine⟨h.fC o,rD,X1,Z1,p1,ou,l1,yT hr hk rfl l1 (fun ad n c e=>(a1 ad n c e).1) fun y hy=> ?_⟩;obtain⟨j,hj,rfl⟩:=List.mem_iff_getElem.1 hy;exact jD (p1.ok j _ (fJ (aO (by rw[aW ou,←l1];exact hj)) (aO hj)))
 ·rename_i l z0 gq
  cases hab
  have PT:M= .snap:=hM.elim id fun⟨_,e⟩=>by cases e
  subst PT;have hr:=hc.2.1;obtain⟨vs,l1,ou,hz,hcell,nE⟩:=hr.vals
  have hok: ∀(i:Nat) (it:It),(bJ .snap rows.flatten vs)[i]?=some it→it.1= .snap∧ah w (fun k=>φ.I k∨False) .snap vg it.2.1 it.2.2:=fun i it hi=>by
   obtain⟨tc,v,h1,h2,rfl⟩:=fq hi;obtain⟨T,hT⟩:=nE i tc v h1 h2;exact⟨rfl,hT.gU fun k hk=>hk.elim .inl fun⟨d,hd,_⟩=>by cases hd⟩
  refine⟨h,vs,fun _ _=>False,fun _=>False,⟨fun i it hi=> ?_,fun _ _ _ hk=>hk.elim,fun _ hk=>hk.elim,fun _ _ _ _ _ hk=>hk.elim,bN.refl _⟩,ou,l1,yT hr hk rfl l1 hcell fun y hy=> ?_⟩
  ·obtain⟨e1,e2⟩:=hok i it hi
   rw[e1];exact e2
  ·obtain⟨j,hj,rfl⟩:=List.mem_iff_getElem.1 hy
   exact jD (hok j _ (fJ (aO (by rw[aW ou,←l1];exact hj)) (aO hj))).2
 ·cases hab
theorem GG (h:aq F A w0 φ st tm w) {cx:CE} {vX:Value} (hc:bn st.ob w φ cx vX) {tx e':TypeId} (hk:C.P.underlying tx=some (.slice e')) {z:Nat} {rows:List (List TC)} (hr:fT st cx=some (z,rows)) (hsc:cM rows=true) (M:Mode) (sta:TS):
 ∃o7,eH w φ sta sta (bJ M rows.flatten o7) (fun _ _=>False) (fun _=>False)∧(∀r∈rows,r.length=z)∧o7.length=rows.length*z∧Src C.P z tx vX rows.length o7 w:=by
 obtain⟨nE,_⟩:=iO h hc hr;obtain⟨vs,l1,ou,hz,hcell,Gk⟩:=nE.vals
 have hok: ∀(M:Mode) (i:Nat) (it:It),(bJ M rows.flatten vs)[i]?=some it→ ∃v,it=(M,.sc v,v)∧xe v:=fun M i it hi=>by
  obtain⟨tc,v,h1,h2,rfl⟩:=fq hi;obtain⟨T,hT⟩:=Gk i tc v h1 h2;obtain⟨v',rfl⟩:=yV hsc i tc h1
  cases hT with
  |sc _ _ _ hs=>exact⟨_,rfl,hs⟩
 refine⟨vs,⟨fun i it hi=> ?_,fun _ _ _ hk=>hk.elim,fun _ hk=>hk.elim,fun _ _ _ _ _ hk=>hk.elim,bN.refl _⟩,ou,l1,yT nE hk rfl l1 hcell fun y hy=> ?_⟩
 ·obtain⟨v,rfl,hs⟩:=hok M i it hi
  exact .sc _ _ _ hs
 ·obtain⟨j,hj,rfl⟩:=List.mem_iff_getElem.1 hy
  obtain⟨v,e1,hs⟩:=hok .deep j _ (fJ (aO (by rw[aW ou,←l1];exact hj)) (aO hj))
  have:vs[j]=v:=by have:=congrArg (fun it:It=>it.2.2) e1;exact this
  rw[this]
  cases v<;>first|rfl|cases hs
theorem wQ {g o p:Nat} {b:OB} {l h:Int} (h1:p≠g) (h2:p≠o):aa p (sR g o b l h st).ob=aa p st.ob:=by
 show aa p (fR g _ (g9 g (fR o _ st.ob)))=_;rw[bS,aH h1,dr,aH h1,bS,aH h2]
theorem yW {g o:Nat} {b:OB} {l h:Int}:aj (sR g o b l h st).ob g:=by
 refine⟨⟨true,1,[]⟩,?_⟩;show aa g (fR g _ (g9 g (fR o _ st.ob)))=_;rw[bS,aY rfl]
theorem EK (hT:ct C) {a:Act} (h:aq F A w0 φ st a.tmps w) {o:Oper} {s x:Operand} {t t':TypeId} (ho:o.op= .call {callee:= .builtin .append,args:= #[s,x],argTypes:= #[t,t']}) {K:TS→Ev R} (hd: ∀d,o.dst=some d→d<a.tmps.size) {d:Nat} (ef:o.dst=some d)
 {e:TypeId} (he:nj C t=some e) {cs cx:CE} (hcs:me (iZ C st t s)=some cs) {oo:Option Nat} {z:Nat} {dp:Bool} {rows:List (List TC)} (hb:nq st cs=some (oo,z,dp,rows)) (hsz:vl C e z=true) {e2:TypeId} (MX:C.P.underlying t'=some (.slice e2)) (JD:bn st.ob w φ cs (a.eval s)) (KE:bn st.ob w φ cx (a.eval x))
 {ax:List (List TC)} {bD:TS} (KF:Ek d oo dp cx st=some (z,ax,bD)) (hfit:fits (rows.length+ax.length) (C.tt e).bytes=true) (hk:(K (mg d ⟨dp,z,rows++ax⟩ bD)).holds cf lp Q):Ec C F A w0 φ st o a w K cf lp Q:=by
 obtain⟨CO,hz⟩:=A9 hsz;unfold Ek at KF
 split at KF
 ·rename_i o' l hh
  split at KF
  ·rename_i z0 gq hl Li
   simp only[aE,pn] at KF;obtain⟨rfl,rfl,rfl⟩:=KF;rw[Bool.or_eq_false_iff] at Li;obtain⟨JB,OZ⟩:=Li
   have OY:jr d 1 0≠o':=fun e=>by rw[e] at OZ;simp at OZ
   have RA:jr d 1 0≠0:=by unfold jr;omega
   have MY: ∀p,oo=some p→p≠o'∧p≠jr d 1 0:=fun p e=>by
    rw[e] at JB;simp only[Bool.or_eq_false_iff] at JB;exact⟨iY JB.1,iY JB.2⟩
   obtain⟨b0,hb0,ql⟩:=KE;rw[hl] at hb0
   cases hb0
   have ql:pE z0 gq.length l hh (φ.V o') (a.eval x):=ql;obtain⟨φ2,h2,eβ,eV,eS,o7,X2,rY,CJ,hcell,Mu⟩:=h.Nl (g:=jr d 1 0) hl ql.1 ql.2.1 ql.2.2.1 RA OY
   have Lj:bn (sR (jr d 1 0) o' ⟨true,z0,gq⟩ l hh st).ob w φ2 cs (a.eval s)∧nq (sR (jr d 1 0) o' ⟨true,z0,gq⟩ l hh st) cs=some (oo,z0,true,rows):=by
    unfold nq at hb ⊢
    split at hb
    ·cases hb
     exact⟨JD,rfl⟩
    ·rename_i p cut
     obtain⟨bp,QI,RB⟩:=JD;rw[QI] at hb;obtain⟨dq,zq,rq⟩:=bp;simp only[aE,pn] at hb;obtain⟨rfl,rfl,rfl,rfl⟩:=hb;obtain⟨n1,n2⟩:=MY p rfl;have hlk:=wQ (st:=st) (b:=⟨true,zq,gq⟩) (l:=l) (h:=hh) n2 n1;rw[QI] at hlk;refine⟨⟨_,hlk,?_⟩,?_⟩
     ·rw[eV p n2];exact RB
     ·simp only[hlk]
    ·cases hb
   obtain⟨_,hka,rD,X1,Z1,Ad,c,hB⟩:=uC h2 Lj.1 Lj.2 (M:= .deep) (.inr ⟨rfl,rfl⟩)
   have N9:aj (gf oo (sR (jr d 1 0) o' ⟨true,z0,gq⟩ l hh st)).ob (jr d 1 0):=by
    cases oo with
    |none=>exact yW
    |some p=>exact dN.2 ⟨fun e=>(MY p rfl).2 e.symm,yW⟩
   have p2:=Mu _ N9
   have hsrc:Src C.P z0 t' (a.eval x) (cF gq l hh).length o7 w:=by
    refine yT (fD.cut (cut:=some (l,hh)) (h.obj o' _ hl) ql) MX rfl rY (fun ad n c e=>hcell _ ql ad n c e) fun y hy=> ?_;obtain⟨j,hj,rfl⟩:=List.mem_iff_getElem.1 hy;exact jD (p2.ok j _ (fJ (aO (by rw[aW CJ,←rY];exact hj)) (aO hj)))
   obtain⟨v,w',hrun,lY,hsize,hframe⟩:=A8 (ty:=o.type) hT rfl (ld hT he).1 CO h2 (hka.fC (jr d 1 0)) (hd d ef) (dp:=true) hz hB.parts p2 hB.width CJ hB.len rY hB.le hB.max hsrc hB.at' hfit;refine⟨.value v,v,w',_,?_,.inl rfl,by rw[ef];exact lY,hk,hsize,fun k hk KD=>hframe k hk fun ad zZ e=>KD ?_⟩
   ·rw[jY ho]
    simp only[builtin,Sem.run_bind]
    have:(#[s,x].map a.eval)= #[a.eval s,a.eval x]:=by simp
    rw[this,hB.val,hrun]
    rfl
   ·rcases hB.at' with⟨e0,_⟩|⟨ad',e0,_,⟨o2,o21,o22,o23⟩,_⟩
    ·rw[zZ] at e0;cases e0
    ·rw[zZ] at e0
     cases e0
     cases oo with
     |none=>exact absurd o21 o22
     |some p=>
      have:o2=p:=Classical.byContradiction fun hne=>o22 (dN.2 ⟨hne,o21⟩);subst this;obtain⟨n1,n2⟩:=MY o2 rfl
      have g1: ∃q,me (iZ C st t s)=some (.ref o2 q):=by
       unfold nq at hb
       split at hb
       ·cases hb
       ·rename_i p cut
        split at hb
        ·simp only[aE,pn] at hb
         obtain⟨rfl,_⟩:=hb;exact⟨_,hcs⟩
        ·cases hb
       ·cases hb
      obtain⟨q,g1⟩:=g1
      have g2:aj st.ob o2:=by
       obtain⟨b2,hb2⟩:=o21;rw[wQ n2 n1] at hb2;exact⟨b2,hb2⟩
      refine .inr ⟨o2,?_,g2,by rw[e];exact eS o2 _ n2 o23⟩;unfold writes;rw[ho];simp only;refine List.mem_map.2 ⟨o2,?_,rfl⟩
      revert g1
      cases iZ C st t s with
      |v tup es=>
       unfold me
       split
       ·rename_i e0 e1
        intro g1
        cases g1
        simp only[TE.v.injEq] at e1;obtain⟨rfl,rfl⟩:=e1;exact .head _
       ·intro g1;cases g1
       ·intro g1;cases g1
      |_=>intro g1;simp[me] at g1
  ·cases KF
 ·cases KF
theorem J1 (h:aq F A w0 φ st tm w) {cx:CE} {vX:Value} (hc:bn st.ob w φ cx vX) {tx e':TypeId} (hk:C.P.underlying tx=some (.slice e')) {z:Nat} {rows:List (List TC)} (hr:Hy st cx=some (z,rows)) (sta:TS):
 ∃o7,eH w φ sta sta (bJ .snap rows.flatten o7) (fun _ _=>False) (fun _=>False)∧(∀r∈rows,r.length=z)∧o7.length=rows.length*z∧Src C.P z tx vX rows.length o7 w:=by
 unfold Hy at hr
 split at hr
 ·rename_i o' cut
  split at hr
  ·rename_i z0 gq hl
   cases hr
   obtain⟨b0,hb0,ql⟩:=hc;rw[hl] at hb0
   cases hb0
   have nE:=fD.cut (h.obj o' _ hl) ql;obtain⟨vs,l1,ou,hz,hcell,Gk⟩:=nE.vals
   have hok: ∀(i:Nat) (it:It),(bJ .snap (CZ cut gq).flatten vs)[i]?=some it→it.1= .snap∧ah w (fun k=>φ.I k∨False) .snap vg it.2.1 it.2.2:=fun i it hi=>by
    obtain⟨tc,v,t1,t2,rfl⟩:=fq hi;obtain⟨T,hT⟩:=Gk i tc v t1 t2;exact⟨rfl,hT.gU fun k hk=> .inl hk⟩
   refine⟨vs,⟨fun i it hi=> ?_,fun _ _ _ hk=>hk.elim,fun _ hk=>hk.elim,fun _ _ _ _ _ hk=>hk.elim,bN.refl _⟩,ou,l1,yT nE hk rfl l1 hcell fun y hy=> ?_⟩
   ·obtain⟨e1,e2⟩:=hok i it hi
    rw[e1];exact e2.mono fun k hk=>hk.elim
   ·obtain⟨j,hj,rfl⟩:=List.mem_iff_getElem.1 hy
    exact jD (hok j _ (fJ (aO (by rw[aW ou,←l1];exact hj)) (aO hj))).2
  ·cases hr
 ·cases hr
theorem GH (hT:ct C) {a:Act} (h:aq F A w0 φ st a.tmps w) {o:Oper} {args:Array Operand} {ts:Array TypeId} (ho:o.op= .call {callee:= .builtin .append,args,argTypes:=ts}) {K:TS→Ev R} (hd: ∀d,o.dst=some d→d<a.tmps.size) (hk:(gv C st o K).holds cf lp Q):
 Ec C F A w0 φ st o a w K cf lp Q:=by
 unfold gv at hk;rw[ho] at hk;simp only at hk
 split at hk
 ·rename_i d s x t t' ef h1 h2
  have e1:args= #[s,x]:=by cases args;simp at h1;subst h1;rfl
  have e2:ts= #[t,t']:=by cases ts;simp at h2;subst h2;rfl
  subst e1 e2;have P0:=bM hT h t s;have MU:=bM hT h t' x
  have fin: ∀{dp:Bool} {z:Nat} {e:TypeId} {rows ax:List (List TC)} {sta bD:TS} {rD o7:List Value} {X1 X2:Nat→Nat→Prop} {Z1 Z2:Nat→Prop} {Ad:Option Addr} {c:Nat} {cs:CE} {oo:Option Nat},
   nj C t=some e→me (iZ C st t s)=some cs→nq st cs=some (oo,z,(match dp with|true=>true|false=>false),rows)∨True→vl C e z=true→LU w φ st sta dp z rows (a.eval s) (if dp then .deep else .snap) rD X1 Z1 Ad c→(∀ad,Ad=some ad→ ∃o',me (iZ C st t s)=some (.ref o' none)∨(∃q,me (iZ C st t s)=some (.ref o' q))∧True)→
   (∀ad,Ad=some ad→ ∃o' q,me (iZ C st t s)=some (.ref o' q)∧aj st.ob o'∧φ.S o' ad.block)→
   aq F A w0 φ bD a.tmps w→eH w φ sta bD (bJ (if dp then .deep else .snap) ax.flatten o7) X2 Z2→(∀r∈ax,r.length=z)→o7.length=ax.length*z→Src C.P z t' (a.eval x) ax.length o7 w→fits (rows.length+ax.length) (C.tt e).bytes=true→
   (K (mg d ⟨dp,z,rows++ax⟩ bD)).holds cf lp Q→Ec C F A w0 φ st o a w K cf lp Q:=by
   intro dp z e rows ax sta bD rD o7 X1 X2 Z1 Z2 Ad c cs oo he hcs _ hsz hb _ hown CQ p2 CJ rY hsrc hfit hk;obtain⟨CO,hz⟩:=A9 hsz;obtain⟨v,w',hrun,lY,hsize,hframe⟩:=A8 (ty:=o.type) hT rfl (ld hT he).1 CO h CQ (hd d ef) hz hb.parts p2 hb.width CJ hb.len rY hb.le hb.max hsrc hb.at' hfit;refine⟨.value v,v,w',_,?_,.inl rfl,by rw[ef];exact lY,hk,hsize,fun k hk KD=>hframe k hk fun ad zZ e=>KD ?_⟩
   ·rw[jY ho]
    simp only[builtin,Sem.run_bind]
    have:(#[s,x].map a.eval)= #[a.eval s,a.eval x]:=by simp
    rw[this,hb.val,hrun]
    rfl
   ·obtain⟨o',q,g1,g2,g3⟩:=hown ad zZ
    refine .inr ⟨o',?_,g2,by rw[e];exact g3⟩;unfold writes;rw[ho];simp only;refine List.mem_map.2 ⟨o',?_,rfl⟩
    revert g1
    cases iZ C st t s with
    |v tup es=>
     unfold me
     split
     ·rename_i e0 e1
      intro g1
      cases g1
      simp only[TE.v.injEq] at e1;obtain⟨rfl,rfl⟩:=e1;exact .head _
     ·intro g1;cases g1
     ·intro g1;cases g1
    |_=>intro g1;simp[me] at g1
  unfold Ft at hk
  split at hk
  ·rename_i e cs cx he hcs P1
   obtain⟨_,JD⟩:=mC P0 hcs;obtain⟨_,KE⟩:=mC MU P1
   have hown: ∀{oo:Option Nat} {z:Nat} {dp dp':Bool} {rows:List (List TC)} {M:Mode} {rD:List Value} {X1:Nat→Nat→Prop} {Z1:Nat→Prop} {Ad:Option Addr} {c:Nat},nq st cs=some (oo,z,dp,rows)→LU w φ st (gf oo st) dp' z rows (a.eval s) M rD X1 Z1 Ad c→
    ∀ad,Ad=some ad→ ∃o' q,me (iZ C st t s)=some (.ref o' q)∧aj st.ob o'∧φ.S o' ad.block:=fun {oo z dp dp' rows M rD X1 Z1 Ad c} hb hB ad zZ=>by
    unfold nq at hb
    split at hb
    ·cases hb
     rcases hB.at' with⟨e0,_⟩|⟨ad',e0,_,⟨o',o1,o2,o3⟩,_⟩
     ·rw[zZ] at e0;cases e0
     ·exact absurd o1 o2
    ·rename_i o' cut
     cases hl:aa o' st.ob with
     |none=>rw[hl] at hb;cases hb
     |some b=>
      obtain⟨d0,z0,gq⟩:=b;rw[hl] at hb
      cases hb
      rcases hB.at' with⟨e0,_⟩|⟨ad',e0,_,⟨o2,o21,o22,o23⟩,_⟩
      ·rw[zZ] at e0;cases e0
      ·rw[zZ] at e0
       cases e0
       have:o2=o':=Classical.byContradiction fun hne=>o22 (dN.2 ⟨hne,o21⟩);subst this;exact⟨o2,cut,hcs,o21,o23⟩
    ·cases hb
   split at hk
   ·rename_i oo z dp rows hb P2
    split at hk
    ·rename_i b hsz hz1
     have hk2:(match fits (rows.length+b.size) (C.tt e).bytes with|true=>K (mg d ⟨dp,z,rows++sq b⟩ (gf oo st))|false=> .fail:Ev R).holds cf lp Q:=hk;clear hk
     split at hk2
     ·rename_i hfit
      have hz1:=cY hz1;subst hz1;obtain⟨hz,hka,rD,X1,Z1,Ad,c,hB⟩:=uC h JD hb (M:=if dp then .deep else .snap) (by cases dp<;>simp);have hv:=BR KE
      exact fin (oo:=oo) he hcs (.inr trivial) hsz hB (fun ad zZ=>let ⟨o',q,g,_⟩:=hown hb hB ad zZ;⟨o',.inr ⟨⟨q,g⟩,trivial⟩⟩) (hown hb hB) hka (A7 b _ _) (wO b) (by rw[byteCells_length,gM,Nat.mul_one])
       (by rw[hv,gM];exact Src.ofString w (yL hT P2) b) (by rw[gM];exact hfit) hk2
     ·exact hk2.elim
    ·exact hk.elim
   ·rename_i oo z dp rows e2 hb G9
    have MX:=(yM hT G9).1
    split at hk
    ·exact hk.elim
    ·rename_i hsz
     split at hk
     ·split at hk
      ·rename_i z' ax hr
       split at hk
       ·rename_i wG
        have wG:=cY wG;subst wG;have hk2:(match(cM ax&&fits (rows.length+ax.length) (C.tt e).bytes) with|true=>K (mg d ⟨dp,z,rows++ax⟩ (gf oo st))|false=> .fail:Ev R).holds cf lp Q:=hk;clear hk
        split at hk2
        ·rename_i hfit
         simp only[cJ] at hfit;obtain⟨hz,hka,rD,X1,Z1,Ad,c,hB⟩:=uC h JD hb (M:=if dp then .deep else .snap) (by cases dp<;>simp);obtain⟨o7,p2,CJ,rY,hsrc⟩:=GG h KE MX hr hfit.1 (if dp then .deep else .snap) (gf oo st);exact fin (oo:=oo) he hcs (.inr trivial) hsz hB (fun ad zZ=>let ⟨o',q,g,_⟩:=hown hb hB ad zZ;⟨o',.inr ⟨⟨q,g⟩,trivial⟩⟩) (hown hb hB) hka p2 CJ rY hsrc hfit.2 hk2
        ·exact hk2.elim
       ·exact hk.elim
      ·exact hk.elim
     ·split at hk
      ·rename_i z' ax bD KF
       split at hk
       ·rename_i wG
        have wG:=cY wG;subst wG;have hk2:(match fits (rows.length+ax.length) (C.tt e).bytes with|true=>K (mg d ⟨dp,z,rows++ax⟩ bD)|false=> .fail:Ev R).holds cf lp Q:=hk;clear hk
        split at hk2
        ·rename_i hfit
         exact EK hT h ho hd ef he hcs hb hsz MX JD KE KF hfit hk2
        ·exact hk2.elim
       ·exact hk.elim
      split at hk
      ·rename_i z' ax RC
       split at hk
       ·rename_i wG
        have wG:=cY wG;subst wG;have hk2:(match fits (rows.length+ax.length) (C.tt e).bytes with|true=>K (mg d ⟨false,z,rows++ax⟩ (gf oo st))|false=> .fail:Ev R).holds cf lp Q:=hk;clear hk
        split at hk2
        ·rename_i hfit
         obtain⟨hz,hka,rD,X1,Z1,Ad,c,hB⟩:=uC h JD hb (M:= .snap) (.inl rfl);obtain⟨o7,p2,CJ,rY,hsrc⟩:=J1 h KE MX RC (gf oo st);exact fin (oo:=oo) (dp:=false) he hcs (.inr trivial) hsz ⟨hB.val,hB.parts,hB.width,hB.len,hB.le,hB.max,hB.at'⟩ (fun ad zZ=>let ⟨o',q,g,_⟩:=hown hb hB ad zZ;⟨o',.inr ⟨⟨q,g⟩,trivial⟩⟩) (hown hb hB) hka p2 CJ rY hsrc hfit hk2
        ·exact hk2.elim
       ·exact hk.elim
      split at hk
      ·rename_i z' ax bD d1 hab
       split at hk
       ·rename_i wG
        have wG:=cY wG;subst wG;have hk2:(match fits (rows.length+ax.length) (C.tt e).bytes with|true=>K (mg d ⟨dp&&d1,z,rows++ax⟩ bD)|false=> .fail:Ev R).holds cf lp Q:=hk;clear hk
        split at hk2
        ·rename_i hfit
         obtain⟨hz,hka,rD,X1,Z1,Ad,c,hB⟩:=uC h JD hb (M:=if(dp&&d1) then .deep else .snap) (by cases dp<;>cases d1<;>simp);obtain⟨CQ,o7,X2,Z2,p2,CJ,rY,hsrc⟩:=J0 hka hB.parts.sub KE MX hab (M:=if(dp&&d1) then .deep else .snap) (by cases dp<;>cases d1<;>simp);exact fin (oo:=oo) (dp:=dp&&d1) he hcs (.inr trivial) hsz ⟨hB.val,hB.parts,hB.width,hB.len,hB.le,hB.max,hB.at'⟩ (fun ad zZ=>let ⟨o',q,g,_⟩:=hown hb hB ad zZ;⟨o',.inr ⟨⟨q,g⟩,trivial⟩⟩) (hown hb hB) CQ p2 CJ rY hsrc hfit hk2
        ·exact hk2.elim
       ·exact hk.elim
      ·exact hk.elim
   ·exact hk.elim
  ·exact hk.elim
 ·exact hk.elim
end Go.T
namespace Go.T
variable {F : Nat → Prop} {A : Arg} {w0 w w' : World} {φ φ' φ1 : Fp} {st st' sta bD : TS} {tm sO : Array Value} {C : e7}
variable {R : Type} {cf : Cf} {lp : Lp} {Q : R → Prop}
theorem wR {P:Program} {e:TypeId} {z:Nat} {i:TypeInfo} (h:P.info? e=some i) (hz:i.size=z) (w:World):(sizeOf e).run P w= .ok z w:=by
 simp[sizeOf,typeInfo,h,hz]
theorem J2 {R S:Nat→Prop} {m:Mode} {z:Nat} {rows:List (List TC)} {v:Value} (h:ah w R m S (.sub z rows) v): ∃A c,v= .slice A rows.length c∧(rows≠[]→ ∃ad,A=some ad):=by
 cases h with
 |sub _ _ _ _ A c u T k hn=>exact⟨A,c,rfl,k.addr⟩
def Ip (v:Value):yU:=⟨.sc v,v,fun _=>False⟩
attribute [local semireducible] gr in
theorem mH (rows ax:List (List TC)):gr rows ax=ax.take rows.length++rows.drop ax.length:=rfl
theorem J3 (hT:ct C) {a:Act} (h:aq F A w0 φ st a.tmps w) {o:Oper} {args:Array Operand} {ts:Array TypeId} (ho:o.op= .call {callee:= .builtin .copy,args,argTypes:=ts}) {K:TS→Ev R} (hd: ∀d,o.dst=some d→d<a.tmps.size) (hk:(gv C st o K).holds cf lp Q):
 Ec C F A w0 φ st o a w K cf lp Q:=by
 unfold gv at hk;rw[ho] at hk;simp only at hk
 split at hk
 ·rename_i s x t t' h1 h2
  have e1:args= #[s,x]:=by cases args;simp at h1;subst h1;rfl
  have e2:ts= #[t,t']:=by cases ts;simp at h2;subst h2;rfl
  subst e1 e2;have P0:=bM hT h t s;have MU:=bM hT h t' x;unfold KT at hk
  split at hk
  ·rename_i e r cx he hcs P1
   obtain⟨Ed,JD⟩:=mC P0 hcs;obtain⟨_,KE⟩:=mC MU P1
   split at hk
   ·rename_i z rows z' ax hl hr CO
    split at hk
    ·rename_i wG
     simp only[cJ] at wG;have hz1:=cY wG.1;have RD:=cY wG.2;subst hz1
     have hk2:(match cM ax with
      |true=>(match o.dst with
       |some d=>K ((j7 r ⟨true,z,gr rows ax⟩ st).set d (one (.sc (.int .i64 (Int.ofNat (nI ax.length rows.length))))))
       |none=>K (j7 r ⟨true,z,gr rows ax⟩ st))
      |false=> .fail:Ev R).holds cf lp Q:=hk
     clear hk
     split at hk2
     ·rename_i hsc
      have hin:aj st.ob r:=⟨_,hl⟩;obtain⟨b0,hb0,Lh⟩:=JD;rw[hl] at hb0
      cases hb0
      have Lh:a.eval s=φ.V r:=Lh;have hO:ah w φ.I .deep (φ.S r) (.sub z rows) (φ.V r):=h.obj r _ hl;obtain⟨Ad,c,bA,op⟩:=hO.opened;obtain⟨nE,_⟩:=iO h KE hr;obtain⟨vs,l1,ou,hz,hcell,Gk⟩:=nE.vals;obtain⟨A',c',hxval,RE⟩:=J2 nE;obtain⟨hkn,hnp⟩:=nS CO;obtain⟨i,zv,g1,g2,_⟩:=(hT e hkn).info
      have isz:i.size=z:=by rw[g2,RD]
      have hU:=(ld hT he).1
      have lits:bA.length=rows.length*z:=by
       have:=congrArg List.length op.tcs;rw[aW op.width,dH] at this;exact this.symm
      obtain⟨us,Jl⟩: ∃us,us=vs.take (rows.length*z):=⟨_,rfl⟩
      have lus:us.length=nI ax.length rows.length*z:=by
       rw[Jl,g7,l1];rcases Nat.le_total ax.length rows.length with hle|hle
       ·have:=iM z hle
        rw[show nI ax.length rows.length=ax.length from Nat.min_eq_left hle];omega
       ·have:=iM z hle
        rw[show nI ax.length rows.length=rows.length from Nat.min_eq_right hle];omega
      have usS: ∀v∈vs,xe v:=fun v hv=>by
       obtain⟨j,hj,rfl⟩:=List.mem_iff_getElem.1 hv;obtain⟨tc,KC⟩: ∃tc,ax.flatten[j]?=some tc:=⟨_,aO (by rw[aW ou,←l1];exact hj)⟩;obtain⟨T,hT⟩:=Gk j tc _ KC (aO hj);obtain⟨v',rfl⟩:=yV hsc j tc KC
       cases hT with
       |sc _ _ _ hs=>exact hs
      have tcV:ax.flatten=vs.map .sc:=by
       apply List.ext_getElem
       ·rw[aW ou,dH,l1]
       ·intro j h1 h2
        rw[List.getElem_map];have KC:ax.flatten[j]?=some ax.flatten[j]:=aO h1
        have hj':j<vs.length:=by rw[dH] at h2;exact h2
        have hvs:vs[j]?=some vs[j]:=aO hj';obtain⟨T,hT⟩:=Gk j _ _ KC hvs;obtain⟨v',Fj⟩:=yV hsc j _ KC;rw[Fj] at hT ⊢
        cases hT with
        |sc _ _ _ hs=>rfl
      have one1: ∀v∈us,v.oneCell'=true:=fun v hv=>by
       have:=usS v (by rw[Jl] at hv;exact wJ hv)
       cases v<;>first|rfl|cases this
      have Jn: ∀W:World,(∀x,W.cell? x=w.cell? x)→(Builtin.firstCells z (nI ax.length rows.length) (.slice A' ax.length c')).run C.P W= .ok us.toArray W:=fun W hW=>by
       by_cases hne:ax=[]
       ·have h0:us=[]:=sn (by rw[lus,hne];simp)
        subst h0;subst hne
        cases A' with
        |none=>simp[Builtin.firstCells]
        |some ad=>exact run_firstCells_some W z _ ad _ c' [] dh (fun j v hj=>by simp at hj)
       ·obtain⟨ad,rfl⟩:=RE hne
        refine run_firstCells_some W z _ ad _ c' us lus fun j v hj=> ?_;rw[hW];refine hcell ad _ _ hxval j v ?_;rw[Jl,wI] at hj
        split at hj
        ·exact hj
        ·cases hj
      have KG:(gr rows ax).length=rows.length:=by
       rw[mH,cE,g7,pg];omega
      have fin: ∀w',(Builtin.copy_ #[t,t'] o.type #[a.eval s,a.eval x]).run C.P w= .ok (goInt (nI ax.length rows.length)) w'→aq F A w0 (φ.add r (φ.S r) (φ.V r)) (j7 r ⟨true,z,gr rows ax⟩ st) a.tmps w'→w.heap.size≤w'.heap.size→(∀k,k<w.heap.size→ ¬φ.S r k→w'.heap[k]?=w.heap[k]?)→Ec C F A w0 φ st o a w K cf lp Q:=fun w' hrun lY hsz hfr=>by
       have run:(execOp a.eval o).run C.P w= .ok (.value (goInt (nI ax.length rows.length))) w':=by
        rw[jY ho];simp only[builtin,Sem.run_bind]
        have:(#[s,x].map a.eval)= #[a.eval s,a.eval x]:=by simp
        rw[this,hrun]
        rfl
       have wr: ∀k,k<w.heap.size→ ¬Wr st φ (writes C st o) k→w'.heap[k]?=w.heap[k]?:=fun k hk hn=>hfr k hk fun hS=>hn (.inr ⟨r,by
        unfold writes;rw[ho];simp only;refine List.mem_map.2 ⟨r,?_,rfl⟩
        revert hcs
        cases iZ C st t s with
        |v tup es=>
         unfold me
         split
         ·rename_i e0 e1
          intro g1
          cases g1
          simp only[TE.v.injEq] at e1;obtain⟨rfl,rfl⟩:=e1;exact .head _
         ·intro g1;cases g1
         ·intro g1;cases g1
        |_=>intro g1;simp[me] at g1,hin,hS⟩)
       cases ef:o.dst with
       |none=>
        rw[ef] at hk2;exact⟨_,goInt (nI ax.length rows.length),w',_,run,.inl rfl,by rw[ef];exact⟨_,lY⟩,hk2,hsz,wr⟩
       |some d=>
        rw[ef] at hk2;refine⟨_,goInt (nI ax.length rows.length),w',_,run,.inl rfl,?_,hk2,hsz,wr⟩;rw[ef];exact⟨_,lY.Ae (v:=goInt (nI ax.length rows.length)) (hd d ef) ⟨_,rfl,_,rfl,rfl,rfl,trivial⟩⟩
      have hX:=fun k hk=>h.sep.fresh r k hin hk
      cases zZ:Ad with
      |none=>
       have hc0:=op.none zZ;have hle:=op.le;have Mm:rows=[]:=sn az
       have KH:gr rows ax=rows:=by rw[mH,Mm];simp
       refine fin w ?_ ?_ (bE _) fun _ _ _=>rfl
       ·rw[Lh,op.val,zZ,hxval]
        simp only[Builtin.copy_,Builtin.lenOf];simp[run_underlying hU,wR g1 isz,Jn w fun _=>rfl]
       ·refine h.j7 hl rfl KG ?_ h.frm (bE _) (fun _ _ _=>rfl) hX (fun k hk=>h.sep.read r k hin hk) (fun k d hk hne hd hs=>hne (h.sep.apart d r k hd hin hs hk)) (fun b cs wE hw hk=>(h.sep.box b cs wE hw).2.1 r hin hk)
        show ah w φ.I .deep (φ.S r) (.sub z (gr rows ax)) (φ.V r);rw[KH];exact hO
      |some ad=>
       obtain⟨Oa,hsp,⟨sp,CQ,Ob⟩,hfz,QJ⟩:=op.row ad zZ;obtain⟨b,off,spot⟩:=ad
       cases hsp
       simp only at CQ Ob hfz QJ Oa;have hle:=op.le;have elc:=iM z hle
       have lmin:us.length≤rows.length*z:=by rw[lus];exact iM z (Nat.min_le_right _ _)
       have lL:(bA.map (·.val)++sp).length=c*z:=Ob;have hst:=run_storeCells_cells (P:=C.P) b off us 0 w (fun j hj=>by rw[jU,CQ j _ (aO az)];rfl) (fun j hj=>by rw[jU];exact hfz j az) one1;rw[jU] at hst;have r2:=CQ.put (p:=0) (us:=us) az;rw[jU,List.take_zero,mj,eK] at r2
       have hnew:td (w.setCells b off us) (φ.S r) z (gr rows ax) (φ.V r) Ad c (us.map Ip++bA.drop (ax.length*z)):=by
        have Lk:(us.map Ip++bA.drop (ax.length*z)).map (·.val)=us++(bA.map (·.val)).drop (ax.length*z):=by
         rw[yo,List.map_map,AJ]
         congr 1
         have:((fun t:yU=>t.val)∘Ip)=id:=rfl;rw[this,List.map_id]
        have Ll:(bA.map (·.val)++sp).drop us.length=(bA.map (·.val)).drop (ax.length*z)++sp:=by
         rcases Nat.le_total ax.length rows.length with hq|hq
         ·have:=iM z hq
          rw[lus,show nI ax.length rows.length=ax.length from Nat.min_eq_left hq,List.drop_append_of_le_length (by rw[dH];omega)]
         ·have:=iM z hq
          rw[lus,show nI ax.length rows.length=rows.length from Nat.min_eq_right hq,List.drop_append_of_le_length (by rw[dH];omega),AI (by rw[dH];omega),AI (by rw[dH];omega)]
        refine⟨by rw[KG];exact op.val,by rw[KG];exact op.le,op.cap,op.z0,fun q hq=> ?_,?_,fun t ht=> ?_,?_,fun t ht k hk=> ?_,op.none,fun ad e=> ?_⟩
        ·rw[mH] at hq
         rcases List.mem_append.1 hq with hq|hq
         ·exact ou q (wJ hq)
         ·exact op.width q (yp hq)
        ·rw[mH,Fo,oK ou,oL op.width,op.tcs,tcV,←CV,←Jl,yo,List.map_map,AJ]
         rfl
        ·rcases List.mem_append.1 ht with ht|ht
         ·obtain⟨v,hv,rfl⟩:=List.mem_map.1 ht
          exact .sc _ _ _ (usS v (by rw[Jl] at hv;exact wJ hv))
         ·have hm:=yp ht
          refine(op.ok t hm).move (fun k hk=>hk.elim) fun _ k hk=> ?_;have hs:=op.sub t hm k hk;exact cg _ _ _ _ (hX k hs.1).1 (hs.2 _ zZ)
        ·refine List.pairwise_append.2 ⟨?_,(op.gZ.sublist (List.drop_sublist _ _)),fun x hx y hy k hk=> ?_⟩
         ·rw[List.pairwise_map]
          exact List.pairwise_of_forall fun _ _ k hk=>hk.elim
         ·obtain⟨v,hv,rfl⟩:=List.mem_map.1 hx
          exact hk.elim
        ·rcases List.mem_append.1 ht with ht|ht
         ·obtain⟨v,hv,rfl⟩:=List.mem_map.1 ht
          exact hk.elim
         ·exact op.sub t (yp ht) k hk
        ·rw[zZ] at e
         cases e
         refine⟨Oa,rfl,⟨sp,?_,?_⟩,fun j hj=> ?_,fun hz1 j=> ?_⟩
         ·rw[Lk,sj,←Ll];exact r2
         ·rw[Lk,sj,←Ll,cE,pg];omega
         ·rw[show(w.setCells b off us).frozen? ⟨b,off+j,none⟩=w.frozen? ⟨b,off+j,none⟩ from World.frozen?_setCells b us off w _];exact hfz j hj
         ·rw[show(w.setCells b off us).frozen? ⟨b,j,none⟩=w.frozen? ⟨b,j,none⟩ from World.frozen?_setCells b us off w _];exact QJ hz1 j
       have hsz:=(fe b us off w).2.2.2;refine fin (w.setCells b off us) ?_ ?_ (by rw[hsz];exact bE _) fun k hk hn=>cg _ _ _ _ hk fun e=>hn (by rw[e];exact Oa)
       ·rw[Lh,op.val,zZ,hxval]
        simp only[Builtin.copy_,Builtin.lenOf];simp[run_underlying hU,wR g1 isz,Jn w fun _=>rfl,hst]
       ·refine h.j7 hl rfl KG hnew.rep (h.frm.setCells (hX b Oa).2) (by rw[hsz];exact bE _) (fun k hk hn=>cg _ _ _ _ hk fun e=>hn (by rw[e];exact Oa)) (fun k hk=>by rw[hsz];exact hX k hk) (fun k hk=>h.sep.read r k hin hk) (fun k d hk hne hd hs=>hne (h.sep.apart d r k hd hin hs hk)) (fun b' cs wE hw hk=>(h.sep.box b' cs wE hw).2.1 r hin hk)
     ·exact hk2.elim
    ·exact hk.elim
   ·exact hk.elim
  ·exact hk.elim
 ·exact hk.elim
end Go.T
