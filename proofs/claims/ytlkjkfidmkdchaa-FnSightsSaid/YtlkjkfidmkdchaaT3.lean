import Derived.Test.YtlkjkfidmkdchaaT2
import Derived.Deep.AppendSrc
import Derived.Deep.MidRow
import Derived.Deep.Upon
import Derived.Laws.MakeOwn
import Derived.Laws.IdiomStrings
import Derived.Laws.IdiomCopy
set_option linter.all false
namespace Go.T
variable {F : Nat → Prop} {A : Arg} {w0 w w' : World} {φ φ' : Fp} {st st' cj jA : TS} {tm xA : Array Value} {C : g6}
theorem me: ∀(W:List (Nat×OB)) (ob:List (Nat×OB)) (d:Nat),aa d (fZ W ob)=match aa d W with|some b=>some b|none=>aa d ob
 |[],ob,d=>rfl
 |(i,b)::r,ob,d=>by
  simp only[fZ,cQ,aa,me r ob d]
  by_cases h:d=i
  ·subst h;simp
  ·rw[aL h,beq_false (Ne.symm h)]
theorem Fl {α:Type}: ∀{W:List (Nat×α)} {d:Nat},d∈mD W↔ ∃b,aa d W=some b
 |[],d=>by simp[mD,aa]
 |(i,b)::r,d=>by
  simp only[mD,bK,Fl (W:=r),aa]
  by_cases h:d=i
  ·subst h;simp
  ·rw[beq_false (Ne.symm h)];simp[h]
theorem zW {α:Type} {W:List (Nat×α)} {d:Nat} (h:d∉mD W):aa d W=none:=by
 cases hd:aa d W with
 |none=>rfl
 |some b=>exact absurd (Fl.2 ⟨b,hd⟩) h
theorem xJ {a l:List Nat} (h:nU a l=true): ∃x,x∈a∧x∈l:=by
 induction a with
 |nil=>cases h
 |cons y r ih=>
  simp only[nU] at h
  cases h1:gH y l with
  |true=>exact⟨y,.head _,ga.1 h1⟩
  |false=>rw[h1] at h;obtain⟨x,a,b⟩:=ih h;exact⟨x,.tail _ a,b⟩
def Fp.wr (φ:Fp) (W:List (Nat×OB)) (X:Nat→Nat→Prop) (Z:Nat→Prop):Fp:=
 {φ with I:=fun k=>φ.I k∨Z k,S:=fun d k=>match aa d W with|some _=>X d k|none=>φ.S d k}
theorem Eg {W:List (Nat×OB)} {X:Nat→Nat→Prop} {Z:Nat→Prop} {d k:Nat} (h:aa d W=none):(φ.wr W X Z).S d k=φ.S d k:=by
 unfold Fp.wr;simp only[h]
theorem Ia {W:List (Nat×OB)} {X:Nat→Nat→Prop} {Z:Nat→Prop} {d k:Nat} {b:OB} (h:aa d W=some b):(φ.wr W X Z).S d k=X d k:=by
 unfold Fp.wr;simp only[h]
theorem aG.wrote (h:aG F A w0 φ st tm w) (W:List (Nat×OB)) (X:Nat→Nat→Prop) (Z G:Nat→Prop)
 (hf:KB F w0 w') (hsz:w.heap.size≤w'.heap.size) (hw: ∀k,k<w.heap.size→ ¬G k→w'.heap[k]?=w.heap[k]?)
 (gF: ∀k,G k→w0.heap.size≤k∨F k) (gI: ∀k,G k→ ¬φ.I k) (gS: ∀k o,G k→av st.ob o→aa o W=none→ ¬φ.S o k) (gB: ∀b cs,aa b st.bx=some cs→ ¬G (φ.β b).block)
 (hW: ∀o b',aa o W=some b'→ ∃b,aa o st.ob=some b∧b'.z=b.z∧b'.rows.length=b.rows.length∧ah w' (fun k=>φ.I k∨Z k) b'.m (X o) (.sub b'.z b'.rows) (φ.V o)∧
   ∀k,X o k→k<w'.heap.size∧(w0.heap.size≤k∨F k)∧ ¬φ.I k∧ ¬Z k∧(∀d,av st.ob d→aa d W=none→ ¬φ.S d k)∧(∀d b,aa d W=some b→X d k→d=o)∧ ∀b cs,aa b st.bx=some cs→qN b=true→(φ.β b).block≠k)
 (hZ: ∀k,Z k→k<w'.heap.size∧(w0.heap.size≤k∨F k∨A.sh k)∧(∀d,av st.ob d→aa d W=none→ ¬φ.S d k)∧ ∀b cs,aa b st.bx=some cs→qN b=true→(φ.β b).block≠k):
 aG F A w0 (φ.wr W X Z) (nE W st) tm w':=by
 have j9: ∀d,av (fZ W st.ob) d↔av st.ob d:=fun d=>by
  unfold av;rw[me]
  cases hd:aa d W with
  |none=>rfl
  |some b=>obtain⟨b0,h0,_⟩:=hW d b hd;exact⟨fun _=>⟨b0,h0⟩,fun _=>⟨b,rfl⟩⟩
 have gA: ∀k,G k→ ¬A.all k:=fun k hg ha=>by
  have:=h.sep.iQ k ha;rcases gF k hg with h3|h3
  ·omega
  ·exact this.2 h3
 have stI: ∀k,φ.I k→w'.heap[k]?=w.heap[k]?:=fun k hk=>hw k (h.sep.ro k hk).1 fun hg=>gI k hg hk
 have stS: ∀d k,aa d W=none→d=0∨av st.ob d→φ.S d k→w'.heap[k]?=w.heap[k]?:=fun d k hn hd hk=>hw k (h.sep.lt h.frm.size hd hk) fun hg=>by
  rcases hd with rfl|hd
  ·rw[h.sep.arg] at hk;exact gA k hg hk
  ·exact gS k d hg hd hn hk
 have w0n:aa 0 W=none:=by
  cases h0:aa 0 W with
  |none=>rfl
  |some b=>obtain⟨b0,h1,_⟩:=hW 0 b h0;exact absurd rfl (h.sep.nz 0 ⟨b0,h1⟩)
 have stR: ∀ds k,(∀d∈ds,aa d W=none)→(∀d∈ds,d=0∨av st.ob d)→rd φ ds k→rd (φ.wr W X Z) ds k∧w'.heap[k]?=w.heap[k]?:=fun ds k hn hd hk=>by
  rcases hk with hk|⟨d,hm,hk⟩
  ·exact⟨.inl (.inl hk),stI k hk⟩
  ·exact⟨.inr ⟨d,hm,by rw[Eg (hn d hm)];exact hk⟩,stS d k (hn d hm) (hd d hm) hk⟩
 have stV: ∀p b1 ad n c i f tc u,aa p W=none→aa p st.ob=some b1→φ.V p= .slice (some ad) n c→pX b1.rows i f=some tc→w.cell? (ad.add (i*b1.z+f))=some u→w'.cell? (ad.add (i*b1.z+f))=some u:=by
  intro p b1 ad n c i f tc u hne hp hv ht hcell;have hO:=h.obj p b1 hp;unfold iT at hO;rw[hv] at hO
  have hS:φ.S p ad.block:=by
   cases hO with
   |sub _ _ _ _ _ _ u T k hn=>exact(k.own (by unfold OB.m;split<;>simp)).2 ad rfl|>.1
  rw[dh (w:=w)]
  ·exact hcell
  ·rw[bu];exact stS p _ hne (.inr ⟨b1,hp⟩) hS
 have cbox: ∀p cs,aa p st.bx=some cs→w'.heap[(φ.β p).block]?=w.heap[(φ.β p).block]?:=fun p cs hp=>hw _ (h.sep.spot p cs hp).2.1 (gB p cs hp)
 have look1: ∀{d b},aa d st.ob=some b→ ∃b',aa d (fZ W st.ob)=some b'∧b'.z=b.z∧b'.rows.length=b.rows.length∧(aa d W=none→b'=b):=fun {d b} hb=>by
  rw[me]
  cases hd:aa d W with
  |none=>exact⟨b,hb,rfl,rfl,fun _=>rfl⟩
  |some b'=>
   obtain⟨b0,h0,h1,h2,_⟩:=hW d b' hd;rw[hb] at h0;cases h0;exact⟨b',rfl,h1,h2,fun e=>by cases e⟩
 have obj: ∀o b,aa o (fZ W st.ob)=some b→iT w' (φ.wr W X Z) o b:=fun o b ho=>by
  rw[me] at ho;unfold iT
  cases hd:aa o W with
  |none=>
   rw[hd] at ho;refine(ah.mono ((h.obj o b ho).move (fun k hk=>⟨.inl hk,stI k hk⟩) fun _ k hk=>stS o k hd (.inr ⟨b,ho⟩) hk) fun k hk=> ?_);rw[Eg hd];exact hk
  |some b'=>
   rw[hd] at ho
   cases ho
   obtain⟨b0,h0,h1,h2,h3,_⟩:=hW o _ hd;refine ah.mono h3 fun k hk=> ?_;rw[Ia hd];exact hk
 have hce: ∀e v,bP st.ob w φ e v→bP (fZ W st.ob) w' (φ.wr W X Z) (wA (mD W) e) v:=fun e v he=>by
  cases e with
  |ref p cut=>
   obtain⟨b1,h1,h2⟩:=he;obtain⟨b',g1,g2,g3,_⟩:=look1 h1;refine⟨b',g1,?_⟩
   cases cut with
   |none=>exact h2
   |some q=>obtain⟨l,r⟩:=q;simp only at h2 ⊢;rw[g2,g3];exact h2
  |snap ds loc z rows=>
   simp only[wA]
   cases hd:nU ds (mD W) with
   |true=>trivial
   |false=>
    have hn: ∀d∈ds,aa d W=none:=fun d hm=>zW (lG hd hm);obtain⟨h1,h2,h3⟩:=he;refine⟨fun d hm=>(h1 d hm).imp id (j9 d).2,h2.move (fun k hk=>stR ds k hn h1 hk) (fun hm=>absurd rfl hm),fun p i f hl=> ?_⟩;obtain⟨a1,b1,a2,a3,a4,ad,n,c,a5,a6⟩:=h3 p i f hl;obtain⟨b',g1,_,_,g4⟩:=look1 a2;have:=g4 (hn p a1);subst this;exact⟨a1,_,g1,a3,a4,ad,n,c,a5,stV p _ ad n c _ _ _ _ (hn p a1) a2 a5 a4 a6⟩
  |_=>exact he
 have AL: ∀e v,(∀t es,e≠ .v t es)→bD st.ob w φ e v→bD (fZ W st.ob) w' (φ.wr W X Z) (r5 (mD W) e) v:=fun e v hv he=>by
  cases e with
  |v t es=>exact absurd rfl (hv t es)
  |ep ds cells=>
   simp only[r5]
   cases hd:nU ds (mD W) with
   |true=>trivial
   |false=>
    have hn: ∀d∈ds,aa d W=none:=fun d hm=>zW (lG hd hm);obtain⟨h1,ad,h2,hr,h3⟩:=he;refine⟨fun d hm=>(h1 d hm).imp id (j9 d).2,ad,h2,fun hc=>(stR ds _ hn h1 (hr hc)).1,fun j tc hj=> ?_⟩;obtain⟨u,h4,h5⟩:=h3 j tc hj
    have hc:cells≠[]:=fun e=>by rw[e] at hj;simp at hj
    exact⟨u,by rw[dh (w:=w) (by rw[bu];exact(stR ds _ hn h1 (hr hc)).2)];exact h4,h5.move (fun k hk=>stR ds k hn h1 hk) (fun hm=>absurd rfl hm)⟩
  |er p path i f=>
   obtain⟨b1,h1,h2,ad,n,c,h3,h4⟩:=he;obtain⟨b',g1,g2,g3,g4⟩:=look1 h1
   cases path with
   |none=>exact⟨b',g1,h2,ad,n,c,h3,by simp only at h4 ⊢;rw[g2];exact h4⟩
   |some q=>
    obtain⟨i0,f0⟩:=q;simp only[r5]
    cases hd:gH p (mD W) with
    |true=>trivial
    |false=>
     have hn:=zW (cu.1 hd);have:=g4 hn;subst this;obtain⟨a1,z1,kQ,a2,ad1,n1,c1,a3,a4⟩:=h4;exact⟨_,g1,h2,ad,n,c,h3,a1,z1,kQ,a2,ad1,n1,c1,stV p _ ad n c _ _ _ _ hn h1 h3 a2 a3,a4⟩
  |_=>exact he
 have hsep: ∀bx',(∀b cs',aa b bx'=some cs'→ ∃cs,aa b st.bx=some cs∧cs'.length=cs.length)→Sep F A w0 w' (φ.wr W X Z) bx' (fZ W st.ob):=fun bx' AM=>by
  have hs:=h.sep.boxes AM
  exact {
   arg:=by
    funext k
    rw[Eg w0n,h.sep.arg]
   nz:=fun d hd=>h.sep.nz d ((j9 d).1 hd)
   apart:=fun d d' k h1 h2 h3 h4=>by
    have i1:=(j9 d).1 h1;have i2:=(j9 d').1 h2
    cases e1:aa d W with
    |some b=>
     rw[Ia e1] at h3;obtain⟨_,_,_,_,_,hx⟩:=hW d b e1;obtain⟨_,_,_,_,x5,x6,_⟩:=hx k h3
     cases e2:aa d' W with
     |some b'=>rw[Ia e2] at h4;exact(x6 d' b' e2 h4).symm
     |none=>rw[Eg e2] at h4;exact absurd h4 (x5 d' i2 e2)
    |none=>
     rw[Eg e1] at h3
     cases e2:aa d' W with
     |some b'=>
      rw[Ia e2] at h4;obtain⟨_,_,_,_,_,hx⟩:=hW d' b' e2;exact absurd h3 ((hx k h4).2.2.2.2.1 d i1 e1)
     |none=>rw[Eg e2] at h4;exact h.sep.apart d d' k i1 i2 h3 h4
   read:=fun d k hd hk=>by
    have hd:=(j9 d).1 hd
    cases e1:aa d W with
    |some b=>
     rw[Ia e1] at hk;obtain⟨_,_,_,_,_,hx⟩:=hW d b e1;obtain⟨_,_,x3,x4,_⟩:=hx k hk;exact fun hi=>hi.elim x3 x4
    |none=>
     rw[Eg e1] at hk;exact fun hi=>hi.elim (h.sep.read d k hd hk) fun hz=>(hZ k hz).2.2.1 d hd e1 hk
   fresh:=fun d k hd hk=>by
    have hd:=(j9 d).1 hd
    cases e1:aa d W with
    |some b=>
     rw[Ia e1] at hk;obtain⟨_,_,_,_,_,hx⟩:=hW d b e1;exact⟨(hx k hk).1,(hx k hk).2.1⟩
    |none=>
     rw[Eg e1] at hk;exact⟨fJ (h.sep.fresh d k hd hk).1 hsz,(h.sep.fresh d k hd hk).2⟩
   ro:=fun k hk=>hk.elim (fun hk=>⟨fJ (h.sep.ro k hk).1 hsz,(h.sep.ro k hk).2⟩) fun hz=>⟨(hZ k hz).1,(hZ k hz).2.1⟩
   iQ:=h.sep.iQ
   box:=fun p cs hp wZ=>by
    obtain⟨cs0,c1,_⟩:=AM p cs hp;obtain⟨a1,a2,a3,a4⟩:=hs.box p cs hp wZ;refine⟨fun hi=>hi.elim a1 fun hz=>(hZ _ hz).2.2.2 p cs0 c1 wZ rfl,fun d hd hk=> ?_,a3,a4⟩;have hd:=(j9 d).1 hd
    cases e1:aa d W with
    |some b=>
     rw[Ia e1] at hk;obtain⟨_,_,_,_,_,hx⟩:=hW d b e1;exact(hx _ hk).2.2.2.2.2.2 p cs0 c1 wZ rfl
    |none=>rw[Eg e1] at hk;exact a2 d hd hk
   spot:=fun p cs hp=>⟨(hs.spot p cs hp).1,fJ (hs.spot p cs hp).2.1 hsz,(hs.spot p cs hp).2.2⟩
   soft:=fun p cs j hp wZ hj=>by
    obtain⟨cs0,c1,c2⟩:=AM p cs hp;rw[gK (w:=w) (by rw[bu];exact cbox p cs0 c1)]
    exact h.sep.soft p cs0 j c1 wZ aA}
 have AM: ∀b cs,aa b st.bx=some cs→ ∀j,j<cs.length→w'.cell? ((φ.β b).add j)=w.cell? ((φ.β b).add j):=fun p cs hp j _=>dh (by rw[bu];exact cbox p cs hp)
 cases W with
 |nil=>
  have:=h.xG (f:=id) (g:=id) (k:=id) (φ':=φ.wr [] X Z) rfl rfl (fun e v he=> ?_) (fun e v hv he=> ?_) AM obj (by rw[zT];exact hsep st.bx fun b cs hb=>⟨cs,hb,rfl⟩) hf
  ·rw[oP] at this;exact this
  ·have:=hce e v he
   have e1:wA (mD ([]:List (Nat×OB))) e=e:=by
    cases e with
    |snap ds l z rows=>simp only[wA];cases hd:nU ds (mD ([]:List (Nat×OB))) with
     |true=>obtain⟨x,_,hx⟩:=xJ hd;cases hx
     |false=>rfl
    |_=>rfl
   rw[e1] at this;exact this
  ·have:=AL e v hv he
   have e1:r5 (mD ([]:List (Nat×OB))) e=e:=by
    cases e with
    |ep ds cells=>simp only[r5];cases hd:nU ds (mD ([]:List (Nat×OB))) with
     |true=>obtain⟨x,_,hx⟩:=xJ hd;cases hx
     |false=>rfl
    |er p path i f=>cases path<;>rfl
    |_=>rfl
   rw[e1] at this;exact this
 |cons a r=>exact h.xG (f:=wA (mD (a::r))) (g:=r5 (mD (a::r))) (k:=fZ (a::r)) rfl rfl hce AL AM obj (hsep _ (dW _)) hf
end Go.T
namespace Go.T
variable {F : Nat → Prop} {A : Arg} {w0 w w' : World} {φ φ' : Fp} {st st' cj jA : TS} {tm xA : Array Value} {C : g6}
variable {R : Type} {cf : Cf} {lp : Lp} {Q : R → Prop}
theorem LH {ob:List (Nat×OB)} {e:CE} {v:Value} (h:bP ob w φ e v) (hg:e≠ .gone) (hb: ∀o b,aa o ob=some b→iT w φ o b):v.oneCell'=true:=by
 cases e with
 |sc x=>obtain⟨rfl,h⟩:=h;cases v<;>first|rfl|cases h
 |nil z=>obtain⟨rfl,_⟩:=h;rfl
 |ref o cut=>
  obtain⟨b,h1,h2⟩:=h;have:=iT.cut (hb o b h1) h2
  cases this;rfl
 |snap ds l z rows=>have:=h.2.1;cases this;rfl
 |gone=>exact absurd rfl hg
theorem mO {Rd S:Nat→Prop} {m:Mode} {c:TC} {v:Value} (h:ah w Rd m S c v):v.oneCell'=true:=by
 cases h with
 |any _ _ _ h=>exact h.1
 |sc _ _ _ h=>cases v<;>first|rfl|cases h
 |sub=>rfl
theorem iG (b:Nat): ∀(vs:List Value) (o:Nat) (w:World),(w.setCells b o vs).os=w.os∧(w.setCells b o vs).tape=w.tape∧(w.setCells b o vs).output=w.output∧(w.setCells b o vs).heap.size=w.heap.size
 |[],_,_=>⟨rfl,rfl,rfl,rfl⟩
 |v::r,o,w=>by
  obtain⟨h1,h2,h3,h4⟩:=iG b r (o+1) (w.setCell ⟨b,o,none⟩ v);refine⟨h1,h2,h3,?_⟩;rw[World.setCells,h4];simp[World.setCell]
theorem dj (b o:Nat) (vs:List Value) (w:World) {k:Nat} (hk:k<w.heap.size) (hne:k≠b):(w.setCells b o vs).heap[k]?=w.heap[k]?:=World.heap_setCells_other w b o vs hk hne
theorem KB.setCells {b o:Nat} {vs:List Value} (h:KB F w0 w) (hb:w0.heap.size≤b∨F b):KB F w0 (w.setCells b o vs):=by
 obtain⟨h1,h2,h3,h4⟩:=iG b vs o w;refine⟨h1.trans h.os,h2.trans h.tape,h3.trans h.output,by rw[h4];exact h.size,fun k hk hF=> ?_⟩;rw[dj b o vs w (fJ hk h.size) (fun e=>by subst e;rcases hb with hb|hb;omega;exact hF hb)];exact h.block k hk hF
def cA (M:Mode):List TC→List Value→List It
 |c::cs,v::vs=>(M,c,v)::cA M cs vs
 |_,_=>[]
theorem iN {M:Mode}: ∀{cs:List TC} {vs:List Value} {i:Nat} {it:It},(cA M cs vs)[i]?=some it→ ∃c v,cs[i]?=some c∧vs[i]?=some v∧it=(M,c,v)
 |[],_,_,_,h=>by simp[cA] at h
 |_::_,[],_,_,h=>by simp[cA] at h
 |c::cs,v::vs,0,it,h=>by simp only[cA,cz,aR] at h;exact⟨c,v,rfl,rfl,h.symm⟩
 |c::cs,v::vs,i+1,it,h=>by
  simp only[cA,lR] at h;obtain⟨c',v',h1,h2,h3⟩:=iN h;exact⟨c',v',by simpa using h1,by simpa using h2,h3⟩
theorem je {M:Mode}: ∀{cs:List TC} {vs:List Value} {i:Nat} {c:TC} {v:Value},cs[i]?=some c→vs[i]?=some v→(cA M cs vs)[i]?=some (M,c,v)
 |[],_,_,_,_,h,_=>by simp at h
 |_::_,[],_,_,_,_,h=>by simp at h
 |c0::cs,v0::vs,0,c,v,h1,h2=>by
  simp only[cz,aR] at h1 h2;subst h1 h2
  rfl
 |c0::cs,v0::vs,i+1,c,v,h1,h2=>by
  simp only[cA,lR] at h1 h2 ⊢;exact je h1 h2
theorem eW {M:Mode}: ∀{cs:List TC} {vs:List Value},cs.length=vs.length→(cA M cs vs).length=cs.length
 |[],[],_=>rfl
 |[],_::_,h=>by cases h
 |_::_,[],h=>by cases h
 |c::cs,v::vs,h=>by simp only[cA,eC];rw[eW (cs:=cs) (vs:=vs) (by simpa using h)]
theorem qE {M:Mode}: ∀{cs cs':List TC} {vs vs':List Value},cs.length=vs.length→cA M (cs++cs') (vs++vs')=cA M cs vs++cA M cs' vs'
 |[],_,[],_,_=>rfl
 |[],_,_::_,_,h=>by cases h
 |_::_,_,[],_,h=>by cases h
 |c::cs,cs',v::vs,vs',h=>by
  simp only[w6,cA];rw[qE (cs:=cs) (vs:=vs) (by simpa using h)]
structure gY (w:World) (φ:Fp) (st st':TS) (bW:List It) (X:Nat→Nat→Prop) (Z:Nat→Prop):Prop where
 ok: ∀(i:Nat) (it:It),bW[i]?=some it→ah w (fun k=>φ.I k∨Z k) it.1 (X i) it.2.1 it.2.2
 src: ∀(i k:Nat),i<bW.length→X i k→ ¬Z k∧ ∃o,av st.ob o∧ ¬av st'.ob o∧φ.S o k
 srcZ: ∀k,Z k→ ∃o,av st.ob o∧ ¬av st'.ob o∧φ.S o k
 apart: ∀(i j k:Nat),i<bW.length→j<bW.length→X i k→X j k→i=j
 sub:cD st' st
theorem gY.nil (st:TS):gY w φ st st [] (fun _ _=>False) (fun _=>False):=⟨fun i it h=>by simp at h,fun i k h=>by simp at h,fun k h=>h.elim,fun i j k h=>by simp at h,cD.refl _⟩
theorem gM.parts (h:aG F A w0 φ st tm w) {bW:List It} {os:List Nat} (t:gM w φ st st' bW os): ∃X Z,gY w φ st st' bW X Z:=by
 obtain⟨I,X,hb,hn⟩:=t.Nf h
 have dom: ∀i it o,bW[i]?=some it→os[i]?=some o→o≠0→av st.ob o∧ ¬av st'.ob o:=fun i it o hi ho h0=>by
  rcases t.at' i it o hi ho with⟨e,_⟩|⟨hd,hd',_⟩
  ·exact absurd e h0
  ·exact⟨hd,hd'⟩
 have own_S: ∀{m v S k},CQ m v S k→S k:=fun {m v S k} hk=>by
  cases m with
  |snap=>exact hk.elim
  |top=>exact hk.1
  |deep=>exact hk
 refine⟨fun i k=> ∃(it:It) (o:Nat),bW[i]?=some it∧os[i]?=some o∧o≠0∧CQ it.1 it.2.2 (φ.S o) k,
  fun k=> ∃(i:Nat) (it:It) (o:Nat),bW[i]?=some it∧os[i]?=some o∧o≠0∧φ.S o k∧ ¬CQ it.1 it.2.2 (φ.S o) k,⟨fun i it hi=> ?_,fun i k hi hk=> ?_,fun k hk=> ?_,fun i j k hi hj hk hk'=> ?_,t.sub⟩⟩
 ·obtain⟨o,ho⟩: ∃o,os[i]?=some o:=⟨_,aX (by rw[t.len];exact(List.getElem?_eq_some_iff.1 hi).1)⟩
  rcases t.at' i it o hi ho with⟨e,hc⟩|⟨hd,hn,m',hm,Tr,hc⟩
  ·exact(hc.jJ fun k hk=> .inl hk).mono fun k hk=>hk.elim
  ·have h0:=h.sep.nz o hd
   exact(hc.out hm Tr (fun k hk=> .inl hk) fun k hk hno=> .inr ⟨i,it,o,hi,ho,h0,hk,hno⟩).mono fun k hk=>⟨it,o,hi,ho,h0,hk⟩
 ·obtain⟨it,o,h1,h2,h0,hk⟩:=hk
  obtain⟨hd,hd'⟩:=dom i it o h1 h2 h0;refine⟨?_,o,hd,hd',own_S hk⟩;rintro⟨i',it',o',g1,g2,g0,g3,g4⟩;have:=h.sep.apart o o' k hd (dom i' it' o' g1 g2 g0).1 (own_S hk) g3;subst this;have:=t.inj i i' o h2 g2 h0;subst this;rw[h1] at g1
  cases g1
  exact g4 hk
 ·obtain⟨i,it,o,h1,h2,h0,hk,_⟩:=hk
  obtain⟨hd,hd'⟩:=dom i it o h1 h2 h0;exact⟨o,hd,hd',hk⟩
 ·obtain⟨it,o,h1,h2,h0,hk⟩:=hk
  obtain⟨it',o',g1,g2,g0,hk'⟩:=hk';have:=h.sep.apart o o' k (dom i it o h1 h2 h0).1 (dom j it' o' g1 g2 g0).1 (own_S hk) (own_S hk');subst this;exact t.inj i j o h2 g2 h0
theorem gY.app (h:aG F A w0 φ st tm w) {a b:List It} {Xa Xb:Nat→Nat→Prop} {Za Zb:Nat→Prop} (p:gY w φ st cj a Xa Za) (q:gY w φ cj jA b Xb Zb):
 gY w φ st jA (a++b) (fun i k=>if i<a.length then Xa i k else Xb (i-a.length) k) (fun k=>Za k∨Zb k):=by
 have cross: ∀k,(∃o,av st.ob o∧ ¬av cj.ob o∧φ.S o k)→(∃o,av cj.ob o∧ ¬av jA.ob o∧φ.S o k)→False:=fun k ⟨o,a1,a2,a3⟩ ⟨o',b1,b2,b3⟩=>by
  have:=h.sep.apart o o' k a1 (p.sub.dom b1) a3 b3;subst this;exact a2 b1
 have upa: ∀{k},(∃o,av st.ob o∧ ¬av cj.ob o∧φ.S o k)→ ∃o,av st.ob o∧ ¬av jA.ob o∧φ.S o k:=fun⟨o,a1,a2,a3⟩=>⟨o,a1,fun hd=>a2 (q.sub.dom hd),a3⟩;have upb: ∀{k},(∃o,av cj.ob o∧ ¬av jA.ob o∧φ.S o k)→ ∃o,av st.ob o∧ ¬av jA.ob o∧φ.S o k:=fun⟨o,a1,a2,a3⟩=>⟨o,p.sub.dom a1,a2,a3⟩;refine⟨fun i it hi=> ?_,fun i k hi hk=> ?_,fun k hk=> ?_,fun i j k hi hj hk hk'=> ?_,q.sub.trans p.sub⟩
 ·by_cases hl:i<a.length
  ·rw[iD hl] at hi
   simp only[aT hl];exact(p.ok i it hi).jJ fun k hk=>hk.imp id .inl
  ·rw[ju aA] at hi
   simp only[aL hl];exact(q.ok _ it hi).jJ fun k hk=>hk.imp id .inr
 ·by_cases hl:i<a.length
  ·simp only[aT hl] at hk
   obtain⟨h1,h2⟩:=p.src i k hl hk;exact⟨fun hz=>hz.elim h1 fun hb=>cross k h2 (q.srcZ k hb),upa h2⟩
  ·simp only[aL hl] at hk
   obtain⟨h1,h2⟩:=q.src _ k (by simp at hi;omega) hk;exact⟨fun hz=>hz.elim (fun ha=>cross k (p.srcZ k ha) h2) h1,upb h2⟩
 ·exact hk.elim (fun h=>upa (p.srcZ k h)) fun h=>upb (q.srcZ k h)
 ·simp only[cr] at hi hj
  by_cases hl:i<a.length
  ·simp only[aT hl] at hk
   by_cases hl':j<a.length
   ·simp only[aT hl'] at hk';exact p.apart i j k hl hl' hk hk'
   ·simp only[aL hl'] at hk'
    exact(cross k (p.src i k hl hk).2 (q.src _ k aA hk').2).elim
  ·simp only[aL hl] at hk
   by_cases hl':j<a.length
   ·simp only[aT hl'] at hk'
    exact(cross k (p.src j k hl' hk').2 (q.src _ k aA hk).2).elim
   ·simp only[aL hl'] at hk'
    have:=q.apart _ _ k aA aA hk hk';omega
theorem wI {kk:TS} (M:Mode): ∀(cs:List CE) (st:TS) (vs:List Value) (ts:List TC) (st':TS) (d:Bool),aG F A w0 φ st tm w→cD st kk→vs.length=cs.length→(∀(j:Nat) (e:CE),cs[j]?=some e→ ∃v,vs[j]?=some v∧bP kk.ob w φ e v)→
 (M= .snap∨d=true∧M= .deep)→Cv cs st=some (ts,st',d)→aG F A w0 φ st' tm w∧ts.length=cs.length∧cD st' st∧ ∃os,gM w φ st st' (cA M ts vs) os
 |[],st,vs,ts,st',d,h,hs,hl,hc,hM,ho=>by
  cases ho
  exact⟨h,rfl,cD.refl _,[],by cases vs<;>exact gM.nil _⟩
 |e::r,st,vs,ts,st',d,h,hs,hl,hc,hM,ho=>by
  simp only[Cv] at ho
  split at ho
  ·rename_i c cj d1 hab
   split at ho
   ·rename_i cs' jA d2 Mi
    cases ho
    cases vs with
    |nil=>cases hl
    |cons v vs=>
     obtain⟨v',Km,hok⟩:=hc 0 e rfl;simp only[cz,aR] at Km;subst Km;obtain⟨h1,Jd,ht⟩:=Gt h hs hok hab
     obtain⟨o,ht⟩:=ht M (by
      rcases hM with rfl|⟨hd,rfl⟩
      ·unfold Jo;cases e<;>rfl
      ·simp only[cL] at hd
       have Uo:=hd.1;subst Uo
       cases e with
       |snap ds l z rows=>
        cases ds with
        |nil=>simp[jG] at hab
        |cons _ _=>simp[jG] at hab
       |gone=>simp[jG] at hab
       |_=>rfl)
     obtain⟨h2,yj,Ve,os,hts⟩:=wI M r cj vs cs' _ d2 h1 (Jd.trans hs) (by simpa using hl) (fun j e he=>by
      obtain⟨v',a1,a2⟩:=hc (j+1) e (by simpa using he)
      exact⟨v',by simpa using a1,a2⟩) (by
       rcases hM with hM|⟨hd,hM⟩
       ·exact .inl hM
       ·simp only[cL] at hd;exact .inr ⟨hd.2,hM⟩) Mi
     exact⟨h2,by simp[yj],Ve.trans Jd,o::os,(gM.one ht Jd).app h.sep.nz hts⟩
   ·cases ho
  ·cases ho
theorem oS {z:Nat}: ∀{rows:List (List TC)},(∀r∈rows,r.length=z)→ ∀{i f:Nat} {tc:TC},pX rows i f=some tc→rows.flatten[i*z+f]?=some tc∧f<z∧i<rows.length
 |[],_,i,f,tc,h=>by simp[pX] at h
 |r::rs,hw,0,f,tc,h=>by
  have hr:=hw r (.head _);simp only[pX,cz,Option.bind_some] at h
  have hf:f<z:=by rw[←hr];exact(List.getElem?_eq_some_iff.1 h).1
  refine⟨?_,hf,by simp⟩;rw[uU,Nat.zero_mul,g7,iD aA];exact h
 |r::rs,hw,i+1,f,tc,h=>by
  have hr:=hw r (.head _)
  have h':pX rs i f=some tc:=by simpa [pX] using h
  obtain⟨h1,h2,h3⟩:=oS (fun r hr=>hw r (.tail _ hr)) h';refine⟨?_,h2,by simpa using h3⟩;rw[uU,ju (by rw[hr,m9];omega),hr,show(i+1)*z+f-z=i*z+f by rw[m9];omega];exact h1
theorem bF {z:Nat}: ∀{rows:List (List TC)},(∀r∈rows,r.length=z)→rows.flatten.length=rows.length*z
 |[],_=>by simp
 |r::rs,hw=>by
  rw[uU,cr,bF fun r hr=>hw r (.tail _ hr),hw r (.head _),eC,m9];omega
theorem gY.row (dp:Bool) {X:Nat→Nat→Prop} {Z:Nat→Prop} {z:Nat} {rows:List (List TC)} {vs:List Value} (p:gY w φ st st' (cA (if dp then .deep else .snap) rows.flatten vs) X Z) (hz:0<z) (hw: ∀r∈rows,r.length=z)
 (hl:vs.length=rows.length*z) {ad:Addr} {c:Nat} (hc:rows.length≤c) (Qg:c≤maxLen) (hs:ad.spot=none) (hnew: ∀i k,i<rows.length*z→X i k→k≠ad.block)
 (hmem: ∀k,(φ.I k∨Z k)→w'.heap[k]?=w.heap[k]?) (Ww: ∀i k,i<rows.length*z→X i k→w'.heap[k]?=w.heap[k]?)
 (hcell: ∀(j:Nat) (v:Value),vs[j]?=some v→w'.cell? (ad.add j)=some v) (hall: ∀j,j<c*z→(∃x,w'.cell? ⟨ad.block,ad.off+j,none⟩=some x)∧w'.frozen? ⟨ad.block,ad.off+j,none⟩=false) (D6:1<z→ ∀i,w'.frozen? ⟨ad.block,i,none⟩=false):
 ah w' (fun k=>φ.I k∨Z k) (OB.m ⟨dp,z,rows⟩) (fun k=>k=ad.block∨ ∃i,i<rows.length*z∧X i k) (.sub z rows) (.slice (some ad) rows.length c):=by
 have hfl:=bF hw
 have hlen:(cA (if dp then Mode.deep else .snap) rows.flatten vs).length=rows.length*z:=by rw[eW (by rw[hfl,hl]),hfl]
 have inj: ∀{i f i' f':Nat},f<z→f'<z→i*z+f=i'*z+f'→i=i'∧f=f':=fun {i f i' f'} h1 h2 e=>by
  have e1:(i*z+f)/z=i:=by rw[Nat.mul_comm,Nat.mul_add_div hz,Nat.div_eq_of_lt h1,nR]
  have e2:(i'*z+f')/z=i':=by rw[Nat.mul_comm,Nat.mul_add_div hz,Nat.div_eq_of_lt h2,nR]
  have:i=i':=by rw[←e1,e,e2]
  subst this;exact⟨rfl,by omega⟩
 refine .sub _ _ z rows (some ad) c (fun i f=>vs.getD (i*z+f) undef) (fun i f k=>f<z∧i<rows.length∧dp=true∧X (i*z+f) k) ⟨hc,Qg,hz,hw,fun _=>⟨ad,rfl⟩,?_,?_,?_,fun _ Mh ad' e i=>(by cases e;exact D6 Mh i),?_⟩ ?_
 ·intro ad' e i f tc ht
  cases e
  obtain⟨h1,h2,h3⟩:=oS hw ht
  have hlt:i*z+f<vs.length:=by rw[hl,←hfl];exact(List.getElem?_eq_some_iff.1 h1).1
  rw[hcell _ _ (aX hlt)];simp[List.getD,aX hlt]
 ·intro hm
  exfalso
  revert hm
  unfold OB.m
  split<;>simp
 ·intro _
  refine⟨fun e=>(by cases e),fun ad' e=> ?_⟩
  cases e
  exact⟨.inl rfl,hs,hall⟩
 ·intro hm i f k hk
  obtain⟨h1,h2,h3,h4⟩:=hk;have hi:i*z+f<rows.length*z:=fJ (Nat.add_lt_add_left h1 _) (by rw[←Ct];exact lF _ h2);refine⟨.inr ⟨_,hi,h4⟩,fun ad' e=>(by cases e;exact hnew _ k hi h4),fun i' f' hk'=> ?_⟩;obtain⟨g1,g2,g3,g4⟩:=hk';have hi':i'*z+f'<rows.length*z:=fJ (Nat.add_lt_add_left g1 _) (by rw[←Ct];exact lF _ g2);exact inj g1 h1 (p.apart _ _ k (by rw[hlen];exact hi') (by rw[hlen];exact hi) g4 h4)
 ·intro i f tc ht
  obtain⟨h1,h2,h3⟩:=oS hw ht
  have hlt:i*z+f<vs.length:=by rw[hl,←hfl];exact(List.getElem?_eq_some_iff.1 h1).1
  have hv:vs[i*z+f]?=some (vs.getD (i*z+f) undef):=by simp[List.getD,aX hlt]
  have:=p.ok _ _ (je h1 hv);simp only at this
  cases dp with
  |true=>
   simp only[if_true] at this;refine(ah.move this (fun k hk=>⟨hk,hmem k hk⟩) fun _ k hk=>Ww _ k (by rw[←hl];exact hlt) hk).mono fun k hk=>⟨h2,h3,rfl,hk⟩
  |false=>
   simp only[uR,if_false] at this;exact(ah.move this (fun k hk=>⟨hk,hmem k hk⟩) fun hm=>absurd rfl hm).kf fun k hk=>hk
end Go.T
namespace Go.T
variable {F : Nat → Prop} {A : Arg} {w0 w w' : World} {φ φ' : Fp} {st st' cj jA : TS} {tm xA : Array Value} {C : g6}
variable {R : Type} {cf : Cf} {lp : Lp} {Q : R → Prop}
theorem aG.RB (h:aG F A w0 φ st tm w) (g:jI w w') {e:CE} {v:Value} (he:bP st.ob w φ e v):bP st.ob w' φ e v:=
 he.stay (fun k hk=>g.block k (h.sep.ro k hk).1) (fun d k hd hk=>g.block k (h.sep.lt h.frm.size hd hk)) fun o ho ad n c hv i v hc=>g.cell hc
theorem oT (w:World) (arr:Array Value) (t:TypeId) (j:Nat):(w.alloc (.cells arr t)).cell? ⟨w.heap.size,j,none⟩=arr[j]?:=by
 unfold World.cell?;simp only[heap_alloc_new]
 rfl
theorem lA (w:World) (arr:Array Value) (t:TypeId) (j:Nat):(w.alloc (.cells arr t)).frozen? ⟨w.heap.size,j,none⟩=false:=by
 unfold World.frozen?;simp only[heap_alloc_new];simp
theorem add_lit (b o j:Nat):(⟨b,o,none⟩:Addr).add j=⟨b,o+j,none⟩:=ou j rfl
theorem Ng (h:aG F A w0 φ st tm w) {d:Nat} (hw:qN d=true) {cs:List CE} {arr:Array Value} {t:TypeId} (hc:SU st.ob w φ cs arr):
 aG F A w0 (φ.box d ⟨w.heap.size,0,none⟩) (zJ d cs st) tm (w.alloc (.cells arr t)):=by
 have g:=jI.alloc w (.cells arr t);refine(h.Jr g).zJ hw rfl dM (fun o ho hS=> ?_) (fun hI=> ?_) (.inl h.frm.size) (fun b' cs' hb' _ e=> ?_) (fun j e he=> ?_) fun j hj=> ?_
 ·have:=(h.sep.fresh o _ ho hS).1;simp at this
 ·have:=(h.sep.ro _ hI).1;simp at this
 ·have:=(h.sep.spot b' cs' hb').2.1;rw[e] at this;simp at this
 ·obtain⟨x,h1,h2,h3⟩:=hc.2 j e he
  exact⟨x,by rw[add_lit,oT,g7];exact h1,h2,h.RB g h3⟩
 ·rw[add_lit];exact lA _ _ _ _
theorem Nh (h0:aG F A w0 φ st tm w) (h:aG F A w0 φ st' tm w) {dp:Bool} {z:Nat} {rows:List (List TC)} {vs:List Value} {X:Nat→Nat→Prop} {Z G:Nat→Prop} {d:Nat}
 (p:gY w φ st st' (cA (if dp then .deep else .snap) rows.flatten vs) X Z) (hz:0<z) (rZ: ∀r∈rows,r.length=z) (hl:vs.length=rows.length*z) {ad:Addr} {c:Nat} (hc:rows.length≤c) (Qg:c≤maxLen) (hs:ad.spot=none)
 (hf:KB F w0 w') (hsz:w.heap.size≤w'.heap.size) (hw: ∀k,k<w.heap.size→ ¬G k→w'.heap[k]?=w.heap[k]?) (hG: ∀k,G k→ ∃o,av st.ob o∧ ¬av st'.ob o∧φ.S o k)
 (VU: ∀k,Z k→ ¬G k∧k≠ad.block) (Tt: ∀i k,i<rows.length*z→X i k→ ¬G k∧k≠ad.block) (hb:(w.heap.size≤ad.block∧ad.block<w'.heap.size)∨ ∃o,av st.ob o∧ ¬av st'.ob o∧φ.S o ad.block)
 (hcell: ∀(j:Nat) (v:Value),vs[j]?=some v→w'.cell? (ad.add j)=some v) (hall: ∀j,j<c*z→(∃x,w'.cell? ⟨ad.block,ad.off+j,none⟩=some x)∧w'.frozen? ⟨ad.block,ad.off+j,none⟩=false) (D6:1<z→ ∀i,w'.frozen? ⟨ad.block,i,none⟩=false) (hd:d<tm.size):
 Rel F A w0 (pK d ⟨dp,z,rows⟩ st') (tm.setIfInBounds d (.slice (some ad) rows.length c)) w':=by
 have kI: ∀{k},(∃o,av st.ob o∧ ¬av st'.ob o∧φ.S o k)→ ¬φ.I k:=fun⟨o,a1,a2,a3⟩=>h0.sep.read o _ a1 a3
 have kS: ∀{k},(∃o,av st.ob o∧ ¬av st'.ob o∧φ.S o k)→ ∀o',av st'.ob o'→ ¬φ.S o' k:=fun⟨o,a1,a2,a3⟩ o' ho' hk=>by
  have:=h0.sep.apart o o' _ a1 (p.sub.dom ho') a3 hk;subst this;exact a2 ho'
 have kF: ∀{k},(∃o,av st.ob o∧ ¬av st'.ob o∧φ.S o k)→k<w.heap.size∧(w0.heap.size≤k∨F k):=fun⟨o,a1,a2,a3⟩=>h0.sep.fresh o _ a1 a3
 have kB: ∀{k},(∃o,av st.ob o∧ ¬av st'.ob o∧φ.S o k)→ ∀b cs,aa b st'.bx=some cs→(φ.β b).block≠k:=fun {k} ⟨o,a1,a2,a3⟩ b cs hb e=>by
  obtain⟨cs0,c0,_⟩:=p.sub.bx b cs hb
  cases wZ:qN b with
  |true=>exact(h0.sep.box b cs0 c0 wZ).2.1 o a1 (by rw[e];exact a3)
  |false=>
   have h1:=h0.sep.iQ _ ((h0.sep.spot b cs0 c0).2.2 wZ);rw[e] at h1;rcases (h0.sep.fresh o k a1 a3).2 with h3|h3
   ·omega
   ·exact h1.2 h3
 have h1:=h.wrote (w':=w') [] (fun _ _=>False) Z G hf hsz hw (fun k hk=>(kF (hG k hk)).2) (fun k hk=>kI (hG k hk)) (fun k o hk ho _=>kS (hG k hk) o ho) (fun b cs hb hk=>kB (hG _ hk) b cs hb rfl)
  (fun o b' hb'=>by simp[aa] at hb')
  (fun k hk=>⟨fJ (kF (p.srcZ k hk)).1 hsz,(kF (p.srcZ k hk)).2.elim .inl fun hF=> .inr (.inl hF),fun o ho _=>kS (p.srcZ k hk) o ho,fun b cs hb _=>kB (p.srcZ k hk) b cs hb⟩)
 have hlen:(cA (if dp then Mode.deep else .snap) rows.flatten vs).length=rows.length*z:=by rw[eW (by rw[bF rZ,hl]),bF rZ]
 have hrow:=p.row (w':=w') dp hz rZ hl hc Qg hs (fun i k hi hk=>(Tt i k hi hk).2)
  (fun k hk=>by
    rcases hk with hk|hk
    ·exact hw k (h0.sep.ro k hk).1 fun hg=>kI (hG k hg) hk
    ·exact hw k (kF (p.srcZ k hk)).1 (VU k hk).1)
  (fun i k hi hk=>hw k (kF (p.src i k (by rw[hlen];exact hi) hk).2).1 (Tt i k hi hk).1) hcell hall D6
 have Wx: ¬φ.I ad.block:=fun hI=>by
  rcases hb with⟨hb,_⟩|hb
  ·have:=(h0.sep.ro _ hI).1;omega
  ·exact kI hb hI
 have h2:=h1.uX (o:=mA d 0 0) (b:=⟨dp,z,rows⟩) (by unfold mA;omega) hrow (fun k hk=>by
  rcases hk with rfl|⟨i,hi,hk⟩
  ·rcases hb with⟨b1,b2⟩|hb
   ·exact⟨b2,.inl (nS h0.frm.size b1)⟩
   ·exact⟨fJ (kF hb).1 hsz,(kF hb).2⟩
  ·have:=kF (p.src i k (by rw[hlen];exact hi) hk).2
   exact⟨fJ this.1 hsz,this.2⟩)
  (fun k hk hI=>by
    rcases hk with rfl|⟨i,hi,hk⟩
    ·rcases hI with hI|hI
     ·exact Wx hI
     ·exact(VU _ hI).2 rfl
    ·have VV:=p.src i k (by rw[hlen];exact hi) hk
     rcases hI with hI|hI
     ·exact kI VV.2 hI
     ·exact VV.1 hI)
  (fun k o hk _ ho hS=>by
    have hS:φ.S o k:=hS;have ho:av st'.ob o:=ho;rcases hk with rfl|⟨i,hi,hk⟩
    ·rcases hb with⟨b1,_⟩|hb
     ·have:=(h.sep.fresh o _ ho hS).1;omega
     ·exact kS hb o ho hS
    ·exact kS (p.src i k (by rw[hlen];exact hi) hk).2 o ho hS)
  (fun b cs hb' wZ hk=>by
    have hb':aa b st'.bx=some cs:=hb';rcases hk with e|⟨i,hi,hk⟩
    ·rcases hb with⟨b1,_⟩|hb
     ·have:=(h.sep.spot b cs hb').2.1
      have e:(φ.β b).block=ad.block:=e;omega
     ·exact kB hb b cs hb' e
    ·exact kB (p.src i _ (by rw[hlen];exact hi) hk).2 b cs hb' rfl)
 have h3:=h2.Ef (d:=d) (e:=one (.ref (mA d 0 0) none)) (v:= .slice (some ad) rows.length c) hd (Gh rfl ⟨⟨dp,z,rows⟩,by
  show aa _ (jn _ _ _)=_
  exact gV,by simp[Fp.add]⟩)
 exact⟨_,h3⟩
theorem LI (h:aG F A w0 φ st tm w) {dp:Bool} {z d:Nat} (hz:0<z) (hd:d<tm.size):Rel F A w0 (pK d ⟨dp,z,[]⟩ st) (tm.setIfInBounds d (.slice none 0 0)) w:=by
 have h2:=h.uX (o:=mA d 0 0) (b:=⟨dp,z,[]⟩) (X:=zE) (v:= .slice none 0 0) (by unfold mA;omega) (p6 hz) (fun k hk=>hk.elim) (fun k hk=>hk.elim) (fun k o hk=>hk.elim) (fun b cs _ _ hk=>hk)
 exact⟨_,h2.Ef (d:=d) (e:=one (.ref (mA d 0 0) none)) (v:= .slice none 0 0) hd (Gh rfl ⟨⟨dp,z,[]⟩,by
  show aa _ (jn _ _ _)=_
  exact gV,by simp[Fp.add]⟩)⟩
theorem ah.parts (h:aG F A w0 φ st tm w) {o:Nat} (ho:av st.ob o) {m M:Mode} {z:Nat} {rows:List (List TC)} {v:Value} (hr:ah w φ.I m (φ.S o) (.sub z rows) v) (hm:m≠ .snap) (hM:M= .snap∨M= .deep∧m= .deep):
 ∃vals X Z,vals.length=rows.length*z∧gY w φ st (iR o st) (cA M rows.flatten vals) X Z∧ ∀ad n c,v= .slice (some ad) n c→(∀(j:Nat) (x:Value),vals[j]?=some x→w.cell? (ad.add j)=some x)∧(∀i k,X i k→k≠ad.block)∧ ∀k,Z k→k≠ad.block:=by
 cases hr with
 |sub _ _ _ _ Ad c u T k hn=>
  have hz:=k.z0;have rZ:=k.width;have hsub:=cD.kill st o;have hfl:=bF rZ
  have at_of: ∀{p:Nat} {tc:TC},rows.flatten[p]?=some tc→pX rows (p/z) (p % z)=some tc:=fun {p tc} hp=>by
   have hlt:p<rows.length*z:=by rw[←hfl];exact(List.getElem?_eq_some_iff.1 hp).1
   have hi:p/z<rows.length:=Nat.div_lt_of_lt_mul (by rw[Nat.mul_comm];exact hlt);have hrl:=rZ _ (pL hi)
   have hf:p % z<(rows[p/z]).length:=by rw[hrl];exact Nat.mod_lt _ hz
   have h1:pX rows (p/z) (p % z)=some (rows[p/z][p % z]):=by simp[pX,aX hi,aX hf]
   have h2:=(oS rZ h1).1;rw[yw p z] at h2;rw[h1,←h2,hp]
  have j9:av st.ob o∧ ¬av (iR o st).ob o:=⟨ho,fun hd=>(fR.1 hd).1 rfl⟩
  let vals:List Value:=(List.range (rows.length*z)).map fun p=>u (p/z) (p % z)
  have hvl:vals.length=rows.length*z:=by simp[vals]
  have hval: ∀{p:Nat} {x:Value},vals[p]?=some x→p<rows.length*z∧x=u (p/z) (p % z):=fun {p x} hp=>by
   have hlt:p<rows.length*z:=by rw[←hvl];exact(List.getElem?_eq_some_iff.1 hp).1
   refine⟨hlt,?_⟩;simp[vals,hlt] at hp;exact hp.symm
  have hcl:(cA M rows.flatten vals).length=rows.length*z:=by rw[eW (by rw[hfl,hvl]),hfl]
  have hmem: ∀ad n c',Value.slice Ad rows.length c= .slice (some ad) n c'→ ∀(j:Nat) (x:Value),vals[j]?=some x→w.cell? (ad.add j)=some x:=fun ad n c' e j x hx=>by
   cases e
   obtain⟨hlt,rfl⟩:=hval hx;obtain⟨tc,Qh⟩: ∃tc,rows.flatten[j]?=some tc:=⟨_,aX (by rw[hfl];exact hlt)⟩;have:=k.cell ad rfl _ _ tc (at_of Qh);rw[yw j z] at this;exact this
  by_cases FZ:M= .deep
  ·subst FZ
   have Hl:m= .deep:=by
    rcases hM with e|⟨_,e⟩
    ·cases e
    ·exact e
   subst Hl;refine⟨vals,fun p b=>p<rows.length*z∧T (p/z) (p % z) b,fun _=>False,hvl,⟨fun i it hi=> ?_,fun i b hi hb=> ?_,fun b hb=>hb.elim,fun i j b hi hj hb hb'=> ?_,hsub⟩,fun ad n c' e=>⟨hmem ad n c' e,fun i b hb=> ?_,fun b hb=>hb.elim⟩⟩
   ·obtain⟨tc,x,h1,h2,rfl⟩:=iN hi
    obtain⟨hlt,rfl⟩:=hval h2;exact((hn _ _ tc (at_of h1)).jJ fun b hb=> .inl hb).mono fun b hb=>⟨hlt,hb⟩
   ·exact⟨id,o,j9.1,j9.2,(k.kj rfl _ _ b hb.2).1⟩
   ·obtain⟨e1,e2⟩:=(k.kj rfl _ _ b hb.2).2.2 _ _ hb'.2
    rw[←yw i z,←yw j z,e1,e2]
   ·cases e
    exact(k.kj rfl _ _ b hb.2).2.1 ad rfl
  ·have Vf:M= .snap:=hM.elim id fun⟨e,_⟩=>absurd e FZ
   subst Vf;refine⟨vals,fun _ _=>False,fun b=>m= .deep∧ ∃i f,T i f b,hvl,⟨fun i it hi=> ?_,fun i b hi hb=>hb.elim,fun b hb=> ?_,fun i j b hi hj hb=>hb.elim,hsub⟩,fun ad n c' e=>⟨hmem ad n c' e,fun i b hb=>hb.elim,fun b hb=> ?_⟩⟩
   ·obtain⟨tc,x,h1,h2,rfl⟩:=iN hi
    obtain⟨hlt,rfl⟩:=hval h2;exact(hn _ _ tc (at_of h1)).freeze (fun b hb=> .inl hb) fun hx b hb=> .inr ⟨oq hx,_,_,hb⟩
   ·obtain⟨Hl,i,f,hb⟩:=hb
    exact⟨o,j9.1,j9.2,(k.kj Hl _ _ b hb).1⟩
   ·cases e
    obtain⟨Hl,i,f,hb⟩:=hb;exact(k.kj Hl _ _ b hb).2.1 ad rfl
end Go.T
namespace Go.T
variable {F : Nat → Prop} {A : Arg} {w0 w w' : World} {φ φ' : Fp} {st st' cj jA : TS} {tm xA : Array Value} {C : g6}
variable {R : Type} {cf : Cf} {lp : Lp} {Q : R → Prop}
def Wr (st:TS) (φ:Fp) (l:List Nat) (k:Nat):Prop:=(∃b cs,2*b+1∈l∧aa b st.bx=some cs∧qN b=true∧k=(φ.β b).block)∨ ∃o,2*o∈l∧av st.ob o∧φ.S o k
def Jc (C:g6) (F:Nat→Prop) (A:Arg) (w0:World) (φ:Fp) (st:TS) (o:Oper) (a:Act) (w:World) (K:TS→Ev R) (cf:Cf) (lp:Lp) (Q:R→Prop):Prop:=
 ∃nx v w' st',(execOp a.eval o).run C.P w= .ok nx w'∧(nx= .value v∨nx= .skip∧v=undef)∧Rel F A w0 st' (a.put o.dst v).tmps w'∧(K st').holds cf lp Q∧w.heap.size≤w'.heap.size∧
  ∀k,k<w.heap.size→ ¬Wr st φ (writes C st o) k→w'.heap[k]?=w.heap[k]?
theorem q9 {i:gu} (h:qC i=true):known i=true∧ ∀e,i.ti≠ .ptr e:=by
 unfold qC at h;unfold known
 split at h<;>first|cases h|skip
 rename_i h1 h2;exact⟨by split<;>first|rfl|(rename_i e;exact absurd e h1),fun e he=>h2 e he⟩
theorem KP (hT:dF C) {a:Act} (h:aG F A w0 φ st a.tmps w) {o:Oper} {K:TS→Ev R} (hd: ∀d,o.dst=some d→d<a.tmps.size) (hk:(E9 C st o K).holds cf lp Q):Jc C F A w0 φ st o a w K cf lp Q:=by
 unfold E9 at hk
 cases gx:o.dst with
 |none=>rw[gx] at hk;exact hk.elim
 |some d=>
  rw[gx] at hk;obtain⟨v,e,h1,h2,h3,_⟩:=HZ hT h hk;exact⟨_,v,w,_,h1,.inl rfl,⟨φ,by rw[gx];exact h.Ef (hd d gx) h2⟩,h3,bT _,fun _ _ _=>rfl⟩
theorem Ni (hT:dF C) {a:Act} (h:aG F A w0 φ st a.tmps w) {o:Oper} {t:TypeId} (ho:o.op= .alloc t) {K:TS→Ev R} (hd: ∀d,o.dst=some d→d<a.tmps.size) (hk:(jH C st o K).holds cf lp Q):Jc C F A w0 φ st o a w K cf lp Q:=by
 unfold jH at hk;rw[ho] at hk;simp only at hk
 split at hk
 ·rename_i d gx hp
  split at hk
  ·rename_i hw
   obtain⟨hkn,hnp⟩:=q9 hp;obtain⟨i,z,h1,h2,h3,h4,h5⟩:=Gp (w:=w) (φ:=φ) hT hkn hnp (ob:=st.ob)
   have hn:=(Ng h hw (t:=t) h4).Ef (d:=d) (e:= .bp d 0) (v:= .pointer (some ⟨w.heap.size,0,none⟩)) (hd d gx) (by
    show _=Value.pointer (some (((φ.box d ⟨w.heap.size,0,none⟩).β d).add 0))
    rw[oR,Addr.add_zero'])
   refine⟨.value (.pointer (some ⟨w.heap.size,0,none⟩)),_,_,_,?_,.inl rfl,⟨_,by rw[gx];exact hn⟩,hk,by simp,fun k hk _=>(jI.alloc w _).block k hk⟩;unfold execOp;rw[ho];simp[Instr.alloc,zeroValue,typeInfo,h1,h3,newVar,newRow]
  ·exact hk.elim
 ·exact hk.elim
theorem RC (hT:dF C) {a:Act} (h:aG F A w0 φ st a.tmps w) {o:Oper} {t:TypeId} {x:Operand} (ho:o.op= .box t x) {K:TS→Ev R} (hd: ∀d,o.dst=some d→d<a.tmps.size) (hk:(jH C st o K).holds cf lp Q):Jc C F A w0 φ st o a w K cf lp Q:=by
 unfold jH at hk;rw[ho] at hk;simp only at hk
 split at hk
 ·rename_i d cs gx hc
  split at hk
  ·rename_i hw
   have hcs:=mK (cC hT h t x) hc
   have hn:=(Ng h hw (t:=t) (arr:=(a.eval x).cells) hcs).Ef (d:=d) (e:= .bp d 0) (v:= .pointer (some ⟨w.heap.size,0,none⟩)) (hd d gx) (by
    show _=Value.pointer (some (((φ.box d ⟨w.heap.size,0,none⟩).β d).add 0))
    rw[oR,Addr.add_zero'])
   refine⟨.value (.pointer (some ⟨w.heap.size,0,none⟩)),_,_,_,?_,.inl rfl,⟨_,by rw[gx];exact hn⟩,hk,by simp,fun k hk _=>(jI.alloc w _).block k hk⟩;unfold execOp;rw[ho];simp[Instr.box,newVar,newRow]
  ·exact hk.elim
 ·exact hk.elim
theorem yR {P:Program} {tt:TypeId→gu} {t:TypeId} (h:wF P tt t) {ad:Addr} (hs:ad.spot=none) {v:Value} (hv:v.cells.size=(tt t).size) (h1: ∀x∈v.cells.toList,x.oneCell'=true)
 (hc: ∀j,j<v.cells.size→(w.cell? (ad.add j)).isSome=true∧w.frozen? (ad.add j)=false):(Instr.storeAt t (.pointer (some ad)) v).run P w= .ok () (w.setCells ad.block ad.off v.cells.toList):=by
 obtain⟨i,z,g1,g2,_⟩:=h.info;have wo: ∀j,ad.add j=⟨ad.block,ad.off+j,none⟩:=fun j=>ou j hs;have hst:=run_storeCells_cells (P:=P) ad.block ad.off v.cells.toList 0 w (fun j hj=>by rw[nR,←wo];exact(hc j (by simpa using hj)).1) (fun j hj=>by rw[nR,←wo];exact(hc j (by simpa using hj)).2) h1
 have had:(⟨ad.block,ad.off,none⟩:Addr)=ad:=by cases ad;simp_all
 rw[had,nR] at hst;simp only[Instr.storeAt,Instr.sureAddr,storeVar,sizeOf,typeInfo,Sem.run_bind,Sem.run_pure,Result.andThen];simp[g1,g2,hv,hst]
theorem xe: ∀{cs:List CE},Cj cs=false→ ∀e∈cs,e≠ .gone
 |[],_,e,he=>by cases he
 |c::r,h,e,he=>by
  cases c with
  |gone=>cases h
  |_=>
   rcases bK.1 he with rfl|he
   ·simp
   ·exact xe (cs:=r) h e he
theorem wG.one {cs:List CE} {v:Value} (h:wG st.ob w φ cs v) (hb: ∀o b,aa o st.ob=some b→iT w φ o b) (hg:Cj cs=false): ∀x∈v.cells.toList,x.oneCell'=true:=by
 intro x hx;obtain⟨j,hj,rfl⟩:=List.mem_iff_getElem.1 hx
 have hj':j<cs.length:=by rw[←h.1];simpa using hj
 obtain⟨y,h1,_,h3⟩:=h.2 j _ (aX hj')
 have Vg:j<v.cells.size:=by simpa using hj
 rw[oK Vg] at h1;simp only[aR] at h1;rw[Array.getElem_toList,h1];exact LH h3 (xe hg _ (pL hj')) hb
theorem KQ {α:Type} {old cs:List α} {off j:Nat} {e:α} (h:(old.take off++cs++old.drop (off+cs.length))[j]?=some e) (hle:off+cs.length≤old.length):
 (off≤j∧j<off+cs.length∧cs[j-off]?=some e)∨((j<off∨off+cs.length≤j)∧old[j]?=some e):=by
 have hto:(old.take off).length=off:=by rw[eY];omega
 rw[w5] at h
 by_cases h1:j<off
 ·rw[iD aA,AQ,aT h1] at h
  exact .inr ⟨.inl h1,h⟩
 ·rw[ju aA,hto] at h
  by_cases h2:j<off+cs.length
  ·rw[iD aA] at h
   exact .inl ⟨by omega,h2,h⟩
  ·rw[ju aA,kr,show off+cs.length+(j-off-cs.length)=j by omega] at h
   exact .inr ⟨.inr aA,h⟩
theorem xK {α:Type} {old cs:List α} {off:Nat} (hle:off+cs.length≤old.length):(old.take off++cs++old.drop (off+cs.length)).length=old.length:=by
 simp only[cr,eY,jE];omega
theorem Ib {a:Act} (hT:dF C) (h:aG F A w0 φ st a.tmps w) {o:Oper} {t:TypeId} {p x:Operand} (ho:o.op= .store t p x) (gx:o.dst=none) {cs:List CE} (hkn:known (C.tt t)=true) (hcs:wG st.ob w φ cs (a.eval x))
 (hsz:cs.length=(C.tt t).size) {b off:Nat} (hp:lU C st 0 p= .bp b off) {st':TS} (hs:Cy b off cs st=some st') {K:TS→Ev R} (hk:(K st').holds cf lp Q):Jc C F A w0 φ st o a w K cf lp Q:=by
 unfold Cy at hs
 split at hs
 ·rename_i old hb
  split at hs
  ·rename_i VW hle
   cases hs
   have hle:=lS hle;simp only[cL,m8] at VW;obtain⟨hw,hg⟩:=VW;have SA:=cC hT h 0 p;rw[hp] at SA;have SA:a.eval p= .pointer (some ((φ.β b).add off)):=SA;have nC:=(h.sep.spot b old hb).1 hw;have wo: ∀j,(φ.β b).add j=⟨(φ.β b).block,(φ.β b).off+j,none⟩:=fun j=>ou j nC;obtain⟨bx1,bx2,bx3,bx4⟩:=h.sep.box b old hb hw;have Mj:(a.eval x).cells.size=cs.length:=hcs.1
   have hrun:=yR (w:=w) (hT t hkn) (ad:=(φ.β b).add off) (ve off nC) (v:=a.eval x) (by rw[Mj,hsz]) (hcs.one h.obj hg) (fun j hj=>by
    rw[Addr.add_add]
    have hj:off+j<old.length:=by rw[Mj] at hj;omega
    obtain⟨v,c1,_⟩:=h.box b old hb (off+j) _ (aX hj)
    exact⟨by rw[c1];rfl,h.sep.soft b old (off+j) hb hw hj⟩)
   rw[bu,wo off] at hrun;simp only at hrun;have yl: ∀k,k<w.heap.size→k≠(φ.β b).block→(w.setCells (φ.β b).block ((φ.β b).off+off) (a.eval x).cells.toList).heap[k]?=w.heap[k]?:=fun k hk hne=>dj _ _ _ _ hk hne;have hlt:(φ.β b).block<w.heap.size:=(h.sep.spot b old hb).2.1
   have hnew:=h.zI (w':=w.setCells (φ.β b).block ((φ.β b).off+off) (a.eval x).cells.toList) hb hw (xK hle) (h.frm.setCells bx3) (by rw[(iG _ _ _ _).2.2.2];exact bT _) yl
    (fun j hj=>by rw[World.frozen?_setCells];exact h.sep.soft b old j hb hw (by rw[xK hle] at hj;exact hj))
    (fun j e he=>by
      rcases KQ he hle with⟨l1,l2,l3⟩|⟨l1,l2⟩
      ·obtain⟨y,y1,y2,y3⟩:=hcs.2 _ e l3
       have hin:=World.cell?_setCells_in (φ.β b).block (a.eval x).cells.toList ((φ.β b).off+off) w (fun j' hj'=>by
        have hj':j'<cs.length:=by rw[←Mj];simpa using hj'
        obtain⟨v,c1,_⟩:=h.box b old hb (off+j') _ (aX aA);rw[wo] at c1
        rw[show(φ.β b).off+off+j'=(φ.β b).off+(off+j') by omega,c1];rfl) (j-off) (by rw[qO,Mj];omega)
       refine⟨y,?_,y2,y3⟩;rw[wo,show(φ.β b).off+j=(φ.β b).off+off+(j-off) by omega,hin]
       have Vg:j-off<(a.eval x).cells.size:=by rw[Mj];omega
       rw[oK Vg] at y1;rw[Array.getElem_toList,←y1]
      ·obtain⟨v,c1,c2,c3⟩:=h.box b old hb j e l2
       refine⟨v,?_,c2,c3⟩;rw[World.cell?_setCells_out]
       ·exact c1
       ·intro _ _
        rw[wo,qO,Mj];simp only
        omega)
   refine⟨.skip,undef,_,_,?_,.inr ⟨rfl,rfl⟩,⟨φ,by rw[gx];exact hnew⟩,hk,by rw[(iG _ _ _ _).2.2.2];exact bT _,fun k hk Qi=> ?_⟩
   ·unfold execOp
    rw[ho];simp only[Sem.run_bind,SA,wo,hrun,Result.andThen]
    rfl
   ·refine yl k hk fun e=>Qi (.inl ⟨b,old,?_,hb,hw,e⟩)
    unfold writes;rw[ho];simp only[hp];exact .head _
  ·cases hs
 ·cases hs
end Go.T
namespace Go.T
variable {F : Nat → Prop} {A : Arg} {w0 w w' : World} {φ φ' : Fp} {st st' cj jA : TS} {tm xA : Array Value} {C : g6}
variable {R : Type} {cf : Cf} {lp : Lp} {Q : R → Prop}
def kU (rows:List (List TC)) (i f:Nat) (cs:List TC):List (List TC):=match rows[i]? with
 |some r=>rows.set i (r.take f++cs++r.drop (f+cs.length))
 |none=>rows
attribute [local semireducible] setRow in
theorem mP (rows:List (List TC)) (i:Int) (f:Nat) (cs:List TC):setRow rows i f cs=kU rows i.toNat f cs:=rfl
theorem gf (rows:List (List TC)) (i f:Nat) (cs:List TC):(kU rows i f cs).length=rows.length:=by
 unfold kU;split<;>simp
theorem sq {rows:List (List TC)} {i f:Nat} {cs row:List TC} (hrow:rows[i]?=some row) (hf:f+cs.length≤row.length) {i' f':Nat} {tc:TC} (h:pX (kU rows i f cs) i' f'=some tc):
 (i'=i∧f≤f'∧f'<f+cs.length∧cs[f'-f]?=some tc)∨((i'≠i∨f'<f∨f+cs.length≤f')∧pX rows i' f'=some tc):=by
 unfold kU at h;simp only[hrow] at h
 by_cases hi:i'=i
 ·subst hi
  have hlt:=(List.getElem?_eq_some_iff.1 hrow).1;simp only[pX,List.getElem?_set_self hlt,Option.bind_some] at h;rcases KQ h hf with⟨a,b,c⟩|⟨a,b⟩
  ·exact .inl ⟨rfl,a,b,c⟩
  ·exact .inr ⟨.inr a,by simp[pX,hrow,b]⟩
 ·simp only[pX,List.getElem?_set_ne (Ne.symm hi)] at h
  exact .inr ⟨.inl hi,h⟩
theorem yS {z:Nat} {rows:List (List TC)} (hw: ∀r∈rows,r.length=z) {i f:Nat} {cs row:List TC} (hrow:rows[i]?=some row) (hf:f+cs.length≤row.length): ∀r∈kU rows i f cs,r.length=z:=by
 intro r hr;unfold kU at hr;simp only[hrow] at hr;rcases List.mem_or_eq_of_mem_set hr with hr|rfl
 ·exact hw r hr
 ·rw[xK hf];exact hw row (eD hrow)
theorem ah.mono' {w:World} {Rd S S':Nat→Prop} {m:Mode} {t:TC} {v:Value} (h:ah w Rd m S t v) (hS:m≠ .snap→ ∀b,S b→S' b):ah w Rd m S' t v:=by
 by_cases hm:m= .snap
 ·subst hm;exact h.kf fun _ h=>h
 ·exact h.mono (hS hm)
theorem ah.LJ {w w':World} {Rd S:Nat→Prop} {t:TC} {v:Value} (h:ah w Rd .deep S t v) (hS: ∀b,S b→w'.heap[b]?=w.heap[b]?):ah w' Rd .deep S t v:=
 (((h.xd rfl:ah w zE .deep S t v).move (R':=zE) (fun _ h=>h.elim) fun _=>hS).xd rfl:ah w' Rd .deep S t v)
theorem ah.put {Rd S:Nat→Prop} {m:Mode} {z n c:Nat} {rows:List (List TC)} {ad:Addr} (h:ah w Rd m S (.sub z rows) (.slice (some ad) n c)) (hm:m≠ .snap) {i f:Nat} {ts row:List TC} (hrow:rows[i]?=some row) (hf:f+ts.length≤row.length)
 {vs:List Value} (hl:vs.length=ts.length) (h1: ∀v∈vs,v.oneCell'=true) {X:Nat→Nat→Prop} (hX: ∀(j:Nat) (t:TC) (v:Value),ts[j]?=some t→vs[j]?=some v→ah w Rd m.nx (X j) t v)
 (Up:m= .deep→ ∀j k,j<ts.length→X j k→ ¬S k∧ ∀j',j'<ts.length→X j' k→j'=j) (Uq: ∀k,Rd k→k<w.heap.size∧k≠ad.block) (hS: ∀k,S k→k<w.heap.size) (Wy: ∀j k,j<ts.length→X j k→k<w.heap.size):
 ad.spot=none∧S ad.block∧(∀j,j<vs.length→(w.cell? (ad.add (i*z+f+j))).isSome=true∧w.frozen? (ad.add (i*z+f+j))=false)∧
 ah (w.setCells ad.block (ad.off+(i*z+f)) vs) Rd m (fun k=>S k∨(m= .deep∧ ∃j,j<ts.length∧X j k)) (.sub z (kU rows i f ts)) (.slice (some ad) n c):=by
 cases h with
 |sub _ _ _ _ _ _ u T k hn=>
  have hlt:=(List.getElem?_eq_some_iff.1 hrow).1;have hrl:=k.width row (eD hrow);obtain⟨Q1,nC,hall⟩:=(k.own hm).2 ad rfl;have wo: ∀j,ad.add j=⟨ad.block,ad.off+j,none⟩:=fun j=>ou j nC
  have inb: ∀j,j<ts.length→i*z+f+j<c*z:=fun j hj=>by
   have:i*z+f+j<(i+1)*z:=by rw[m9];omega
   exact fJ this (lF _ (by have:=k.len;omega))
  have there: ∀j,j<vs.length→(w.cell? (ad.add (i*z+f+j))).isSome=true∧w.frozen? (ad.add (i*z+f+j))=false:=fun j hj=>by
   obtain⟨⟨x,hx⟩,hfz⟩:=hall (i*z+f+j) (inb j aA);rw[wo];exact⟨by rw[hx];rfl,hfz⟩
  have yl: ∀b,b<w.heap.size→b≠ad.block→(w.setCells ad.block (ad.off+(i*z+f)) vs).heap[b]?=w.heap[b]?:=fun b hb hne=>dj _ _ _ _ hb hne;have VX: ∀j b,j<ts.length→m= .deep→X j b→b≠ad.block:=fun j b hj Hl hb e=>(Up Hl j b hj hb).1 (by rw[e];exact Q1)
  have hin: ∀j (hj:j<vs.length),(w.setCells ad.block (ad.off+(i*z+f)) vs).cell? (ad.add (i*z+f+j))=some vs[j]:=fun j hj=>by
   have:=World.cell?_setCells_in ad.block vs (ad.off+(i*z+f)) w (fun j' hj'=>by
    have:=(there j' hj').1;rw[wo] at this
    rw[show ad.off+(i*z+f)+j'=ad.off+(i*z+f+j') by omega];exact this) j hj
   rw[wo,show ad.off+(i*z+f+j)=ad.off+(i*z+f)+j by omega];exact this
  have hout: ∀p,(p<i*z+f∨i*z+f+vs.length≤p)→(w.setCells ad.block (ad.off+(i*z+f)) vs).cell? (ad.add p)=w.cell? (ad.add p):=fun p hp=>by
   refine World.cell?_setCells_out _ _ _ _ _ fun _ _=> ?_;rw[wo];simp only;omega
  refine⟨nC,Q1,there,?_⟩
  let inr:Nat→Nat→Prop:=fun i' f'=>i'=i∧f≤f'∧f'<f+ts.length
  have dec: ∀i' f',Decidable (inr i' f'):=fun _ _=>inferInstanceAs (Decidable (_∧_∧_))
  have key:=ah.sub (w:=w.setCells ad.block (ad.off+(i*z+f)) vs) (R:=Rd) m (fun b=>S b∨(m= .deep∧ ∃j,j<ts.length∧X j b)) z (kU rows i f ts) (some ad) c
   (fun i' f'=>if i'=i∧f≤f'∧f'<f+ts.length then vs.getD (f'-f) undef else u i' f') (fun i' f' b=>if i'=i∧f≤f'∧f'<f+ts.length then m= .deep∧X (f'-f) b else T i' f' b) ?_ ?_
  ·rw[gf] at key;exact key
  ·refine⟨by rw[gf];exact k.len,k.cap,k.z0,yS k.width hrow hf,fun _=>⟨ad,rfl⟩,?_,fun e=>absurd e hm,fun _=>⟨fun e=>(by cases e),?_⟩,fun hm Mh ad' e i=>(by cases e;rw[World.frozen?_setCells];exact k.soft hm Mh ad rfl i),?_⟩
   ·intro ad' e i' f' tc ht
    cases e
    rcases sq hrow hf ht with⟨rfl,a,b,hc⟩|⟨hn',hc⟩
    ·rw[aT ⟨rfl,a,b⟩]
     have hj:f'-f<vs.length:=by omega
     have:=hin (f'-f) hj;rw[show i'*z+f+(f'-f)=i'*z+f' by omega] at this;rw[this];simp[List.getD,aX hj]
    ·rw[aL aA]
     rw[hout]
     ·exact k.cell ad rfl i' f' tc hc
     ·obtain⟨_,hf',_⟩:=oS k.width hc
      by_cases hi:i'=i
      ·subst hi;omega
      ·rcases Nat.lt_or_gt_of_ne hi with hi|hi
       ·left
        have:i'*z+z≤i*z:=by rw[←Ct];exact lF _ hi
        omega
       ·right
        have:i*z+z≤i'*z:=by rw[←Ct];exact lF _ hi
        omega
   ·intro ad' e
    cases e
    refine⟨.inl Q1,nC,fun j hj=> ?_⟩;obtain⟨⟨x,hx⟩,hfz⟩:=hall j hj;refine⟨?_,by rw[World.frozen?_setCells];exact hfz⟩;have:=World.isSome_setCells ad.block vs (ad.off+(i*z+f)) w ⟨ad.block,ad.off+j,none⟩ (by rw[hx];rfl);exact Option.isSome_iff_exists.1 this
   ·intro Hl i' f' b hb
    by_cases hr:i'=i∧f≤f'∧f'<f+ts.length
    ·rw[aT hr] at hb
     have hj:f'-f<ts.length:=by omega
     refine⟨.inr ⟨Hl,_,hj,hb.2⟩,fun ad' e=>(by cases e;exact VX _ b hj Hl hb.2),fun i2 f2 hb2=> ?_⟩
     by_cases F0:i2=i∧f≤f2∧f2<f+ts.length
     ·rw[aT F0] at hb2
      have:=(Up Hl _ b hj hb.2).2 _ aA hb2.2;omega
     ·rw[aL F0] at hb2
      exact absurd (k.kj Hl i2 f2 b hb2).1 (Up Hl _ b hj hb.2).1
    ·rw[aL hr] at hb
     obtain⟨d1,d2,d3⟩:=k.kj Hl i' f' b hb;refine⟨.inl d1,d2,fun i2 f2 hb2=> ?_⟩
     by_cases F0:i2=i∧f≤f2∧f2<f+ts.length
     ·rw[aT F0] at hb2
      exact absurd d1 (Up Hl _ b aA hb2.2).1
     ·rw[aL F0] at hb2
      exact d3 i2 f2 hb2
  ·intro i' f' tc ht
   rcases sq hrow hf ht with⟨rfl,a,b',hc⟩|⟨hn',hc⟩
   ·rw[aT ⟨rfl,a,b'⟩]
    have hj:f'-f<vs.length:=by omega
    have hx:=hX (f'-f) tc vs[f'-f] hc (aX hj)
    have hv:vs.getD (f'-f) undef=vs[f'-f]:=by simp[List.getD,aX hj]
    rw[hv];refine(ah.move hx (fun b hb=>⟨hb,yl b (Uq b hb).1 (Uq b hb).2⟩) fun Tu b hb=>yl b (Wy _ b aA hb) (VX _ b aA (oq Tu) hb)).mono' fun Tu b hb=> ?_;rw[aT ⟨rfl,a,b'⟩];exact⟨oq Tu,hb⟩
   ·rw[aL aA]
    refine(ah.move (hn i' f' tc hc) (fun b hb=>⟨hb,yl b (Uq b hb).1 (Uq b hb).2⟩) fun Tu b hb=> ?_).mono fun b hb=>by rw[aL aA];exact hb
    obtain⟨d1,d2,_⟩:=k.kj (oq Tu) i' f' b hb;exact yl b (hS b d1) (d2 ad rfl)
theorem ah.inner {Rd S:Nat→Prop} {z n c:Nat} {rows:List (List TC)} {ad:Addr} (h:ah w Rd .deep S (.sub z rows) (.slice (some ad) n c)) {i f:Nat} {tc:TC} (ht:pX rows i f=some tc):
 ∃V1 T0,w.cell? (ad.add (i*z+f))=some V1∧ah w Rd .deep T0 tc V1∧(∀k,T0 k→S k∧k≠ad.block)∧S ad.block∧
  ∀(w':World) (tc':TC) (T1:Nat→Prop),ah w' Rd .deep T1 tc' V1→(∀k,S k→ ¬T0 k→w'.heap[k]?=w.heap[k]?)→(∀k,T1 k→T0 k∨ ¬S k)→
   ah w' Rd .deep (fun k=>(S k∧ ¬T0 k)∨T1 k) (.sub z (kU rows i f [tc'])) (.slice (some ad) n c):=by
 cases h with
 |sub _ _ _ _ _ _ u T k hn=>
  obtain⟨row,hrow,hfr⟩: ∃row,rows[i]?=some row∧row[f]?=some tc:=by
   unfold pX at ht
   cases hr:rows[i]? with
   |none=>rw[hr] at ht;cases ht
   |some row=>rw[hr] at ht;exact⟨row,rfl,ht⟩
  have hf:f+1≤row.length:=(List.getElem?_eq_some_iff.1 hfr).1;obtain⟨Q1,nC,hall⟩:=(k.own dM).2 ad rfl;have Ur: ∀b,T i f b→S b∧b≠ad.block:=fun b hb=>⟨(k.kj rfl i f b hb).1,(k.kj rfl i f b hb).2.1 ad rfl⟩;refine⟨u i f,T i f,k.cell ad rfl i f tc ht,hn i f tc ht,Ur,Q1,fun w' tc' T1 h1 hsame Vh=> ?_⟩;have Ec:w'.heap[ad.block]?=w.heap[ad.block]?:=hsame _ Q1 fun hb=>(Ur _ hb).2 rfl;have key:=ah.sub (w:=w') (R:=Rd) .deep (fun b=>(S b∧ ¬T i f b)∨T1 b) z (kU rows i f [tc']) (some ad) c u (fun i' f' b=>if i'=i∧f'=f then T1 b else T i' f' b) ?_ ?_
  ·rw[gf] at key;exact key
  ·refine⟨by rw[gf];exact k.len,k.cap,k.z0,yS k.width hrow hf,fun _=>⟨ad,rfl⟩,?_,fun e=>(by cases e),fun _=>⟨fun e=>(by cases e),?_⟩,fun hm Mh ad' e i=>(by cases e;rw[gK (w:=w) (a:=⟨ad.block,i,none⟩) Ec];exact k.soft dM Mh ad rfl i),?_⟩
   ·intro ad' e i' f' t' ht'
    cases e
    rw[dh (w:=w) (by rw[bu];exact Ec)];rcases sq hrow hf ht' with⟨rfl,a,b,hc⟩|⟨_,hc⟩
    ·have:f'=f:=by simp at b;omega
     subst this;exact k.cell ad rfl _ _ tc ht
    ·exact k.cell ad rfl i' f' t' hc
   ·intro ad' e
    cases e
    refine⟨.inl ⟨Q1,fun hb=>(Ur _ hb).2 rfl⟩,nC,fun j hj=> ?_⟩;obtain⟨⟨x,hx⟩,hfz⟩:=hall j hj;exact⟨⟨x,by rw[dh (w:=w) (by exact Ec)];exact hx⟩,by rw[gK (w:=w) (by exact Ec)];exact hfz⟩
   ·intro _ i' f' b hb
    by_cases hr:i'=i∧f'=f
    ·rw[aT hr] at hb
     have hne:b≠ad.block:=fun e=>by
      subst e;rcases Vh _ hb with h|h
      ·exact(Ur _ h).2 rfl
      ·exact h Q1
     refine⟨.inr hb,fun ad' e=>(by cases e;exact hne),fun i2 f2 hb2=> ?_⟩
     by_cases F0:i2=i∧f2=f
     ·exact⟨F0.1.trans hr.1.symm,F0.2.trans hr.2.symm⟩
     ·rw[aL F0] at hb2
      rcases Vh _ hb with h|h
      ·have:=(k.kj rfl i2 f2 b hb2).2.2 i f h
       exact absurd ⟨this.1.symm,this.2.symm⟩ F0
      ·exact absurd (k.kj rfl i2 f2 b hb2).1 h
    ·rw[aL hr] at hb
     obtain⟨d1,d2,d3⟩:=k.kj rfl i' f' b hb;refine⟨.inl ⟨d1,fun hb0=>hr (by have:=d3 i f hb0;exact⟨this.1.symm,this.2.symm⟩)⟩,d2,fun i2 f2 hb2=> ?_⟩
     by_cases F0:i2=i∧f2=f
     ·rw[aT F0] at hb2
      rcases Vh _ hb2 with h|h
      ·have:=d3 i f h
       exact absurd ⟨this.1.symm,this.2.symm⟩ hr
      ·exact absurd d1 h
     ·rw[aL F0] at hb2
      exact d3 i2 f2 hb2
  ·intro i' f' t' ht'
   rcases sq hrow hf ht' with⟨rfl,a,b,hc⟩|⟨hn',hc⟩
   ·have:f'=f:=by simp at b;omega
    subst this;simp at hc;subst hc
    exact h1.mono fun b hb=>by rw[aT ⟨rfl,rfl⟩];exact hb
   ·have hr: ¬(i'=i∧f'=f):=by simp at hn';omega
    refine(ah.LJ (hn i' f' t' hc) fun b hb=> ?_).mono fun b hb=>by rw[aL hr];exact hb
    obtain⟨d1,d2,d3⟩:=k.kj rfl i' f' b hb;exact hsame b d1 fun hb0=>hr (by have:=d3 i f hb0;exact⟨this.1.symm,this.2.symm⟩)
end Go.T
namespace Go.T
variable {F : Nat → Prop} {A : Arg} {w0 w w' : World} {φ φ' : Fp} {st st' cj jA : TS} {tm xA : Array Value} {C : g6}
variable {R : Type} {cf : Cf} {lp : Lp} {Q : R → Prop}
structure mB (F:Nat→Prop) (w0 w:World) (φ:Fp) (st:TS) (k:Nat):Prop where
 lt:k<w.heap.size
 new:w0.heap.size≤k∨F k
 I: ¬φ.I k
 S: ∀o,av st.ob o→ ¬φ.S o k
 B: ∀b cs,aa b st.bx=some cs→(φ.β b).block≠k
theorem aG.jq (h:aG F A w0 φ st tm w) {o k:Nat} (ho:av st.ob o) (hk:φ.S o k) {b:Nat} {cs:List CE} (hb:aa b st.bx=some cs):(φ.β b).block≠k:=fun e=>by
 subst e
 cases wZ:qN b with
 |true=>exact(h.sep.box b cs hb wZ).2.1 o ho hk
 |false=>
  have h1:=h.sep.iQ _ ((h.sep.spot b cs hb).2.2 wZ);rcases (h.sep.fresh o _ ho hk).2 with h3|h3
  ·omega
  ·exact h1.2 h3
theorem aG.free (h:aG F A w0 φ st tm w) (hs:cD st' st) {k:Nat} (hk: ∃o,av st.ob o∧ ¬av st'.ob o∧φ.S o k):mB F w0 w φ st' k:=by
 obtain⟨o,a1,a2,a3⟩:=hk
 exact⟨(h.sep.fresh o k a1 a3).1,(h.sep.fresh o k a1 a3).2,h.sep.read o k a1 a3,fun o' ho' hk=>by
  have:=h.sep.apart o o' k a1 (hs.dom ho') a3 hk
  subst this;exact a2 ho',fun b cs hb=>by
  obtain⟨cs0,c0,_⟩:=hs.bx b cs hb
  exact h.jq a1 a3 c0⟩
theorem Ic (h:aG F A w0 φ st tm w) (h1:aG F A w0 φ cj tm w) {bW:List It} {X:Nat→Nat→Prop} {Zp:Nat→Prop} (p:gY w φ st cj bW X Zp) {r:Nat} {B b':OB} (hr:aa r cj.ob=some B) (hz:b'.z=B.z) (hl:b'.rows.length=B.rows.length)
 {Zt Xr:Nat→Prop} {gb off:Nat} {vs:List Value} (hg:φ.S r gb) (Wz: ∀k,Xr k→ ¬Zt k∧(φ.S r k∨ ∃j,j<bW.length∧X j k)) (WA: ∀k,Zt k→Zp k∨φ.S r k)
 (hc:ah (w.setCells gb off vs) (fun k=>φ.I k∨Zt k) b'.m Xr (.sub b'.z b'.rows) (φ.V r)):Rel F A w0 (nE [(r,b')] cj) tm (w.setCells gb off vs):=by
 have hin:av cj.ob r:=⟨_,hr⟩;have hsize:=(iG gb vs off w).2.2.2
 have lookW: ∀{o b},aa o [(r,b')]=some b→o=r∧b=b':=fun {o b} ho=>by
  simp only[aa] at ho
  cases hb:Nat.beq r o with
  |true=>rw[hb] at ho;cases ho;exact⟨(eB hb).symm,rfl⟩
  |false=>rw[hb] at ho;cases ho
 have neW: ∀{o},aa o [(r,b')]=none→o≠r:=fun {o} ho e=>by subst e;simp[aa] at ho
 have frS: ∀{k},φ.S r k→k<w.heap.size∧(w0.heap.size≤k∨F k)∧ ¬φ.I k∧(∀d,av cj.ob d→aa d [(r,b')]=none→ ¬φ.S d k)∧ ∀b cs,aa b cj.bx=some cs→(φ.β b).block≠k:=fun {k} hk=>
  ⟨(h1.sep.fresh r k hin hk).1,(h1.sep.fresh r k hin hk).2,h1.sep.read r k hin hk,fun d hd hn hk'=>neW hn (h1.sep.apart d r k hd hin hk' hk),fun b cs hb=>h1.jq hin hk hb⟩
 refine⟨_,h1.wrote (w':=w.setCells gb off vs) [(r,b')] (fun _ k=>Xr k) Zt (fun k=>k=gb) (h1.frm.setCells (frS hg).2.1) (by rw[hsize];exact bT _) (fun k hk hn=>dj _ _ _ _ hk hn)
  (fun k e=>by subst e;exact(frS hg).2.1) (fun k e=>by subst e;exact(frS hg).2.2.1) (fun k o e ho hn=>by subst e;exact(frS hg).2.2.2.1 o ho hn) (fun b cs hb e=>(frS hg).2.2.2.2 b cs hb e) (fun o b ho=> ?_) (fun k hk=> ?_)⟩
 ·obtain⟨rfl,rfl⟩:=lookW ho
  refine⟨B,hr,hz,hl,hc,fun k hk=> ?_⟩;obtain⟨x1,x2⟩:=Wz k hk;rcases x2 with x2|⟨j,hj,x2⟩
  ·obtain⟨f1,f2,f3,f4,f5⟩:=frS x2
   exact⟨by rw[hsize];exact f1,f2,f3,x1,f4,fun d b hb _=>(lookW hb).1,fun b cs hb _=>f5 b cs hb⟩
  ·have fr:=h.free p.sub (p.src j k hj x2).2
   exact⟨by rw[hsize];exact fr.lt,fr.new,fr.I,x1,fun d hd _=>fr.S d hd,fun d b hb _=>(lookW hb).1,fun b cs hb _=>fr.B b cs hb⟩
 ·rcases WA k hk with hz|hz
  ·have fr:=h.free p.sub (p.srcZ k hz)
   exact⟨by rw[hsize];exact fr.lt,fr.new.elim .inl fun hF=> .inr (.inl hF),fun d hd _=>fr.S d hd,fun b cs hb _=>fr.B b cs hb⟩
  ·obtain⟨f1,f2,f3,f4,f5⟩:=frS hz
   exact⟨by rw[hsize];exact f1,f2.elim .inl fun hF=> .inr (.inl hF),f4,fun b cs hb _=>f5 b cs hb⟩
theorem xL {a:Act} (hT:dF C) (h:aG F A w0 φ st a.tmps w) {o:Oper} {t:TypeId} {q x:Operand} (ho:o.op= .store t q x) (gx:o.dst=none) {cs:List CE} (hkn:known (C.tt t)=true) (hcs:wG st.ob w φ cs (a.eval x))
 (hsz:cs.length=(C.tt t).size) {r:Nat} {path:Option (Int×Nat)} {i:Int} {f:Nat} (hq:lU C st 0 q= .er r path i f) {K:TS→Ev R} (hk:(yA r path i f cs st K).holds cf lp Q):Jc C F A w0 φ st o a w K cf lp Q:=by
 have Tv:=cC hT h 0 q;rw[hq] at Tv;obtain⟨b,hb,hi,ad,n,c,hV,Q2⟩:=Tv;unfold yA at hk
 split at hk
 ·rename_i ts cj d1 hab
  split at hk
  ·rename_i d z rows Hu
   have vlen:(a.eval x).cells.toList.length=cs.length:=by simpa using hcs.1
   have hce: ∀(j:Nat) (e:CE),cs[j]?=some e→ ∃v,(a.eval x).cells.toList[j]?=some v∧bP st.ob w φ e v:=fun j e he=>by
    obtain⟨y,y1,_,y3⟩:=hcs.2 j e he;exact⟨y,by simpa using y1,y3⟩
   have fin: ∀{ad':Addr} {b':OB},a.eval q= .pointer (some ad')→ad'.spot=none→(∀j,j<(a.eval x).cells.size→(w.cell? (ad'.add j)).isSome=true∧w.frozen? (ad'.add j)=false)→(∀y∈(a.eval x).cells.toList,y.oneCell'=true)→φ.S r ad'.block→
    Rel F A w0 (nE [(r,b')] cj) a.tmps (w.setCells ad'.block ad'.off (a.eval x).cells.toList)→(K (nE [(r,b')] cj)).holds cf lp Q→Jc C F A w0 φ st o a w K cf lp Q:=fun {ad' b'} hv hs hc h1 hS pH hk=>by
    have hrun:=yR (w:=w) (hT t hkn) hs (v:=a.eval x) (by rw[hcs.1,hsz]) h1 hc;refine⟨.skip,undef,_,_,?_,.inr ⟨rfl,rfl⟩,by rw[gx];exact pH,hk,by rw[(iG _ _ _ _).2.2.2];exact bT _,fun k hk Qi=> ?_⟩
    ·unfold execOp
     rw[ho];simp only[Sem.run_bind,hv,hrun,Result.andThen]
     rfl
    ·refine dj _ _ _ _ hk fun e=>Qi (.inr ⟨r,?_,⟨b,hb⟩,by rw[e];exact hS⟩)
     unfold writes;rw[ho];simp only[hq];exact .head _
   have one: ∀{M:Mode} {X:Nat→Nat→Prop} {Z:Nat→Prop},ts.length=cs.length→gY w φ st cj (cA M ts (a.eval x).cells.toList) X Z→ ∀y∈(a.eval x).cells.toList,y.oneCell'=true:=fun {M X Z} hl p y hy=>by
    obtain⟨j,hj,rfl⟩:=List.mem_iff_getElem.1 hy;exact mO (p.ok j _ (je (aX aA) (aX hj)))
   cases path with
   |none=>
    simp only at hk;obtain⟨row,hrow,hk⟩:=hk;obtain⟨_,hrow⟩:=lz hrow;simp only at hk
    split at hk
    ·rename_i hle
     have hle:=lS hle
     obtain⟨h1,hl,hsub,os,tk⟩:=wI (if d&&d1 then .deep else .snap) cs st _ ts cj d1 h (cD.refl _) vlen hce (by
      cases hd:d&&d1 with
      |true=>simp only[cL] at hd;exact .inr ⟨hd.2,rfl⟩
      |false=>exact .inl rfl) hab
     obtain⟨X,Zp,p⟩:=tk.parts h;have:=hsub.ob r _ Hu;rw[hb] at this
     cases this
     have hO:=h1.obj r _ Hu;unfold iT at hO;rw[hV] at hO;have hin:av cj.ob r:=⟨_,Hu⟩;have hlen:(cA (if(d&&d1)=true then Mode.deep else .snap) ts (a.eval x).cells.toList).length=ts.length:=eW aA;have itm: ∀(j:Nat) (tc:TC) (v:Value),ts[j]?=some tc→(a.eval x).cells.toList[j]?=some v→ah w (fun k=>φ.I k∨Zp k) (if(d&&d1)=true then Mode.deep else .snap) (X j) tc v:=fun j tc v e1 e2=>p.ok j _ (je e1 e2);have D5:a.eval q= .pointer (some (ad.add (i.toNat*z+f))):=Q2
     obtain⟨Zt,Sr,g1,g2,g3,g4,g5⟩: ∃Zt Sr:Nat→Prop,ah w (fun k=>φ.I k∨Zt k) (OB.m ⟨d&&d1,z,setRow rows i f ts⟩) Sr (.sub z rows) (.slice (some ad) n c)∧(∀k,Sr k→φ.S r k∧ ¬Zt k)∧(∀k,Zt k→(Zp k∨φ.S r k)∧k≠ad.block)∧
      (∀(j:Nat) (tc:TC) (v:Value),ts[j]?=some tc→(a.eval x).cells.toList[j]?=some v→ah w (fun k=>φ.I k∨Zt k) (OB.m ⟨d&&d1,z,setRow rows i f ts⟩).nx (X j) tc v)∧((d&&d1)=true→ ∀k,Zt k→Zp k):=by
      have adS:φ.S r ad.block:=by
       cases hO with
       |sub _ _ _ _ _ _ u T k hn=>exact(k.own (by unfold OB.m;split<;>simp)).2 ad rfl|>.1
      have zpn: ∀k,Zp k→k≠ad.block:=fun k hk e=>(h.free p.sub (p.srcZ k hk)).S r hin (by rw[e];exact adS)
      cases hd:d&&d1 with
      |true=>
       rw[hd] at itm
       have Lm:d=true:=by simp only[cL] at hd;exact hd.1
       subst Lm;refine⟨Zp,φ.S r,hO.jJ fun k hk=> .inl hk,fun k hk=>⟨hk,fun hz=>(h.free p.sub (p.srcZ k hz)).S r hin hk⟩,fun k hk=>⟨.inl hk,zpn k hk⟩,itm,fun _ k hk=>hk⟩
      |false=>
       rw[hd] at itm;refine⟨fun k=>Zp k∨(φ.S r k∧ ¬CQ .top (.slice (some ad) n c) (φ.S r) k),CQ .top (.slice (some ad) n c) (φ.S r),?_,fun k hk=>⟨hk.1,fun hz=> ?_⟩,fun k hk=> ?_,fun j tc v e1 e2=> ?_,fun e=>by cases e⟩
       ·exact hO.out (m:= .top) (by unfold OB.m;split<;>simp) (fun e=>by cases e) (fun k hk=> .inl hk) fun k hk hn=> .inr (.inr ⟨hk,hn⟩)
       ·rcases hz with hz|hz
        ·exact(h.free p.sub (p.srcZ k hz)).S r hin hk.1
        ·exact hz.2 hk
       ·rcases hk with hk|hk
        ·exact⟨.inl hk,zpn k hk⟩
        ·exact⟨.inr hk.1,fun e=>hk.2 ⟨hk.1,ad,n,c,rfl,e⟩⟩
       ·exact(itm j tc v e1 e2).kf (S':=X j) fun k hk=>hk.elim .inl fun h=> .inr (.inl h)
     obtain⟨ps,pS,pt,pc⟩:=g1.put (by unfold OB.m;split<;>simp) hrow hle (vs:=(a.eval x).cells.toList) aA (one hl p) g4 (fun Hl j k hj hk=>by
      obtain⟨s1,s2⟩:=p.src j k (by rw[hlen];exact hj) hk
      exact⟨fun hS=>(h.free p.sub s2).S r hin (g2 k hS).1,fun j' hj' hk'=>p.apart _ _ k (by rw[hlen];exact hj') (by rw[hlen];exact hj) hk' hk⟩)
      (fun k hk=>by
        rcases hk with hk|hk
        ·refine⟨(h.sep.ro k hk).1,fun e=> ?_⟩
         have adS:φ.S r ad.block:=by
          cases hO with
          |sub _ _ _ _ _ _ u T k hn=>exact(k.own (by unfold OB.m;split<;>simp)).2 ad rfl|>.1
         exact h1.sep.read r _ hin adS (by rw[←e];exact hk)
        ·refine⟨?_,(g3 k hk).2⟩
         rcases (g3 k hk).1 with hz|hz
         ·exact(h.free p.sub (p.srcZ k hz)).lt
         ·exact(h1.sep.fresh r k hin hz).1)
      (fun k hk=>(h1.sep.fresh r k hin (g2 k hk).1).1) (fun j k hj hk=>(h.free p.sub (p.src j k (by rw[hlen];exact hj) hk).2).lt)
     refine fin D5 (ve _ ps) (fun j hj=>by rw[Addr.add_add];exact pt j (by simpa using hj)) (one hl p) (by rw[bu];exact(g2 _ pS).1) ?_ hk;rw[bu,ou _ ps];refine Ic h h1 p Hu (b':=⟨d&&d1,z,setRow rows i f ts⟩) rfl (by simp only[mP,gf]) (g2 _ pS).1 (Zt:=Zt) (Xr:=fun k=>Sr k∨((OB.m ⟨d&&d1,z,setRow rows i f ts⟩)= .deep∧ ∃j,j<ts.length∧X j k)) (fun k hk=> ?_) (fun k hk=>(g3 k hk).1) ?_
     ·rcases hk with hk|⟨Hl,j,hj,hk⟩
      ·exact⟨(g2 k hk).2,.inl (g2 k hk).1⟩
      ·refine⟨fun hz=> ?_,.inr ⟨j,by rw[hlen];exact hj,hk⟩⟩
       have Lm:(d&&d1)=true:=by
        unfold OB.m at Hl
        cases hd:d&&d1 with
        |true=>rfl
        |false=>simp[hd] at Hl
       exact(p.src j k (by rw[hlen];exact hj) hk).1 (g5 Lm k hz)
     ·show ah _ _ (OB.m ⟨d&&d1,z,setRow rows i f ts⟩) _ (.sub z (setRow rows i f ts)) _
      rw[hV,mP];exact pc
    ·exact hk.elim
   |some pq=>
    obtain⟨i0,f0⟩:=pq;simp only at hk
    split at hk
    ·obtain⟨row0,OC,hk⟩:=hk
     obtain⟨_,OC⟩:=lz OC;simp only at hk
     split at hk
     ·rename_i z1 kQ R6
      obtain⟨row,hrow,hk⟩:=hk;obtain⟨_,hrow⟩:=lz hrow;simp only at hk
      split at hk
      ·rename_i hle
       have hle:=lS hle;obtain⟨h1,hl,hsub,os,tk⟩:=wI .deep cs st _ ts cj true h (cD.refl _) vlen hce (.inr ⟨rfl,rfl⟩) hab;obtain⟨X,Zp,p⟩:=tk.parts h;have:=hsub.ob r _ Hu;rw[hb] at this
       cases this
       have hO:=h1.obj r _ Hu;unfold iT at hO;rw[hV] at hO;have hin:av cj.ob r:=⟨_,Hu⟩;have hlen:(cA Mode.deep ts (a.eval x).cells.toList).length=ts.length:=eW aA;obtain⟨_,z1',rows1',Tn,ad1,n1,c1,hcell,SA⟩:=Q2;have VY:pX rows i0.toNat f0=some (.sub z1 kQ):=ov OC R6;rw[VY] at Tn
       cases Tn
       obtain⟨V1,T0,v1,v2,v3,v4,v5⟩:=ah.inner (hO.jJ (R':=fun k=>φ.I k∨Zp k) fun k hk=> .inl hk:ah w (fun k=>φ.I k∨Zp k) .deep (φ.S r) (.sub z rows) (.slice (some ad) n c)) VY
       have:V1= .slice (some ad1) n1 c1:=by have hh:=v1.symm.trans hcell;simpa using hh
       subst this;have XS: ∀j k,j<ts.length→X j k→ ¬φ.S r k:=fun j k hj hk=>(h.free p.sub (p.src j k (by rw[hlen];exact hj) hk).2).S r hin
       have ad1S:T0 ad1.block:=by
        cases v2 with
        |sub _ _ _ _ _ _ u T k hn=>exact(k.own dM).2 ad1 rfl|>.1
       obtain⟨ps,pS,pt,pc⟩:=v2.put dM hrow hle (vs:=(a.eval x).cells.toList) aA (one hl p) (X:=X) (fun j tc v e1 e2=>p.ok j _ (je e1 e2)) (fun _ j k hj hk=>
        ⟨fun hS=>XS j k hj hk (v3 k hS).1,fun j' hj' hk'=>p.apart _ _ k (by rw[hlen];exact hj') (by rw[hlen];exact hj) hk' hk⟩)
        (fun k hk=>by
          rcases hk with hk|hk
          ·exact⟨(h.sep.ro k hk).1,fun e=>h1.sep.read r _ hin (v3 _ ad1S).1 (by rw[←e];exact hk)⟩
          ·have fr:=h.free p.sub (p.srcZ k hk)
           exact⟨fr.lt,fun e=>fr.S r hin (by rw[e];exact(v3 _ ad1S).1)⟩)
        (fun k hk=>(h1.sep.fresh r k hin (v3 k hk).1).1) (fun j k hj hk=>(h.free p.sub (p.src j k (by rw[hlen];exact hj) hk).2).lt)
       have D5:a.eval q= .pointer (some (ad1.add (i.toNat*z1+f))):=SA;refine fin D5 (ve _ ps) (fun j hj=>by rw[Addr.add_add];exact pt j (by simpa using hj)) (one hl p) (by rw[bu];exact(v3 _ ad1S).1) ?_ hk;rw[bu,ou _ ps]
       have hnew:=v5 _ _ _ pc (fun k hk hn=>dj _ _ _ _ (h1.sep.fresh r k hin hk).1 fun e=>hn (by rw[e];exact ad1S)) (fun k hk=>by
        rcases hk with hk|⟨_,j,hj,hk⟩
        ·exact .inl hk
        ·exact .inr (XS j k hj hk))
       refine Ic h h1 p Hu (b':=⟨true,z,setRow rows i0 f0 [.sub z1 (setRow kQ i f ts)]⟩) rfl (by simp only[mP,gf]) (v3 _ ad1S).1 (Zt:=Zp) (Xr:=fun k=>(φ.S r k∧ ¬T0 k)∨(T0 k∨(Mode.deep= .deep∧ ∃j,j<ts.length∧X j k))) (fun k hk=> ?_) (fun k hk=> .inl hk) ?_
       ·rcases hk with hk|hk|⟨_,j,hj,hk⟩
        ·exact⟨fun hz=>(h.free p.sub (p.srcZ k hz)).S r hin hk.1,.inl hk.1⟩
        ·exact⟨fun hz=>(h.free p.sub (p.srcZ k hz)).S r hin (v3 k hk).1,.inl (v3 k hk).1⟩
        ·exact⟨(p.src j k (by rw[hlen];exact hj) hk).1,.inr ⟨j,by rw[hlen];exact hj,hk⟩⟩
       ·show ah _ _ .deep _ (.sub z (setRow rows i0 f0 [.sub z1 (setRow kQ i f ts)])) _
        rw[hV,mP,mP];exact hnew
      ·exact hk.elim
     ·exact hk.elim
    ·exact hk.elim
  ·exact hk.elim
 ·exact hk.elim
theorem Nj {a:Act} (hT:dF C) (h:aG F A w0 φ st a.tmps w) {o:Oper} {t:TypeId} {q x:Operand} (ho:o.op= .store t q x) {K:TS→Ev R} (hk:(jH C st o K).holds cf lp Q):Jc C F A w0 φ st o a w K cf lp Q:=by
 unfold jH at hk;rw[ho] at hk;simp only at hk
 split at hk
 ·rename_i cs gx hkn hc
  have hcs:=mK (cC hT h t x) hc
  split at hk
  ·rename_i b off hsz hp
   split at hk
   ·rename_i st' hs
    exact Ib hT h ho gx hkn hcs (eB hsz) hp hs hk
   ·exact hk.elim
  ·rename_i r i f hsz hp
   split at hk
   ·have Tv:=cC hT h 0 q
    rw[hp] at Tv;obtain⟨b,hb,_⟩:=Tv;obtain⟨h',hce⟩:=h.qV hb
    have Vi:wG (qV r st).ob w (φ.Gw r) (cs.map (Cx r)) (a.eval x):=by
     refine⟨by rw[ck];exact hcs.1,fun j e he=> ?_⟩;rw[gG] at he
     cases hj:cs[j]? with
     |none=>rw[hj] at he;cases he
     |some e0=>
      rw[hj] at he;simp only[iE,aR] at he;subst he;obtain⟨y,y1,y2,y3⟩:=hcs.2 j e0 hj;exact⟨y,y1,y2,hce _ _ y3⟩
    have Hi:lU C (qV r st) 0 q= .er r none i f:=by
     cases q with
     |tmp n=>
      have hp:st.get n= .er r none i f:=hp;show(qV r st).get n=_;unfold T.qV;rw[hb];simp only;rw[get_map _ _ _ rfl,hp]
      rfl
     |_=>exact hp
    obtain⟨nx,v,w',st',d1,d2,d3,d4,d5,d6⟩:=xL hT h' ho gx hkn Vi (by rw[ck];exact eB hsz) Hi hk;refine⟨nx,v,w',st',d1,d2,d3,d4,d5,fun k hk Qi=>d6 k hk fun hw=>Qi ?_⟩
    have e1:writes C st o=[2*r]:=by unfold writes;rw[ho];simp only[hp]
    have e2:writes C (qV r st) o=[2*r]:=by unfold writes;rw[ho];simp only[Hi]
    rw[e1];rw[e2] at hw;rcases hw with⟨b',cs',hm,_⟩|⟨o',hm,_,hS⟩
    ·simp only[ff] at hm;omega
    ·simp only[ff] at hm
     have:o'=r:=by omega
     subst this;exact .inr ⟨o',.head _,⟨b,hb⟩,hS.1⟩
   ·exact xL hT h ho gx hkn hcs (eB hsz) hp hk
  ·rename_i r path i f hn hsz hp
   exact xL hT h ho gx hkn hcs (eB hsz) hp hk
  ·exact hk.elim
 ·exact hk.elim
end Go.T
namespace Go.T
variable {F : Nat → Prop} {A : Arg} {w0 w w' : World} {φ φ' : Fp} {st st' cj jA : TS} {tm xA : Array Value} {C : g6}
variable {R : Type} {cf : Cf} {lp : Lp} {Q : R → Prop}
theorem yT (h0:aG F A w0 φ st tm w) (h:aG F A w0 φ st' tm w) {dp:Bool} {z:Nat} {rows:List (List TC)} {vs:List Value} {X:Nat→Nat→Prop} {Z:Nat→Prop} {d:Nat}
 (p:gY w φ st st' (cA (if dp then .deep else .snap) rows.flatten vs) X Z) (hz:0<z) (rZ: ∀r∈rows,r.length=z) (hl:vs.length=rows.length*z) {c:Nat} (hc:rows.length≤c) (Qg:c≤maxLen)
 (g:jI w w') (hlt:w.heap.size<w'.heap.size) (hcell: ∀(j:Nat) (v:Value),vs[j]?=some v→w'.cell? ⟨w.heap.size,j,none⟩=some v)
 (hall: ∀j,j<c*z→(∃x,w'.cell? ⟨w.heap.size,j,none⟩=some x)∧w'.frozen? ⟨w.heap.size,j,none⟩=false) (D6:1<z→ ∀i,w'.frozen? ⟨w.heap.size,i,none⟩=false) (hd:d<tm.size):
 Rel F A w0 (pK d ⟨dp,z,rows⟩ st') (tm.setIfInBounds d (.slice (some ⟨w.heap.size,0,none⟩) rows.length c)) w':=by
 have hlen:(cA (if dp then Mode.deep else .snap) rows.flatten vs).length=rows.length*z:=by rw[eW (by rw[bF rZ,hl]),bF rZ]
 exact Nh h0 h p hz rZ hl (ad:=⟨w.heap.size,0,none⟩) hc Qg rfl (h.frm.Jr g) g.size (fun k hk _=>g.block k hk) (G:=fun _=>False) (fun k hk=>hk.elim)
  (fun k hk=>⟨id,fun e=>by have:=(h0.free p.sub (p.srcZ k hk)).lt;rw[e] at this;simp at this⟩)
  (fun i k hi hk=>⟨id,fun e=>by have:=(h0.free p.sub (p.src i k (by rw[hlen];exact hi) hk).2).lt;rw[e] at this;simp at this⟩)
  (.inl ⟨bT _,hlt⟩) (fun j v hj=>by rw[add_lit,g7];exact hcell j v hj) (fun j hj=>by simp only[g7];exact hall j hj) D6 hd
theorem KR {z:Nat}: ∀(ps:List (Nat×Value)) (n:Nat) (cs:Array Value),(∀(j:Nat) p,ps[j]?=some p→p.1=n+j∧p.2.cells.size=z)→(n+ps.length)*z≤cs.size→
 ∃cs',Instr.fill (fun i=>some (i*z,z)) cs ps=some cs'∧cs'.size=cs.size∧(∀j,j<n*z→cs'[j]?=cs[j]?)∧ ∀j,j<ps.length*z→cs'[n*z+j]?=(ps.flatMap fun p=>p.2.cells.toList)[j]?
 |[],n,cs,_,_=>⟨cs,rfl,rfl,fun _ _=>rfl,fun j hj=>by simp at hj⟩
 |(i,v)::r,n,cs,hp,hle=>by
  obtain⟨h1,h2⟩:=hp 0 _ rfl;simp only[nR] at h1 h2;subst h1;simp only[eC] at hle
  have WB:i*z+z≤cs.size:=by
   have:(i+1)*z≤(i+(r.length+1))*z:=lF _ aA;rw[m9] at this;omega
  obtain⟨g1,g2⟩:=zU (i*z) v.cells.toList 0 cs (by simp[h2];omega)
  obtain⟨cs',k1,k2,k3,k4⟩:=KR r (i+1) (v.cells.zipIdx.foldl (fun(cs:Array Value) (p:Value×Nat)=>cs.setIfInBounds (i*z+p.2) p.1) cs) (fun j p hj=>by
   obtain⟨a,b⟩:=hp (j+1) p (by simpa using hj)
   exact⟨by omega,b⟩) (by
   have e1:v.cells.zipIdx.foldl (fun(cs:Array Value) (p:Value×Nat)=>cs.setIfInBounds (i*z+p.2) p.1) cs=(v.cells.toList.zipIdx 0).foldl (fun(cs:Array Value) (p:Value×Nat)=>cs.setIfInBounds (i*z+p.2) p.1) cs:=by
    rw[←Array.foldl_toList,Array.toList_zipIdx]
   rw[e1,g1]
   have:i+1+r.length=i+(r.length+1):=by omega
   rw[this];exact hle)
  have e1:v.cells.zipIdx.foldl (fun(cs:Array Value) (p:Value×Nat)=>cs.setIfInBounds (i*z+p.2) p.1) cs=(v.cells.toList.zipIdx 0).foldl (fun(cs:Array Value) (p:Value×Nat)=>cs.setIfInBounds (i*z+p.2) p.1) cs:=by
   rw[←Array.foldl_toList,Array.toList_zipIdx]
  refine⟨cs',?_,by rw[k2,e1,g1],fun j hj=> ?_,fun j hj=> ?_⟩
  ·unfold Instr.fill
   simp only[h2,ne_eq,not_true_eq_false,decide_false,Cr,decide_eq_true_eq];rw[aL aA];exact k1
  ·rw[k3 j (by rw[m9];omega),e1,g2 j,aL aA]
  ·rw[List.flatMap_cons]
   by_cases XI:j<z
   ·rw[k3 _ (by rw[m9];omega),e1,g2,aT (by simp[h2];omega),iD (by simp[h2];omega)]
    simp
   ·rw[ju (by simp[h2];omega)]
    have:=k4 (j-z) (by simp only[eC,m9] at hj;omega);rw[show(i+1)*z+(j-z)=i*z+j by rw[m9];omega] at this;rw[this];simp[h2]
theorem CS {P:Program} {t e:TypeId} {i:TypeInfo} {zv:Value} (ht:P.underlying t=some (.slice e)) (hi:P.info? e=some i) (hz:i.zero=some zv) (parts:Array (Nat×Value)) {len:Nat}
 (hp: ∀(j:Nat) p,parts.toList[j]?=some p→p.1=j∧p.2.cells.size=i.size) (hl:parts.size=len) (hle:len*i.size≤16777216):
 ∃cells,(Instr.buildSlice t len parts).run P w= .ok (.slice (some ⟨w.heap.size,0,none⟩) len len) (w.alloc (.cells cells e))∧cells.size=len*i.size∧ ∀j,j<len*i.size→cells[j]?=(parts.toList.flatMap fun p=>p.2.cells.toList)[j]?:=by
 have Tw: ¬(len*i.size>16777216):=by omega
 obtain⟨cs',k1,k2,_,k4⟩:=KR (z:=i.size) parts.toList 0 ((Array.range (len*i.size)).map ((if len*i.size=0 then #[] else zv.cells)[· % (if len*i.size=0 then #[] else zv.cells).size]!)) (fun j p hj=>by rw[g7];exact hp j p hj) (by simp[hl]);refine⟨cs',?_,by rw[k2];simp,fun j hj=> ?_⟩
 ·unfold Instr.buildSlice
  by_cases h0:len*i.size=0
  ·have hr: ∀f:Nat→Value,(Array.range 0).map f= #[]:=fun f=>Array.eq_empty_of_size_eq_zero dM
   simp only[h0,if_true,hr] at k1;simp[run_underlying ht,sizeOf,typeInfo,hi,Tw,h0,hr,k1,newRow]
  ·simp only[h0,if_false] at k1
   simp[run_underlying ht,sizeOf,typeInfo,zeroValue,hi,hz,Tw,h0,k1,newRow]
 ·have:=k4 j (by rw[qO,hl];exact hj)
  simpa using this
theorem Fm (hT:dF C) {a:Act} {ty:TypeId} (M:Mode): ∀(l:List (Nat×Operand)) (n:Nat) (st:TS) (rs:List (List TC)) (st':TS) (dp:Bool),aG F A w0 φ st a.tmps w→(M= .snap∨dp=true∧M= .deep)→rowsOf C st ty l n=some (rs,st',dp)→
 aG F A w0 φ st' a.tmps w∧rs.length=l.length∧(∀r∈rs,r.length=(C.tt ty).size)∧(∀(j:Nat) p,l[j]?=some p→p.1=n+j∧(a.eval p.2).cells.size=(C.tt ty).size)∧
  ∃X Z,gY w φ st st' (cA M rs.flatten (l.flatMap fun p=>(a.eval p.2).cells.toList)) X Z
 |[],n,st,rs,st',dp,h,hM,hr=>by
  cases hr
  exact⟨h,rfl,fun r hr=>(by cases hr),fun j p hj=>by simp at hj,_,_,gY.nil _⟩
 |(i,x)::l,n,st,rs,st',dp,h,hM,hr=>by
  simp only[rowsOf] at hr
  split at hr
  ·rename_i cs hin hcs
   have hin:=eB hin;have hok:=mK (cC hT h ty x) hcs
   split at hr
   ·rename_i cs' cj d1 hsz hab
    have hsz:=eB hsz
    split at hr
    ·rename_i rs2 jA d2 F0
     cases hr
     have vlen:(a.eval x).cells.toList.length=cs.length:=by simpa using hok.1
     obtain⟨h1,Bh,Jd,os,tk⟩:=wI M cs st (a.eval x).cells.toList cs' cj d1 h (cD.refl _) vlen (fun j e he=>by
      obtain⟨y,y1,_,y3⟩:=hok.2 j e he
      exact⟨y,by simpa using y1,y3⟩) (by
      rcases hM with hM|⟨hd,hM⟩
      ·exact .inl hM
      ·simp only[cL] at hd;exact .inr ⟨hd.1,hM⟩) hab
     obtain⟨X1,Z1,p1⟩:=tk.parts h
     obtain⟨h2,yj,Ho,I9,X2,Z2,p2⟩:=Fm hT M l (n+1) cj rs2 _ d2 h1 (by
      rcases hM with hM|⟨hd,hM⟩
      ·exact .inl hM
      ·simp only[cL] at hd;exact .inr ⟨hd.2,hM⟩) F0
     have key:=p1.app h p2;rw[←qE aA] at key;refine⟨h2,by simp[yj],fun r hr=> ?_,fun j p hj=> ?_,_,_,key⟩
     ·rcases bK.1 hr with rfl|hr
      ·rw[Bh,hsz]
      ·exact Ho r hr
     ·cases j with
      |zero=>simp only[cz,aR] at hj;subst hj;exact⟨hin,by rw[hok.1,hsz]⟩
      |succ j=>
       obtain⟨a1,a2⟩:=I9 j p (by simpa using hj);exact⟨by omega,a2⟩
    ·cases hr
   ·cases hr
  ·cases hr
theorem Eh (hT:dF C) {a:Act} (h:aG F A w0 φ st a.tmps w) {o:Oper} {t:TypeId} {n:Nat} {ps:Array (Nat×Operand)} (ho:o.op= .buildSlice t n ps) {K:TS→Ev R} (hd: ∀d,o.dst=some d→d<a.tmps.size) (hk:(jH C st o K).holds cf lp Q):
 Jc C F A w0 φ st o a w K cf lp Q:=by
 unfold jH at hk;rw[ho] at hk;simp only at hk
 split at hk
 ·rename_i d e gx he
  split at hk
  ·rename_i rs st' dp hb hr
   simp only[cL] at hb;obtain⟨⟨hn,hle⟩,Hs⟩:=hb;have hn:=eB hn;have hle:=lS hle;obtain⟨hkn,hnp⟩:=q9 Hs;obtain⟨i,zv,g1,g2,g3,_⟩:=Gp (w:=w) (φ:=φ) hT hkn hnp (ob:=st.ob);obtain⟨h1,hl,hw,hp,X,Z,p⟩:=Fm hT (if dp then .deep else .snap) ps.toList 0 st rs st' dp h (by cases dp<;>simp) hr
   have zz:rs.length=n:=by rw[hl,hn];simp
   obtain⟨cells,c1,c2,c3⟩:=CS (w:=w) (oG hT he).1 g1 g3 (ps.map fun(i,x)=>(i,a.eval x)) (len:=n) (fun j q hj=>by
    rw[Array.toList_map,gG] at hj
    cases hq:ps.toList[j]? with
    |none=>rw[hq] at hj;cases hj
    |some r=>
     rw[hq] at hj;simp only[iE,aR] at hj;subst hj;obtain⟨a1,a2⟩:=hp j r hq
     exact⟨by rw[a1,g7],by rw[g2];exact a2⟩) (by simp[hn]) (by rw[g2];exact hle)
   have hvl:(ps.toList.flatMap fun p=>(a.eval p.2).cells.toList).length=rs.length*(C.tt e).size:=by
    have: ∀(l:List (Nat×Operand)),(∀p∈l,(a.eval p.2).cells.size=(C.tt e).size)→(l.flatMap fun p=>(a.eval p.2).cells.toList).length=l.length*(C.tt e).size:=by
     intro l
     induction l with
     |nil=>intro _;simp
     |cons x r ih=>
      intro hx;rw[List.flatMap_cons,cr,ih fun p hp=>hx p (.tail _ hp),qO,hx x (.head _),eC,m9];omega
    rw[this _ fun p Hi=> ?_,hl];obtain⟨j,hj,rfl⟩:=List.mem_iff_getElem.1 Hi;exact(hp j _ (aX hj)).2
   have WC:((ps.map fun(i,x)=>(i,a.eval x)).toList.flatMap fun p=>p.2.cells.toList)=ps.toList.flatMap fun p=>(a.eval p.2).cells.toList:=by
    rw[Array.toList_map,List.flatMap_map]
   have pH:=yT (w':=w.alloc (.cells cells e)) (d:=d) h h1 p (hT e hkn).pos hw hvl (c:=n) aA (by
    have hpos:=(hT e hkn).pos;have:n≤n*(C.tt e).size:=Nat.le_mul_of_pos_right n hpos
    simp only[maxLen];omega) (jI.alloc w _) dM (fun j v hj=>by
    rw[oT,c3 j (by
     have:=(List.getElem?_eq_some_iff.1 hj).1;rw[hvl,zz] at this
     rw[g2];exact this),WC]
    exact hj) (fun j hj=>⟨⟨cells[j]'(by rw[c2,g2];exact hj),by rw[oT];exact oK _⟩,lA _ _ _ _⟩) (fun _ i=>lA _ _ _ _) (hd d gx)
   rw[zz] at pH;refine⟨.value _,_,_,_,?_,.inl rfl,by rw[gx];exact pH,hk,by simp,fun k hk _=>(jI.alloc w _).block k hk⟩;unfold execOp;rw[ho];simp only[Sem.run_bind,c1,Result.andThen]
   rfl
  ·exact hk.elim
 ·exact hk.elim
theorem Cm {z:Nat} {rows:List (List TC)} (hz:0<z) (rZ: ∀r∈rows,r.length=z) {p:Nat} {tc:TC} (hp:rows.flatten[p]?=some tc):pX rows (p/z) (p % z)=some tc:=by
 have hfl:=bF rZ
 have hlt:p<rows.length*z:=by rw[←hfl];exact(List.getElem?_eq_some_iff.1 hp).1
 have hi:p/z<rows.length:=Nat.div_lt_of_lt_mul (by rw[Nat.mul_comm];exact hlt);have hrl:=rZ _ (pL hi)
 have hf:p % z<(rows[p/z]).length:=by rw[hrl];exact Nat.mod_lt _ hz
 have h1:pX rows (p/z) (p % z)=some (rows[p/z][p % z]):=by simp[pX,aX hi,aX hf]
 have h2:=(oS rZ h1).1;rw[yw p z] at h2;rw[h1,←h2,hp]
theorem Nk {Rd S:Nat→Prop} {m:Mode} {c:TC} (h:Jt c=true):ah w Rd m S c (O4 c):=by
 cases c with
 |any=>cases h
 |sc v=>cases v<;>first|exact .sc _ _ _ trivial|cases h
 |sub z rows=>cases rows with
  |nil=>exact p6 (lS h)
  |cons _ _=>cases h
attribute [local semireducible] gq oc yx fits in
theorem Gy (hT:dF C) {a:Act} (h:aG F A w0 φ st a.tmps w) {o:Oper} {t:TypeId} {l c:Operand} (ho:o.op= .makeSlice t l c) {K:TS→Ev R} (hd: ∀d,o.dst=some d→d<a.tmps.size) (hk:(jH C st o K).holds cf lp Q):
 Jc C F A w0 φ st o a w K cf lp Q:=by
 unfold jH at hk;rw[ho] at hk;simp only at hk
 split at hk
 ·rename_i d e n n' gx he hl hc
  have hk2:(match(qC (C.tt e)&&gq n n'&&oc 0 n&&fits (yx n) (C.tt e).bytes) with|true=>K (pK d ⟨true,(C.tt e).size,List.replicate (yx n) (C.tt e).zero⟩ st)|false=> .fail:Ev R).holds cf lp Q:=hk;clear hk
  split at hk2
  ·rename_i hb
   simp only[cL] at hb;obtain⟨⟨⟨Hs,Vj⟩,h0⟩,hf⟩:=hb
   have Vj:n=n':=by simpa [gq] using Vj
   subst Vj
   have h0:0≤n:=by simpa [oc] using h0
   have hf:n.toNat*(C.tt e).bytes≤140737488355328∧n.toNat≤140737488355328:=by simpa [fits,yx] using hf
   obtain⟨hkn,hnp⟩:=q9 Hs;obtain⟨i,zv,g1,g2,g2b,g3,g4⟩:=(hT e hkn).info;obtain⟨z1,z2,z3,_⟩:=g4 hnp;obtain⟨kl,hkl⟩:=q0 (cC hT h 3 l) hl;obtain⟨kc,WD⟩:=q0 (cC hT h 3 c) hc;have hpos:=(hT e hkn).pos
   have hzs:zv.cells.size=(C.tt e).size:=by rw[←qO,z1];simpa using z2
   have hby:(i.bytes:Int)*n≤281474976710656:=by
    have h1:=hf.1
    have e1:(i.bytes:Int)*n=((n.toNat*(C.tt e).bytes:Nat):Int):=by rw[g2b,Int.natCast_mul,Int.toNat_of_nonneg h0,Int.mul_comm]
    rw[e1];omega
   have hrun:=run_make (P:=C.P) w t e i zv (oG hT he).1 g1 g3 kl kc n n h0 (Int.le_refl _) hby aA
   have hw: ∀r∈List.replicate (yx n) (C.tt e).zero,r.length=(C.tt e).size:=fun r hr=>by rw[List.eq_of_mem_replicate hr];exact z2
   have hlen:(List.replicate (yx n) (C.tt e).zero).length=n.toNat:=by simp[yx]
   have hvl:(madeCells zv.cells (n.toNat*i.size)).toList.length=(List.replicate (yx n) (C.tt e).zero).length*(C.tt e).size:=by rw[hlen];simp[madeCells,g2]
   have hval: ∀{j:Nat} {v:Value},(madeCells zv.cells (n.toNat*i.size)).toList[j]?=some v→zv.cells[j % (C.tt e).size]?=some v:=fun {j v} hj=>by
    have hlt:j<n.toNat*i.size:=by have:=(List.getElem?_eq_some_iff.1 hj).1;simpa [madeCells] using this
    simp[madeCells,hlt] at hj;have hm:j % zv.cells.size<zv.cells.size:=Nat.mod_lt _ (by rw[hzs];exact hpos);rw[getElem!_pos zv.cells _ hm] at hj;rw[←hj,←hzs,oK hm]
   have p:gY w φ st st (cA (if true=true then .deep else .snap) (List.replicate (yx n) (C.tt e).zero).flatten (madeCells zv.cells (n.toNat*i.size)).toList) (fun _ _=>False) (fun _=>False):=by
    refine⟨fun j it hj=> ?_,fun _ _ _ hk=>hk.elim,fun _ hk=>hk.elim,fun _ _ _ _ _ hk=>hk.elim,cD.refl _⟩;obtain⟨tc,v,h1,h2,rfl⟩:=iN hj;have Ln:=Cm hpos hw h1
    have OD:(C.tt e).zero[j % (C.tt e).size]?=some tc:=by
     unfold pX at Ln
     cases hrow:(List.replicate (yx n) (C.tt e).zero)[j/(C.tt e).size]? with
     |none=>rw[hrow] at Ln;cases Ln
     |some row=>
      rw[hrow] at Ln;rw[List.eq_of_mem_replicate (eD hrow)] at Ln;exact Ln
    have hv:=hval h2;rw[←Hw,z1,gG,OD] at hv;simp only[iE,aR] at hv;subst hv;exact Nk (List.all_eq_true.1 z3 tc (eD OD))
   have pH:=yT (w':=w.alloc (.cells (madeCells zv.cells (n.toNat*i.size)) e)) (d:=d) h h p hpos hw hvl (c:=n.toNat) (by rw[hlen];exact bT _) (by simp only[maxLen];omega) (jI.alloc w _) dM (fun j v hj=>by
    rw[oT];simpa using hj) (fun j hj=>⟨⟨_,by rw[oT];exact oK (by rw[size_madeCells,g2];exact hj)⟩,lA _ _ _ _⟩) (fun _ i=>lA _ _ _ _) (hd d gx)
   rw[hlen] at pH;refine⟨.value _,_,_,_,?_,.inl rfl,by rw[gx];exact pH,hk2,by simp,fun k hk _=>(jI.alloc w _).block k hk⟩;unfold execOp;rw[ho];simp only[hkl,WD,Sem.run_bind,hrun,Result.andThen]
   rfl
  ·exact hk2.elim
 ·exact hk.elim
end Go.T
namespace Go.T
variable {F : Nat → Prop} {A : Arg} {w0 w w' : World} {φ φ' : Fp} {st st' sta cj jA : TS} {tm xA : Array Value} {C : g6}
variable {R : Type} {cf : Cf} {lp : Lp} {Q : R → Prop}
theorem Fo (w:World) (arr:Array Value) (t:TypeId) (fr:Nat×Nat) (j:Nat):(w.alloc (.cells arr t fr)).cell? ⟨w.heap.size,j,none⟩=arr[j]?:=by
 unfold World.cell?;simp only[heap_alloc_new]
 rfl
theorem Ie (w:World) (arr:Array Value) (t:TypeId) (fr:Nat×Nat) (j:Nat) (h:j<fr.1):(w.alloc (.cells arr t fr)).frozen? ⟨w.heap.size,j,none⟩=false:=by
 unfold World.frozen?;simp only[heap_alloc_new];obtain⟨a,b⟩:=fr;simp only at h ⊢;simp;omega
attribute [local semireducible] w7 in
theorem CT (s:ByteArray):w7 s=s.data.toList.map fun b=>[TC.sc (.int .u8 b.toNat)]:=rfl
theorem JI (s:ByteArray):(w7 s).flatten=s.data.toList.map fun b=>TC.sc (.int .u8 b.toNat):=by
 rw[CT]
 induction s.data.toList with
 |nil=>rfl
 |cons b r ih=>simp only[List.map_cons,uU,ih];rfl
theorem jU (s:ByteArray):(w7 s).length=s.size:=by rw[CT,ck,qO];rfl
theorem AV (s:ByteArray): ∀r∈w7 s,r.length=1:=fun r hr=>by
 rw[CT] at hr;obtain⟨_,_,rfl⟩:=List.mem_map.1 hr
 rfl
theorem Fq (s:ByteArray) (M:Mode) (st:TS):gY w φ st st (cA M (w7 s).flatten (byteCells s)) (fun _ _=>False) (fun _=>False):=by
 refine⟨fun j it hj=> ?_,fun _ _ _ hk=>hk.elim,fun _ hk=>hk.elim,fun _ _ _ _ _ hk=>hk.elim,cD.refl _⟩;obtain⟨tc,v,h1,h2,rfl⟩:=iN hj;rw[JI,gG] at h1;unfold byteCells at h2;rw[gG] at h2
 cases hb:s.data.toList[j]? with
 |none=>rw[hb] at h1;cases h1
 |some b=>
  rw[hb] at h1 h2;simp only[iE,aR] at h1 h2;subst h1 h2;exact .sc _ _ _ trivial
attribute [local semireducible] fits in
theorem KS {n b:Nat} (h:fits n b=true):n*b≤140737488355328∧n≤140737488355328:=oL h
theorem Nl (hT:dF C) {a:Act} (h:aG F A w0 φ st a.tmps w) {o:Oper} {src dst:TypeId} {x:Operand} (ho:o.op= .convert src dst x) {K:TS→Ev R} (hd: ∀d,o.dst=some d→d<a.tmps.size) (hk:(jH C st o K).holds cf lp Q):Jc C F A w0 φ st o a w K cf lp Q:=by
 have zF:=hk;unfold jH at hk;rw[ho] at hk;simp only at hk
 split at hk
 ·rename_i et hdt hst
  split at hk
  ·rename_i d s gx hu hs
   have hv:=Gi (cC hT h src x) hs;have hrun:=run_bytes_of_string (P:=C.P) w src dst et s (CM hT hst) (CN hT hdt).1 (Gq hT hu);have hge:=grownCap_ge w s.size 0 et
   have hsz:(bytesRow s (grownCap w s.size 0 et)).size=grownCap w s.size 0 et:=by
    have:s.data.size=s.size:=rfl;simp[bytesRow,this];omega
   have hk2:(match fits s.size 1 with|true=>K (pK d ⟨true,1,w7 s⟩ st)|false=> .fail:Ev R).holds cf lp Q:=hk;clear hk
   split at hk2
   ·rename_i hfit
    have hbig:s.size≤maxLen:=by
     have:s.size*1≤140737488355328∧s.size≤140737488355328:=KS hfit;simp only[maxLen];omega
    have pH:=yT (w':=w.drew.alloc (.cells (bytesRow s (grownCap w s.size 0 et)) et ((bytesRow s (grownCap w s.size 0 et)).size,(bytesRow s (grownCap w s.size 0 et)).size+1))) (d:=d) (dp:=true) (z:=1) h h (Fq s _ st)
     Nat.one_pos (AV s) (by rw[byteCells_length,jU,Nat.mul_one]) (c:=grownCap w s.size 0 et) (by rw[jU];exact hge) (grownCap_le_maxLen w s.size 0 et hbig) ((jI.drew w).trans (jI.alloc _ _)) dM
     (fun j v hj=>by
       have hj0:=hj
       have hjl:j<s.size:=by have:=(List.getElem?_eq_some_iff.1 hj).1;rwa [byteCells_length] at this
       show(w.drew.alloc _).cell? ⟨w.drew.heap.size,j,none⟩=_;rw[Fo];unfold bytesRow;rw[Array.getElem?_append_left (by rw[Array.size_map];exact hjl)];unfold byteCells at hj0
       simpa using hj0)
     (fun j hj=>by
       rw[Nat.mul_one] at hj;show(∃x,(w.drew.alloc _).cell? ⟨w.drew.heap.size,j,none⟩=_)∧(w.drew.alloc _).frozen? ⟨w.drew.heap.size,j,none⟩=_
       exact⟨⟨_,by rw[Fo];exact oK (by rw[hsz];exact hj)⟩,Ie _ _ _ _ _ (by simp only[hsz];exact hj)⟩) (fun Mh=>absurd Mh aA) (hd d gx)
    rw[jU] at pH;refine⟨.value _,_,_,_,?_,.inl rfl,by rw[gx];exact pH,hk2,by simp,fun k hk _=>((jI.drew w).trans (jI.alloc _ _)).block k hk⟩;unfold execOp;rw[ho];simp only[hv,Sem.run_bind,hrun,Result.andThen]
    rfl
   ·exact hk2.elim
  ·exact hk.elim
 ·exact KP hT h hd hk
theorem CU {Rd S:Nat→Prop} {m:Mode} {z:Nat} {rows:List (List TC)} {v:Value} (hr:ah w Rd m S (.sub z rows) v) {tx e':TypeId} (hk:C.P.underlying tx=some (.slice e')) {size:Nat} (hsz:size=z) {vs:List Value} (hl:vs.length=rows.length*z)
 (hcell: ∀ad n c,v= .slice (some ad) n c→ ∀(j:Nat) (x:Value),vs[j]?=some x→w.cell? (ad.add j)=some x) (h1: ∀x∈vs,x.oneCell'=true):Src C.P size tx v rows.length vs w:=by
 subst hsz
 cases hr with
 |sub _ _ _ _ Ad c u T k hn=>
  cases Ad with
  |none=>
   have hne:rows=[]:=Classical.byContradiction fun hne=>by obtain⟨ad,h⟩:=k.addr hne;cases h
   subst hne;have:vs=[]:=uT (by simpa using hl);subst this;exact Src.ofNil w hk c
  |some ad=>exact Src.ofSlice w hk ad _ c vs hl (hcell ad _ _ rfl) h1
theorem ah.vals {Rd S:Nat→Prop} {m:Mode} {z:Nat} {rows:List (List TC)} {v:Value} (hr:ah w Rd m S (.sub z rows) v): ∃vals:List Value,vals.length=rows.length*z∧(∀r∈rows,r.length=z)∧0<z∧
 (∀ad n c,v= .slice (some ad) n c→ ∀(j:Nat) (x:Value),vals[j]?=some x→w.cell? (ad.add j)=some x)∧ ∀(p:Nat) (tc:TC) (x:Value),rows.flatten[p]?=some tc→vals[p]?=some x→ ∃T,ah w Rd m.nx T tc x:=by
 cases hr with
 |sub _ _ _ _ Ad c u T k hn=>
  have hz:=k.z0;have hfl:=bF k.width;refine⟨(List.range (rows.length*z)).map fun p=>u (p/z) (p % z),by simp,k.width,hz,?_,fun p tc x h1 h2=> ?_⟩
  ·intro ad n c' e j x hx
   cases e
   have hlt:j<rows.length*z:=by have:=(List.getElem?_eq_some_iff.1 hx).1;simpa using this
   simp[hlt] at hx;subst hx;obtain⟨tc,Qh⟩: ∃tc,rows.flatten[j]?=some tc:=⟨_,aX (by rw[hfl];exact hlt)⟩;have:=k.cell ad rfl _ _ tc (Cm hz k.width Qh);rw[yw j z] at this;exact this
  ·have hlt:p<rows.length*z:=by have:=(List.getElem?_eq_some_iff.1 h2).1;simpa using this
   simp[hlt] at h2;subst h2;exact⟨_,hn _ _ tc (Cm hz k.width h1)⟩
theorem Fs (hT:dF C) {t t' ty e:TypeId} {P:Program} (hP:P=C.P) (ht:P.underlying t=some (.slice e)) (Hs:qC (C.tt e)=true) (h0:aG F A w0 φ st tm w) (h1:aG F A w0 φ cj tm w) {d:Nat} (hd:d<tm.size) {dp:Bool} {z:Nat} (hz:z=(C.tt e).size)
 {rows aI:List (List TC)} {wq sU:List Value} {X1 X2:Nat→Nat→Prop} {Z1 Z2:Nat→Prop} (p1:gY w φ st sta (cA (if dp then .deep else .snap) rows.flatten wq) X1 Z1) (p2:gY w φ sta cj (cA (if dp then .deep else .snap) aI.flatten sU) X2 Z2)
 (hw1: ∀r∈rows,r.length=z) (Ho: ∀r∈aI,r.length=z) (Bh:wq.length=rows.length*z) (yj:sU.length=aI.length*z) {Ad:Option Addr} {c:Nat} (hc:rows.length≤c) (Qg:c≤maxLen) {x:Value} (hs:Src P z t' x aI.length sU w)
 (hA:(Ad=none∧rows=[]∧c=0)∨ ∃ad,Ad=some ad∧ad.spot=none∧(∃o,av st.ob o∧ ¬av sta.ob o∧φ.S o ad.block)∧(∀(j:Nat) (v:Value),wq[j]?=some v→w.cell? (ad.add j)=some v)∧
   (∀j,j<c*z→(∃x,w.cell? ⟨ad.block,ad.off+j,none⟩=some x)∧w.frozen? ⟨ad.block,ad.off+j,none⟩=false)∧(∀i k,X1 i k→k≠ad.block)∧(∀k,Z1 k→k≠ad.block)∧(1<z→ ∀i,w.frozen? ⟨ad.block,i,none⟩=false))
 (hf:fits (rows.length+aI.length) (C.tt e).bytes=true):
 ∃v w',(Builtin.append_ #[t,t'] ty #[.slice Ad rows.length c,x]).run P w= .ok v w'∧Rel F A w0 (pK d ⟨dp,z,rows++aI⟩ cj) (tm.setIfInBounds d v) w'∧w.heap.size≤w'.heap.size∧ ∀k,k<w.heap.size→(∀ad,Ad=some ad→k≠ad.block)→w'.heap[k]?=w.heap[k]?:=by
 subst hP;obtain⟨WE,zA⟩:=KS hf;obtain⟨hkn,hnp⟩:=q9 Hs;obtain⟨i,zv,g1,g2,g2b,g3,g4⟩:=(hT e hkn).info;obtain⟨z1,z2,z3,_⟩:=g4 hnp;have hpos:=(hT e hkn).pos
 have hzs:zv.cells.size=(C.tt e).size:=by rw[←qO,z1];simpa using z2
 have OD:0<z:=by omega
 have isz:i.size=z:=by rw[g2,hz]
 have p:=p1.app h0 p2;have R9:=bF hw1;have Tx:=bF Ho;rw[←qE (by rw[R9,Bh]),←Kr] at p;have Ty: ∀r∈rows++aI,r.length=z:=fun r hr=>(List.mem_append.1 hr).elim (hw1 r) (Ho r)
 have Sa:(wq++sU).length=(rows++aI).length*z:=by rw[cr,cr,m9,Bh,yj]
 have hs':Src C.P i.size t' x aI.length sU w:=by rw[isz];exact hs
 have big:rows.length+aI.length≤maxLen:=by simp only[maxLen];omega
 have grow:c<rows.length+aI.length→(∃olds:List Value,olds=wq∧(Builtin.firstCells i.size rows.length (.slice Ad rows.length c)).run C.P w.drew= .ok olds.toArray w.drew)→
  ∃v w',(Builtin.append_ #[t,t'] ty #[.slice Ad rows.length c,x]).run C.P w= .ok v w'∧Rel F A w0 (pK d ⟨dp,z,rows++aI⟩ cj) (tm.setIfInBounds d v) w'∧w.heap.size≤w'.heap.size∧ ∀k,k<w.heap.size→(∀ad,Ad=some ad→k≠ad.block)→w'.heap[k]?=w.heap[k]?:=fun hg ⟨olds,ho,Q0⟩=>by
  rw[ho] at Q0;have hr:=run_append_grow_src (P:=C.P) w t t' ty e i zv ht g1 g3 Ad rows.length c wq Q0 x aI.length sU hs' hg (by simp only[maxLen] at big;omega) (growslice_fits hg (by rw[g2b];exact WE));have hge:=grownCap_ge w (rows.length+aI.length) c e;have WG:=grownCap_le_maxLen w (rows.length+aI.length) c e big
  have hsize:((wq++sU).toArray++Builtin.zeroCells zv.cells (grownCap w (rows.length+aI.length) c e-(rows.length+aI.length))).size=grownCap w (rows.length+aI.length) c e*z:=by
   rw[Array.size_append,size_zeroCells,List.size_toArray,Sa,hzs,←hz,cr,←m9]
   congr 1;omega
  have pH:=yT (w':=w.drew.alloc (.cells ((wq++sU).toArray++Builtin.zeroCells zv.cells (grownCap w (rows.length+aI.length) c e-(rows.length+aI.length))) e)) (d:=d) h0 h1 p OD Ty Sa
   (c:=grownCap w (rows.length+aI.length) c e) (by rw[cr];exact hge) WG ((jI.drew w).trans (jI.alloc _ _)) dM
   (fun j v hj=>by
     have hlt:=(List.getElem?_eq_some_iff.1 hj).1;have e1:=oT w.drew ((wq++sU).toArray++Builtin.zeroCells zv.cells (grownCap w (rows.length+aI.length) c e-(rows.length+aI.length))) e j;refine e1.trans ?_;rw[Array.getElem?_append_left (by simpa using hlt)]
     simpa using hj)
   (fun j hj=>⟨⟨_,(oT w.drew _ e j).trans (oK (by rw[hsize];exact hj))⟩,lA w.drew _ e j⟩) (fun _ i=>lA w.drew _ e i) hd
  rw[cr] at pH;exact⟨_,_,hr,pH,by simp,fun k hk _=>((jI.drew w).trans (jI.alloc _ _)).block k hk⟩
 rcases hA with⟨rfl,rfl,rfl⟩|⟨ad,rfl,nC,Vk,hcell,hall,WH,WI,D6⟩
 ·by_cases hn:aI.length=0
  ·have R5:aI=[]:=uT hn
   subst R5;have Q3:sU=[]:=uT (by simpa using yj);subst Q3;exact⟨_,w,run_append_nothing w t t' ty e i ht g1 none _ _ (bT _) x hs',LI h1 OD hd,bT _,fun _ _ _=>rfl⟩
  ·refine grow kR ⟨_,rfl,?_⟩
   have Q3:wq=[]:=uT (by simpa using Bh);subst Q3;exact run_firstCells_none w.drew i.size 0 0 0
 ·have WJ: ∀i k,i<aI.length*z→X2 i k→k≠ad.block:=fun i k hi hk e=>by
   subst e;obtain⟨o,o1,o2,o3⟩:=Vk;obtain⟨o',q1,q2,q3⟩:=(p2.src i _ (by rw[eW (by rw[Tx,yj]),Tx];exact hi) hk).2;have:=h0.sep.apart o o' _ o1 (p1.sub.dom q1) o3 q3;subst this;exact o2 q1
  have WK: ∀k,Z2 k→k≠ad.block:=fun k hk e=>by
   subst e;obtain⟨o,o1,o2,o3⟩:=Vk;obtain⟨o',q1,q2,q3⟩:=p2.srcZ _ hk;have:=h0.sep.apart o o' _ o1 (p1.sub.dom q1) o3 q3;subst this;exact o2 q1
  by_cases hroom:rows.length+aI.length≤c
  ·have inb: ∀j,j<sU.length→rows.length*z+j<c*z:=fun j hj=>by
    have:rows.length*z+aI.length*z≤c*z:=by rw[←m9];exact lF _ hroom
    omega
   have had:(⟨ad.block,ad.off,none⟩:Addr)=ad:=by cases ad;simp_all
   have hr:=run_append_room_src (P:=C.P) w t t' ty e i ht g1 ad.block ad.off rows.length c x aI.length sU hs' hroom
    (fun j hj=>by obtain⟨⟨y,hy⟩,_⟩:=hall _ (inb j hj);rw[isz,pN,hy];rfl) (fun j hj=>by obtain⟨_,hy⟩:=hall _ (inb j hj);rw[isz,pN];exact hy)
   rw[had,isz] at hr
   have Sb: ∃o,av st.ob o∧ ¬av cj.ob o∧φ.S o ad.block:=let ⟨o,o1,o2,o3⟩:=Vk;⟨o,o1,fun hd=>o2 (p2.sub.dom hd),o3⟩
   have fr:=h0.free p.sub Sb;obtain⟨s1,s2,s3,s4⟩:=iG ad.block sU (ad.off+rows.length*z) w
   have Tz: ∀j,j<c*z→(∃x,(w.setCells ad.block (ad.off+rows.length*z) sU).cell? ⟨ad.block,ad.off+j,none⟩=some x)∧(w.setCells ad.block (ad.off+rows.length*z) sU).frozen? ⟨ad.block,ad.off+j,none⟩=false:=fun j hj=>by
    obtain⟨⟨y,hy⟩,hz⟩:=hall j hj;exact⟨Option.isSome_iff_exists.1 (World.isSome_setCells _ _ _ w _ (by rw[hy];rfl)),by rw[World.frozen?_setCells];exact hz⟩
   have hcl: ∀{i k:Nat},i<(rows++aI).length*z→(if i<(cA (if dp=true then Mode.deep else .snap) rows.flatten wq).length then X1 i k else X2 (i-(cA (if dp=true then Mode.deep else .snap) rows.flatten wq).length) k)→k≠ad.block:=fun {i k} hi hk=>by
    rw[eW (by rw[R9,Bh]),R9] at hk
    by_cases hlt:i<rows.length*z
    ·rw[aT hlt] at hk;exact WH i k hk
    ·rw[aL hlt] at hk;exact WJ _ k (by rw[cr,m9] at hi;omega) hk
   have pH:=Nh (w':=w.setCells ad.block (ad.off+rows.length*z) sU) (d:=d) h0 h1 p OD Ty Sa (ad:=ad) (c:=c) (by rw[cr];exact hroom) Qg nC (h0.frm.setCells fr.new) (by rw[s4];exact bT _)
    (G:=fun k=>k=ad.block) (fun k hk hn=>dj _ _ _ _ hk hn) (fun k hk=>by subst hk;exact Sb) (fun k hk=>by
      have:k≠ad.block:=hk.elim (WI k) (WK k)
      exact⟨this,this⟩) (fun i k hi hk=>⟨hcl hi hk,hcl hi hk⟩) (.inr Sb) (fun j v hj=>by
      rw[ou j nC]
      by_cases hlt:j<rows.length*z
      ·rw[World.cell?_setCells_out _ _ _ _ _ (fun _ _=>by simp only;omega),←ou j nC]
       rw[iD aA] at hj;exact hcell j v hj
      ·rw[ju aA,Bh] at hj
       have TA:=(List.getElem?_eq_some_iff.1 hj).1
       have:=World.cell?_setCells_in ad.block sU (ad.off+rows.length*z) w (fun j' hj'=>by
        obtain⟨⟨y,hy⟩,_⟩:=hall _ (inb j' hj');rw[pN,hy];rfl) (j-rows.length*z) TA
       rw[show ad.off+rows.length*z+(j-rows.length*z)=ad.off+j by omega] at this;rw[this];rw[aX TA] at hj
       exact hj) Tz (fun Mh i=>by rw[World.frozen?_setCells];exact D6 Mh i) hd
   rw[cr] at pH;exact⟨_,_,hr,pH,by rw[s4];exact bT _,fun k hk hn=>dj _ _ _ _ hk (hn ad rfl)⟩
  ·refine grow aA ⟨wq,rfl,?_⟩
   exact run_firstCells_some w.drew i.size rows.length ad rows.length c wq (by rw[isz];exact Bh) (by simpa using hcell)
end Go.T
namespace Go.T
structure CV where
 tc:TC
 val:Value
 own:Nat→Prop
def CV.ok (w:World) (t:CV):Prop:=ah w (fun _=>False) .deep t.own t.tc t.val
def CV.apart (a b:CV):Prop:= ∀k,a.own k→ ¬b.own k
def Pk (w:World) (b off:Nat) (L:List Value):Prop:= ∀k y,L[k]?=some y→w.cell? ⟨b,off+k,none⟩=some y
def SV (w:World) (b off n:Nat):Prop:= ∀j,j<n→w.frozen? ⟨b,off+j,none⟩=false
theorem ah.UE {w:World} {R R' S:Nat→Prop} {c:TC} {v:Value} (h:ah w R .deep S c v):ah w R' .deep S c v:=by
 generalize hm:Mode.deep=m at h
 induction h with
 |any _ _ _ h=>exact .any _ _ _ h
 |sc _ _ _ h=>exact .sc _ _ _ h
 |sub m S z rows A c u T h hn ih=>
  subst hm;exact .sub _ _ z rows A c u T {h with read:=fun hm=>by cases hm} fun i f tc ht=>ih i f tc ht rfl
structure xM (w:World) (S:Nat→Prop) (z:Nat) (rows:List (List TC)) (v:Value) (A:Option Addr) (c:Nat) (bW:List CV):Prop where
 val:v= .slice A rows.length c
 le:rows.length≤c
 cap:c≤maxLen
 z0:0<z
 width: ∀r∈rows,r.length=z
 tcs:rows.flatten=bW.map (·.tc)
 ok: ∀t∈bW,t.ok w
 kj:bW.Pairwise CV.apart
 sub: ∀t∈bW,∀k,t.own k→S k∧ ∀ad,A=some ad→k≠ad.block
 none:A=none→c=0
 row: ∀ad,A=some ad→S ad.block∧ad.spot= .none∧(∃sp,Pk w ad.block ad.off (bW.map (·.val)++sp)∧(bW.map (·.val)++sp).length=c*z)∧SV w ad.block ad.off (c*z)∧(1<z→ ∀i,w.frozen? ⟨ad.block,i,.none⟩=false)
theorem ah.opened {w:World} {R S:Nat→Prop} {z:Nat} {rows:List (List TC)} {v:Value} (h:ah w R .deep S (.sub z rows) v): ∃A c bW,xM w S z rows v A c bW:=by
 cases h with
 |sub _ _ _ _ A c u T k hn=>
  have hz:=k.z0;have hfl:=bF k.width;have Ln: ∀p tc,rows.flatten[p]?=some tc→pX rows (p/z) (p % z)=some tc:=fun p tc h=>Cm hz k.width h;refine⟨A,c,(List.range (rows.length*z)).map fun p=>⟨rows.flatten.getD p default,u (p/z) (p % z),T (p/z) (p % z)⟩,rfl,k.len,k.cap,hz,k.width,?_,?_,?_,?_,(k.own dM).1,?_⟩
  ·apply List.ext_getElem
   ·simp[hfl]
   ·intro p h1 h2
    simp only[List.getElem_map,List.getElem_range,mC,aX h1];rfl
  ·intro t ht
   obtain⟨p,hp,rfl⟩:=List.mem_map.1 ht;have hp:=List.mem_range.1 hp
   have hs:rows.flatten[p]?=some (rows.flatten.getD p default):=by
    rw[mC,aX aA];rfl
   exact(hn _ _ _ (Ln p _ hs)).UE
  ·rw[List.pairwise_map]
   refine(List.nodup_range (n:=rows.length*z)).imp_of_mem ?_;intro a b ha hb hab k' h1 h2;have:=(k.kj rfl _ _ _ h1).2.2 _ _ h2
   apply hab
   rw[←yw a z,←yw b z,this.1,this.2]
  ·intro t ht k' hk
   obtain⟨p,hp,rfl⟩:=List.mem_map.1 ht;exact⟨(k.kj rfl _ _ _ hk).1,(k.kj rfl _ _ _ hk).2.1⟩
  ·intro ad ha
   obtain⟨hS,hs,hc⟩:=(k.own dM).2 ad ha;refine⟨hS,hs,⟨(List.range (c*z-rows.length*z)).map fun j=>(w.cell? ⟨ad.block,ad.off+(rows.length*z+j),.none⟩).getD default,?_,?_⟩,fun j hj=>(hc j hj).2,fun h1 i=>k.soft dM h1 ad ha i⟩
   ·intro j y hj
    by_cases hl:j<rows.length*z
    ·rw[iD (by simpa using hl)] at hj
     simp[hl] at hj;subst hj
     have Ve:rows.flatten[j]?=some (rows.flatten.getD j default):=by
      rw[mC,aX aA];rfl
     have:=k.cell ad ha _ _ _ (Ln j _ Ve);rw[yw j z] at this;obtain⟨b0,o0,s0⟩:=ad
     cases hs
     rwa [Addr.add_lit] at this
    ·rw[ju (by simpa using hl)] at hj
     have hlt:=(List.getElem?_eq_some_iff.1 hj).1;simp at hj hlt
     obtain⟨q1,rfl⟩:=by simpa [hlt] using hj
     obtain⟨x,hx⟩:=(hc j aA).1;rw[show rows.length*z+(j-rows.length*z)=j by omega,hx];rfl
   ·have:=lF z k.len
    simp;omega
theorem xM.rep {w:World} {S:Nat→Prop} {z:Nat} {rows:List (List TC)} {v:Value} {A:Option Addr} {c:Nat} {bW:List CV} (h:xM w S z rows v A c bW) {R:Nat→Prop}:ah w R .deep S (.sub z rows) v:=by
 rw[h.val];have hfl:=bF h.width
 have OS:bW.length=rows.length*z:=by have:=congrArg List.length h.tcs;rw[hfl,ck] at this;exact this.symm
 have sS: ∀{i f:Nat} {tc:TC},pX rows i f=some tc→ ∃t,bW[i*z+f]?=some t∧t.tc=tc∧f<z∧i<rows.length:=fun {i f tc} ht=>by
  obtain⟨h1,h2,h3⟩:=oS h.width ht;rw[h.tcs,gG] at h1
  cases hq:bW[i*z+f]? with
  |none=>rw[hq] at h1;cases h1
  |some t=>rw[hq] at h1;exact⟨t,rfl,by simpa using h1,h2,h3⟩
 have Vl: ∀{i f i' f':Nat},f<z→f'<z→i*z+f=i'*z+f'→i=i'∧f=f':=fun {i f i' f'} h1 h2 e=>by
  have e1:(i*z+f)/z=i:=by rw[Nat.mul_comm,Nat.mul_add_div h.z0,Nat.div_eq_of_lt h1,nR]
  have e2:(i'*z+f')/z=i':=by rw[Nat.mul_comm,Nat.mul_add_div h.z0,Nat.div_eq_of_lt h2,nR]
  have:i=i':=by rw[←e1,e,e2]
  subst this;exact⟨rfl,by omega⟩
 refine .sub _ _ z rows A c (fun i f=>(bW[i*z+f]?.map (·.val)).getD default) (fun i f k=>f<z∧ ∃t,bW[i*z+f]?=some t∧t.own k) ⟨h.le,h.cap,h.z0,h.width,?_,?_,fun hm=>(by cases hm),fun _=>⟨h.none,?_⟩,?_,?_⟩ ?_
 ·intro hne
  cases hA:A with
  |none=>
   have h1:=h.none hA;have h2:=h.le;rw[h1] at h2;exact absurd (uT aA) hne
  |some ad=>exact⟨ad,rfl⟩
 ·intro ad ha i f tc ht
  obtain⟨t,h1,rfl,h2,h3⟩:=sS ht;obtain⟨_,hs,⟨sp,hr,_⟩,_⟩:=h.row ad ha;have:=hr (i*z+f) t.val (by rw[iD (by rw[ck];exact(List.getElem?_eq_some_iff.1 h1).1),gG,h1];rfl);obtain⟨b0,o0,s0⟩:=ad
  cases hs
  rw[Addr.add_lit,h1];exact this
 ·intro ad ha
  obtain⟨hS,hs,⟨sp,hr,hl⟩,hf,_⟩:=h.row ad ha;refine⟨hS,hs,fun j hj=>⟨⟨_,hr j _ (aX (by rw[hl];exact hj))⟩,hf j hj⟩⟩
 ·intro _ h1 ad ha i
  exact(h.row ad ha).2.2.2.2 h1 i
 ·rintro _ i f k ⟨hf,t,ht,hk⟩
  have hm:=eD ht;refine⟨(h.sub t hm k hk).1,(h.sub t hm k hk).2,fun i' f'=> ?_⟩;rintro⟨hf',t',ht',hk'⟩
  by_cases e:i*z+f=i'*z+f'
  ·have:=Vl hf hf' e
   exact⟨this.1.symm,this.2.symm⟩
  ·have hp:=List.pairwise_iff_getElem.1 h.kj
   obtain⟨l1,e1⟩:=List.getElem?_eq_some_iff.1 ht;obtain⟨l2,e2⟩:=List.getElem?_eq_some_iff.1 ht';rcases Nat.lt_or_gt_of_ne e with hlt|hlt
   ·exact absurd hk' (by have:=hp _ _ l1 l2 hlt;rw[e1,e2] at this;exact this k hk)
   ·exact absurd hk (by have:=hp _ _ l2 l1 hlt;rw[e1,e2] at this;exact this k hk')
 ·intro i f tc ht
  obtain⟨t,h1,rfl,h2,h3⟩:=sS ht;have:=h.ok t (eD h1)
  have e:(bW[i*z+f]?.map (·.val)).getD default=t.val:=by rw[h1];rfl
  show ah w R .deep _ t.tc ((bW[i*z+f]?.map (·.val)).getD default);rw[e];exact ah.mono (ah.UE this) fun k hk=>⟨h2,t,h1,hk⟩
theorem Pk.put {w:World} {b off:Nat} {L us:List Value} (h:Pk w b off L) {p:Nat} (hp:p+us.length≤L.length):Pk (w.setCells b (off+p) us) b off (L.take p++us++L.drop (p+us.length)):=by
 intro k y hk
 have hs: ∀j,j<us.length→(w.cell? ⟨b,off+p+j,none⟩).isSome=true:=fun j hj=>by
  rw[pN,h (p+j) _ (aX aA)];rfl
 by_cases h1:k<p
 ·rw[w5,iD (by rw[eY];omega),AQ,aT h1] at hk
  rw[World.cell?_setCells_out b us _ _ _ (fun _ _=> .inl (by show off+k<off+p;omega))];exact h k y hk
 ·by_cases h2:k<p+us.length
  ·rw[w5,ju (by rw[eY];omega),iD (by rw[eY];omega),eY,Nat.min_eq_left aA] at hk
   have hl:k-p<us.length:=by omega
   have:=World.cell?_setCells_in b us (off+p) w hs (k-p) hl;rw[show off+p+(k-p)=off+k by omega] at this;rw[this,←hk,aX hl]
  ·rw[ju (by rw[cr,eY];omega),kr,cr,eY,Nat.min_eq_left aA] at hk
   rw[World.cell?_setCells_out b us _ _ _ (fun _ _=> .inr (by show off+p+us.length≤off+k;omega))];exact h k y (by rw[←hk];congr 1;omega)
theorem KC {w:World} {a:Addr} {y:Value} (h:w.cell? a=some y):a.block<w.heap.size:=by
 unfold World.cell? at h
 split at h
 ·rename_i hh;exact(Array.getElem?_eq_some_iff.1 hh).1
 ·cases h
end Go.T
namespace Go.T
variable {F : Nat → Prop} {A : Arg} {w0 w w' : World} {φ φ' φ1 : Fp} {st st' sta cj : TS} {tm xA : Array Value} {C : g6}
theorem sr {z:Nat}: ∀{rows:List (List TC)},(∀r∈rows,r.length=z)→ ∀i,(rows.take i).flatten=rows.flatten.take (i*z)
 |[],_,i=>by simp
 |r::rs,hw,0=>by simp
 |r::rs,hw,i+1=>by
  have hr:=hw r (.head _);rw[List.take_succ_cons,uU,uU,sr (fun r hr=>hw r (.tail _ hr)) i,Ct,List.take_append,hr];rw[Qv (by omega:r.length≤i*z+z),show i*z+z-z=i*z by omega]
theorem su {z:Nat}: ∀{rows:List (List TC)},(∀r∈rows,r.length=z)→ ∀i,(rows.drop i).flatten=rows.flatten.drop (i*z)
 |[],_,i=>by simp
 |r::rs,hw,0=>by simp
 |r::rs,hw,i+1=>by
  have hr:=hw r (.head _);rw[List.drop_succ_cons,uU,su (fun r hr=>hw r (.tail _ hr)) i,Ct,List.drop_append,hr];rw[yq (by omega:r.length≤i*z+z),pM,show i*z+z-z=i*z by omega]
def CV.out (t:CV):CV:=⟨.any,t.val,fun _=>False⟩
theorem AW {z:Nat}: ∀n,(List.replicate n (List.replicate z TC.any)).flatten=List.replicate (n*z) TC.any
 |0=>by simp
 |n+1=>by
  rw[List.replicate_succ,uU,AW n,Ct,Nat.add_comm,List.replicate_append_replicate]
theorem Pm (l:List CV):(l.map CV.out).map (·.tc)=List.replicate l.length .any:=by
 induction l with
 |nil=>rfl
 |cons a l ih=>rw[List.map_cons,List.map_cons,ih,eC,List.replicate_succ];rfl
theorem Nm (l:List CV):(l.map CV.out).map (·.val)=l.map (·.val):=by
 rw[List.map_map];rfl
attribute [local semireducible] fY aq in
theorem xM.move {S:Nat→Prop} {z:Nat} {rows:List (List TC)} {v:Value} {Ad:Option Addr} {c:Nat} {bW:List CV} (o:xM w S z rows v Ad c bW) {l h:Int} (h0:0≤l) (h1:l≤h) (h2:h≤rows.length):
 ∃TB itm:List CV,xM w (fun k=>S k∧ ¬ ∃t∈itm,t.own k) z (fY z rows l h) v Ad c TB∧(fY z rows l h).length=rows.length∧(aq rows l h).flatten=itm.map (·.tc)∧itm.map (·.val)=((bW.map (·.val)).take (h.toNat*z)).drop (l.toNat*z)∧
  (∀t∈itm,t.ok w∧ ∀k,t.own k→S k∧ ∀ad,Ad=some ad→k≠ad.block)∧itm.Pairwise CV.apart∧(∀r∈aq rows l h,r.length=z):=by
 obtain⟨a,ha⟩: ∃a,a=l.toNat:=⟨_,rfl⟩;obtain⟨b,hb⟩: ∃b,b=h.toNat:=⟨_,rfl⟩
 have hab:a≤b:=by omega
 have Mr:b≤rows.length:=by omega
 have lt:=o.width
 have li:bW.length=rows.length*z:=by
  have:=congrArg List.length o.tcs;rw[bF o.width,ck] at this;exact this.symm
 have e1:=lF z hab;have e2:=lF z Mr;obtain⟨i1,hi1⟩: ∃i1,i1=bW.take (a*z):=⟨_,rfl⟩;obtain⟨i2,hi2⟩: ∃i2,i2=(bW.take (b*z)).drop (a*z):=⟨_,rfl⟩;obtain⟨i3,OE⟩: ∃i3,i3=bW.drop (b*z):=⟨_,rfl⟩
 have hsplit:bW=i1++i2++i3:=by
  rw[hi1,hi2,OE];have q1:=yu (b*z) bW;have q2:=yu (a*z) (bW.take (b*z));rw[List.take_take,Nat.min_eq_left e1] at q2;rw[q2,q1]
 have l1:i1.length=a*z:=by rw[hi1,eY];omega
 have l2:i2.length=(b-a)*z:=by rw[hi2,jE,eY,Nat.sub_mul];omega
 have hd:=o.kj;rw[hsplit] at hd;obtain⟨d12,d3,d123⟩:=List.pairwise_append.1 hd;obtain⟨d1,d2,dc⟩:=List.pairwise_append.1 d12
 have m1: ∀t∈i1,t∈bW:=fun t ht=>by rw[hsplit];exact fe _ (fe _ ht)
 have m2: ∀t∈i2,t∈bW:=fun t ht=>by rw[hsplit];exact fe _ (jv _ ht)
 have m3: ∀t∈i3,t∈bW:=fun t ht=>by rw[hsplit];exact jv _ ht
 have hv:(i1++i2.map CV.out++i3).map (·.val)=bW.map (·.val):=by
  rw[hsplit];simp only[yt,Nm]
 have hlen:(fY z rows l h).length=rows.length:=by
  unfold fY;rw[←ha,←hb];simp only[cr,eY,List.length_replicate,jE];omega
 have hfl:(fY z rows l h).flatten=(i1++i2.map CV.out++i3).map (·.tc):=by
  unfold fY;rw[←ha,←hb,Kr,Kr,sr lt,su lt,AW,yt,yt,Pm,l2,o.tcs,hi1,OE,Hy,E5]
 have anyA: ∀t∈i2.map CV.out,∀k,¬t.own k:=fun t ht k hk=>by
  obtain⟨t0,_,rfl⟩:=List.mem_map.1 ht;exact hk
 refine⟨i1++i2.map CV.out++i3,i2,⟨?_,by rw[hlen];exact o.le,o.cap,o.z0,fun r hr=> ?_,hfl,fun t ht=> ?_,?_,fun t ht k hk=> ?_,o.none,fun ad e=> ?_⟩,hlen,?_,?_,fun t ht=>⟨o.ok t (m2 t ht),fun k hk=>o.sub t (m2 t ht) k hk⟩,d2,fun r hr=> ?_⟩
 ·rw[hlen];exact o.val
 ·unfold fY at hr
  rcases List.mem_append.1 hr with hr|hr
  ·rcases List.mem_append.1 hr with hr|hr
   ·exact lt r (qR hr)
   ·rw[List.eq_of_mem_replicate hr,List.length_replicate]
  ·exact lt r (qQ hr)
 ·rcases List.mem_append.1 ht with ht|ht
  ·rcases List.mem_append.1 ht with ht|ht
   ·exact o.ok t (m1 t ht)
   ·obtain⟨t0,h0,rfl⟩:=List.mem_map.1 ht
    have:=o.ok t0 (m2 t0 h0);exact .any _ _ _ ⟨mO this,ah.cells this⟩
  ·exact o.ok t (m3 t ht)
 ·refine List.pairwise_append.2 ⟨List.pairwise_append.2 ⟨d1,?_,fun x hx y hy k _ hk=>anyA y hy k hk⟩,d3,fun x hx y hy=> ?_⟩
  ·rw[List.pairwise_map]
   exact d2.imp fun _ k hk=>hk.elim
  ·rcases List.mem_append.1 hx with hx|hx
   ·exact d123 x (fe _ hx) y hy
   ·exact fun k hk=>(anyA x hx k hk).elim
 ·rcases List.mem_append.1 ht with ht|ht
  ·rcases List.mem_append.1 ht with ht|ht
   ·exact⟨⟨(o.sub t (m1 t ht) k hk).1,fun⟨t',ht',hk'⟩=>dc t ht t' ht' k hk hk'⟩,(o.sub t (m1 t ht) k hk).2⟩
   ·exact(anyA t ht k hk).elim
  ·exact⟨⟨(o.sub t (m3 t ht) k hk).1,fun⟨t',ht',hk'⟩=>d123 t' (jv _ ht') t ht k hk' hk⟩,(o.sub t (m3 t ht) k hk).2⟩
 ·obtain⟨r1,r2,r3,r4⟩:=o.row ad e
  refine⟨⟨r1,fun⟨t,ht,hk⟩=>(o.sub t (m2 t ht) _ hk).2 ad e rfl⟩,r2,?_,r4⟩;rw[hv];exact r3
 ·unfold aq
  rw[←ha,←hb,su (fun r hr=>lt r (qR hr)),sr lt,o.tcs,hi2,E5,Hy]
 ·rw[←ha,←hb,hi2,E5,Hy]
 ·unfold aq at hr
  exact lt r (qR (qQ hr))
theorem aG.SW (h:aG F A w0 φ st tm w) {o g:Nat} {z:Nat} {rows:List (List TC)} (hb:aa o st.ob=some ⟨true,z,rows⟩) {l hh:Int} (h0:0≤l) (h1:l≤hh) (h2:hh≤rows.length) (hg:g≠0) (OF:g≠o):
 ∃φ2,aG F A w0 φ2 (xD g o ⟨true,z,rows⟩ l hh st) tm w∧φ2.β=φ.β∧(∀d,d≠g→φ2.V d=φ.V d)∧(∀d k,d≠g→φ2.S d k→φ.S d k)∧
  ∃vs X,vs.length=(aq rows l hh).length*z∧(∀r∈aq rows l hh,r.length=z)∧(∀vX,sX z rows.length l hh (φ.V o) vX→ ∀ad n c,vX= .slice (some ad) n c→ ∀(j:Nat) (x:Value),vs[j]?=some x→w.cell? (ad.add j)=some x)∧
   ∀sta:TS,av sta.ob g→gY w φ2 sta (T.iR g sta) (cA .deep (aq rows l hh).flatten vs) X (fun _=>False):=by
 have hin:av st.ob o:=⟨_,hb⟩;have hO:ah w φ.I .deep (φ.S o) (.sub z rows) (φ.V o):=h.obj o _ hb;obtain⟨Ad,c,bW,op⟩:=hO.opened;obtain⟨TB,itm,op',e1,e2,e3,e4,e5,e6⟩:=op.move h0 h1 h2;have hS: ∀t∈itm,∀k,t.own k→φ.S o k:=fun t ht k hk=>((e4 t ht).2 k hk).1
 have w1:=h.nD (w':=w) (b':=⟨true,z,fY z rows l hh⟩) (X:=fun k=>φ.S o k∧ ¬ ∃t∈itm,t.own k) hb rfl e1 op'.rep h.frm (bT _) (fun _ _ _=>rfl)
  (fun k hk=>h.sep.fresh o k hin hk.1) (fun k hk=>h.sep.read o k hin hk.1) (fun k d hk hne hd hs=>hne (h.sep.apart d o k hd hin hs hk.1)) (fun b cs AM hw hk=>(h.sep.box b cs AM hw).2.1 o hin hk.1)
 have j9: ∀d,av (T.nD o ⟨true,z,fY z rows l hh⟩ st).ob d→av st.ob d:=fun d hd=>by
  have:av (jn o ⟨true,z,fY z rows l hh⟩ st.ob) d:=hd;rw[fj] at this;exact this.elim (fun e=>e▸hin) id
 have w2:=w1.uX (o:=g) (b:=⟨true,1,[]⟩) (X:=fun k=> ∃t∈itm,t.own k) (v:= .slice none 0 0) hg (p6 (Nat.lt_succ_self 0)) (fun k ⟨t,ht,hk⟩=>h.sep.fresh o k hin (hS t ht k hk)) (fun k ⟨t,ht,hk⟩=>h.sep.read o k hin (hS t ht k hk))
  (fun k d ⟨t,ht,hk⟩ hne hd hs=>by
    by_cases e:d=o
    ·subst e
     have hs:(if d=d then φ.S d k∧ ¬ ∃t∈itm,t.own k else φ.S d k):=hs;rw[aT rfl] at hs;exact hs.2 ⟨t,ht,hk⟩
    ·rw[nW e] at hs
     exact e (h.sep.apart d o k (j9 d hd) hin hs (hS t ht k hk)))
  (fun b cs AM hw ⟨t,ht,hk⟩=>by
    obtain⟨cs0,hc0,_⟩:=dW _ b cs AM
    exact(h.sep.box b cs0 hc0 hw).2.1 o hin (hS t ht _ hk))
 have lits:bW.length=rows.length*z:=by
  have:=congrArg List.length op.tcs;rw[bF op.width,ck] at this;exact this.symm
 have litm:itm.length=(aq rows l hh).length*z:=by
  have:=congrArg List.length e2;rw[bF e6,ck] at this;exact this.symm
 refine⟨_,w2,rfl,fun d hd=> ?_,fun d k hd hs=> ?_,itm.map (·.val),fun i k=> ∃t,itm[i]?=some t∧t.own k,by rw[ck];exact litm,e6,fun vX hc ad n c' ev j x hj=> ?_,fun sta hgd=>⟨fun i it hi=> ?_,fun i k hi hk=>⟨id,g,hgd,fun hd=>(fR.1 hd).1 rfl,?_⟩,fun k hk=>hk.elim,fun i j k hi hj hk hk'=> ?_,cD.kill sta g⟩⟩
 ·show(if d=g then _ else if d=o then φ.V o else φ.V d)=φ.V d
  rw[aL hd]
  split
  ·subst_vars;rfl
  ·rfl
 ·rw[nW hd] at hs
  by_cases e:d=o
  ·subst e
   have hs:(if d=d then φ.S d k∧ ¬ ∃t∈itm,t.own k else φ.S d k):=hs;rw[aT rfl] at hs;exact hs.1
  ·rw[nW e] at hs;exact hs
 ·obtain⟨c1,c2,c3,A0,A',c0,f1,f2,f3,f4,f5⟩:=hc
  rw[op.val] at f1
  cases f1
  rw[ev] at f2
  cases f2
  obtain⟨ad0,hA⟩: ∃ad0,Ad=some ad0:=by
   cases hA:Ad with
   |none=>have:=f4 hA;cases this
   |some ad0=>exact⟨ad0,rfl⟩
  obtain⟨_,hsp,⟨sp,hr,hrl⟩,_⟩:=op.row ad0 hA;rw[e3] at hj;have hjl:=(List.getElem?_eq_some_iff.1 hj).1;rw[jE,eY,ck,lits] at hjl;rw[kr,AQ] at hj
  split at hj
  ·have hbz:hh.toNat*z≤rows.length*z:=lF z aA
   have hx:=hr _ x (by rw[iD (by rw[ck,lits];exact fJ Sl hbz)];exact hj);have hle:=op.le;have hz:=op.z0
   have hne:c≠l.toNat:=fun e=>by
    have:hh.toNat≤l.toNat:=by omega
    have:=lF z this;omega
   have:=f3 hne;rw[hA] at this;simp only[iE,aR] at this;obtain⟨b0,o0,s0⟩:=ad0
   cases hsp
   rw[this,Addr.add_add,Addr.add_lit];rw[←pN] at hx;rw[show o0+(l.toNat*z+j)=o0+l.toNat*z+j by omega];exact hx
  ·cases hj
 ·obtain⟨tc,v,t1,t2,rfl⟩:=iN hi
  rw[e2,gG] at t1;rw[gG] at t2
  cases hq:itm[i]? with
  |none=>rw[hq] at t1;cases t1
  |some t=>
   rw[hq] at t1 t2;simp only[iE,aR] at t1 t2;subst t1 t2;exact ah.mono (ah.UE (e4 t (eD hq)).1) fun k hk=>⟨t,rfl,hk⟩
 ·obtain⟨t,ht,hk⟩:=hk
  show(if g=g then ∃t∈itm,t.own k else _);rw[aT rfl];exact⟨t,eD ht,hk⟩
 ·obtain⟨t,ht,hk⟩:=hk
  obtain⟨t',ht',hk'⟩:=hk';obtain⟨l1,q1⟩:=List.getElem?_eq_some_iff.1 ht;obtain⟨l2,q2⟩:=List.getElem?_eq_some_iff.1 ht';have hp:=List.pairwise_iff_getElem.1 e5;rcases Nat.lt_trichotomy i j with hlt|rfl|hlt
  ·exact absurd hk' (by have:=hp _ _ l1 l2 hlt;rw[q1,q2] at this;exact this k hk)
  ·rfl
  ·exact absurd hk (by have:=hp _ _ l2 l1 hlt;rw[q1,q2] at this;exact this k hk')
end Go.T
namespace Go.T
variable {F : Nat → Prop} {A : Arg} {w0 w w' : World} {φ φ' : Fp} {st st' sta cj jA : TS} {tm xA : Array Value} {C : g6}
variable {R : Type} {cf : Cf} {lp : Lp} {Q : R → Prop}
theorem Ft {e:TypeId} {z:Nat} (h:zK C e z=true):qC (C.tt e)=true∧z=(C.tt e).size:=by
 unfold zK at h
 split at h
 ·exact⟨by assumption,eB h⟩
 ·cases h
attribute [local semireducible] bN in
theorem CW {rows:List (List TC)} (h:bN rows=true): ∀(p:Nat) (tc:TC),rows.flatten[p]?=some tc→ ∃v,tc= .sc v:=fun p tc hp=>by
 have hm:=eD hp;obtain⟨r,hr,hc⟩:=List.mem_flatten.1 hm;have h1:=List.all_eq_true.1 h r hr;have h2:=List.all_eq_true.1 h1 tc hc
 cases tc with
 |any=>cases h2
 |sc v=>exact⟨v,rfl⟩
 |sub z rows=>cases h2
structure RD (w:World) (φ:Fp) (st sta:TS) (dp:Bool) (z:Nat) (rows:List (List TC)) (vS:Value) (M:Mode) (wq:List Value) (X1:Nat→Nat→Prop) (Z1:Nat→Prop) (Ad:Option Addr) (c:Nat):Prop where
 val:vS= .slice Ad rows.length c
 parts:gY w φ st sta (cA M rows.flatten wq) X1 Z1
 width: ∀r∈rows,r.length=z
 len:wq.length=rows.length*z
 le:rows.length≤c
 max:c≤maxLen
 at':(Ad=none∧rows=[]∧c=0)∨ ∃ad,Ad=some ad∧ad.spot=none∧(∃o,av st.ob o∧ ¬av sta.ob o∧φ.S o ad.block)∧(∀(j:Nat) (v:Value),wq[j]?=some v→w.cell? (ad.add j)=some v)∧
    (∀j,j<c*z→(∃x,w.cell? ⟨ad.block,ad.off+j,none⟩=some x)∧w.frozen? ⟨ad.block,ad.off+j,none⟩=false)∧(∀i k,X1 i k→k≠ad.block)∧(∀k,Z1 k→k≠ad.block)∧(1<z→ ∀i,w.frozen? ⟨ad.block,i,none⟩=false)
theorem yU (h:aG F A w0 φ st tm w) {cs:CE} {vS:Value} (hc:bP st.ob w φ cs vS) {o:Option Nat} {z:Nat} {dp:Bool} {rows:List (List TC)} (hb:qD st cs=some (o,z,dp,rows)) {M:Mode} (hM:M= .snap∨M= .deep∧dp=true):
 0<z∧aG F A w0 φ (jw o st) tm w∧ ∃wq X1 Z1 Ad c,RD w φ st (jw o st) dp z rows vS M wq X1 Z1 Ad c:=by
 unfold qD at hb
 split at hb
 ·cases hb
  obtain⟨rfl,hz⟩:=hc;exact⟨hz,h,[],_,_,none,0,rfl,gY.nil _,fun r hr=>(by cases hr),by simp,bT _,AR _,.inl ⟨rfl,rfl,rfl⟩⟩
 ·rename_i o' cut
  cases hl:aa o' st.ob with
  |none=>rw[hl] at hb;cases hb
  |some b=>
   obtain⟨d0,z0,jB⟩:=b;rw[hl] at hb
   cases hb
   obtain⟨b0,e0,rX⟩:=hc;rw[hl] at e0
   cases e0
   have hr:=iT.cut (h.obj o' _ hl) rX
   have hm:OB.m ⟨dp,z,jB⟩≠ .snap:=by unfold OB.m;split<;>simp
   obtain⟨wq,X1,Z1,l1,p1,a1⟩:=ah.parts h ⟨_,hl⟩ hr hm (M:=M) (hM.imp id fun⟨e1,e2⟩=>⟨e1,by rw[e2];rfl⟩);obtain⟨_,_,rZ,hz,_⟩:=hr.vals;refine⟨hz,h.iR o',wq,X1,Z1,?_⟩
   cases hr with
   |sub _ _ _ _ Ad c u T k hn=>
    refine⟨Ad,c,rfl,p1,rZ,l1,k.len,k.cap,?_⟩
    cases Ad with
    |none=>
     have hne:HC cut jB=[]:=Classical.byContradiction fun hne=>by obtain⟨ad,h⟩:=k.addr hne;cases h
     exact .inl ⟨rfl,hne,(k.own hm).1 rfl⟩
    |some ad=>
     obtain⟨hS,hs,hall⟩:=(k.own hm).2 ad rfl;obtain⟨q1,q2,q3⟩:=a1 ad _ _ rfl;exact .inr ⟨ad,rfl,hs,⟨o',⟨_,hl⟩,fun hd=>(fR.1 hd).1 rfl,hS⟩,q1,hall,q2,q3,fun Mh=>k.soft hm Mh ad rfl⟩
 ·cases hb
theorem Pn (h:aG F A w0 φ st tm w) {kk:TS} (hsub:cD st kk) {cx:CE} {vX:Value} (hc:bP kk.ob w φ cx vX) {tx e':TypeId} (hk:C.P.underlying tx=some (.slice e')) {z:Nat} {rows:List (List TC)} {cj:TS} {d1:Bool} (hab:jG cx st=some (.sub z rows,cj,d1))
 {M:Mode} (hM:M= .snap∨M= .deep∧d1=true):aG F A w0 φ cj tm w∧ ∃sU X2 Z2,gY w φ st cj (cA M rows.flatten sU) X2 Z2∧(∀r∈rows,r.length=z)∧sU.length=rows.length*z∧Src C.P z tx vX rows.length sU w:=by
 unfold jG at hab
 split at hab
 ·cases hab
 ·cases hab
  obtain⟨rfl,hz⟩:=hc;exact⟨h,[],_,_,gY.nil _,fun r hr=>(by cases hr),by simp,Src.ofNil w hk 0⟩
 ·rename_i o cut
  cases hl:aa o st.ob with
  |none=>rw[hl] at hab;cases hab
  |some b=>
   obtain⟨d0,z0,jB⟩:=b;rw[hl] at hab
   cases hab
   obtain⟨b0,e0,rX⟩:=hc;rw[hsub.ob _ _ hl] at e0
   cases e0
   have hr:=iT.cut (h.obj o _ hl) rX
   have hm:OB.m ⟨d1,z,jB⟩≠ .snap:=by unfold OB.m;split<;>simp
   obtain⟨wq,X1,Z1,l1,p1,a1⟩:=ah.parts h ⟨_,hl⟩ hr hm (M:=M) (hM.imp id fun⟨e1,e2⟩=>⟨e1,by rw[e2];rfl⟩);obtain⟨_,_,rZ,hz,_⟩:=hr.vals;refine⟨h.iR o,wq,X1,Z1,p1,rZ,l1,CU hr hk rfl l1 (fun ad n c e=>(a1 ad n c e).1) fun y hy=> ?_⟩;obtain⟨j,hj,rfl⟩:=List.mem_iff_getElem.1 hy;exact mO (p1.ok j _ (je (aX (by rw[bF rZ,←l1];exact hj)) (aX hj)))
 ·rename_i l z0 jB
  cases hab
  have Vf:M= .snap:=hM.elim id fun⟨_,e⟩=>by cases e
  subst Vf;have hr:=hc.2.1;obtain⟨vs,l1,rZ,hz,hcell,qL⟩:=hr.vals
  have hok: ∀(i:Nat) (it:It),(cA .snap rows.flatten vs)[i]?=some it→it.1= .snap∧ah w (fun k=>φ.I k∨False) .snap zE it.2.1 it.2.2:=fun i it hi=>by
   obtain⟨tc,v,h1,h2,rfl⟩:=iN hi;obtain⟨T,hT⟩:=qL i tc v h1 h2;exact⟨rfl,hT.kf fun k hk=>hk.elim .inl fun⟨d,hd,_⟩=>by cases hd⟩
  refine⟨h,vs,fun _ _=>False,fun _=>False,⟨fun i it hi=> ?_,fun _ _ _ hk=>hk.elim,fun _ hk=>hk.elim,fun _ _ _ _ _ hk=>hk.elim,cD.refl _⟩,rZ,l1,CU hr hk rfl l1 hcell fun y hy=> ?_⟩
  ·obtain⟨e1,e2⟩:=hok i it hi
   rw[e1];exact e2
  ·obtain⟨j,hj,rfl⟩:=List.mem_iff_getElem.1 hy
   exact mO (hok j _ (je (aX (by rw[bF rZ,←l1];exact hj)) (aX hj))).2
 ·cases hab
theorem LK (h:aG F A w0 φ st tm w) {cx:CE} {vX:Value} (hc:bP st.ob w φ cx vX) {tx e':TypeId} (hk:C.P.underlying tx=some (.slice e')) {z:Nat} {rows:List (List TC)} (hr:jo st cx=some (z,rows)) (hsc:bN rows=true) (M:Mode) (sta:TS):
 ∃sU,gY w φ sta sta (cA M rows.flatten sU) (fun _ _=>False) (fun _=>False)∧(∀r∈rows,r.length=z)∧sU.length=rows.length*z∧Src C.P z tx vX rows.length sU w:=by
 obtain⟨qL,_⟩:=lH h hc hr;obtain⟨vs,l1,rZ,hz,hcell,Lo⟩:=qL.vals
 have hok: ∀(M:Mode) (i:Nat) (it:It),(cA M rows.flatten vs)[i]?=some it→ ∃v,it=(M,.sc v,v)∧Bj v:=fun M i it hi=>by
  obtain⟨tc,v,h1,h2,rfl⟩:=iN hi;obtain⟨T,hT⟩:=Lo i tc v h1 h2;obtain⟨v',rfl⟩:=CW hsc i tc h1
  cases hT with
  |sc _ _ _ hs=>exact⟨_,rfl,hs⟩
 refine⟨vs,⟨fun i it hi=> ?_,fun _ _ _ hk=>hk.elim,fun _ hk=>hk.elim,fun _ _ _ _ _ hk=>hk.elim,cD.refl _⟩,rZ,l1,CU qL hk rfl l1 hcell fun y hy=> ?_⟩
 ·obtain⟨v,rfl,hs⟩:=hok M i it hi
  exact .sc _ _ _ hs
 ·obtain⟨j,hj,rfl⟩:=List.mem_iff_getElem.1 hy
  obtain⟨v,e1,hs⟩:=hok .deep j _ (je (aX (by rw[bF rZ,←l1];exact hj)) (aX hj))
  have:vs[j]=v:=by have:=congrArg (fun it:It=>it.2.2) e1;exact this
  rw[this]
  cases v<;>first|rfl|cases hs
theorem AX {g o p:Nat} {b:OB} {l h:Int} (h1:p≠g) (h2:p≠o):aa p (xD g o b l h st).ob=aa p st.ob:=by
 show aa p (jn g _ (kz g (jn o _ st.ob)))=_;rw[cQ,aL h1,eP,aL h1,cQ,aL h2]
theorem CX {g o:Nat} {b:OB} {l h:Int}:av (xD g o b l h st).ob g:=by
 refine⟨⟨true,1,[]⟩,?_⟩;show aa g (jn g _ (kz g (jn o _ st.ob)))=_;rw[cQ,aT rfl]
theorem JJ (hT:dF C) {a:Act} (h:aG F A w0 φ st a.tmps w) {o:Oper} {s x:Operand} {t t':TypeId} (ho:o.op= .call {callee:= .builtin .append,args:= #[s,x],argTypes:= #[t,t']}) {K:TS→Ev R} (hd: ∀d,o.dst=some d→d<a.tmps.size) {d:Nat} (gx:o.dst=some d)
 {e:TypeId} (he:qB C t=some e) {cs cx:CE} (hcs:pJ (lU C st t s)=some cs) {oo:Option Nat} {z:Nat} {dp:Bool} {rows:List (List TC)} (hb:qD st cs=some (oo,z,dp,rows)) (hsz:zK C e z=true) {e2:TypeId} (SB:C.P.underlying t'=some (.slice e2)) (OT:bP st.ob w φ cs (a.eval s)) (Qj:bP st.ob w φ cx (a.eval x))
 {aI:List (List TC)} {cj:TS} (Qk:Jl d oo dp cx st=some (z,aI,cj)) (hfit:fits (rows.length+aI.length) (C.tt e).bytes=true) (hk:(K (pK d ⟨dp,z,rows++aI⟩ cj)).holds cf lp Q):Jc C F A w0 φ st o a w K cf lp Q:=by
 obtain⟨Hs,hz⟩:=Ft hsz;unfold Jl at Qk
 split at Qk
 ·rename_i o' l hh
  split at Qk
  ·rename_i z0 jB hl Q4
   simp only[aR,sV] at Qk;obtain⟨rfl,rfl,rfl⟩:=Qk;rw[Bool.or_eq_false_iff] at Q4;obtain⟨OQ,Us⟩:=Q4
   have OF:mA d 1 0≠o':=fun e=>by rw[e] at Us;simp at Us
   have WL:mA d 1 0≠0:=by unfold mA;omega
   have SC: ∀p,oo=some p→p≠o'∧p≠mA d 1 0:=fun p e=>by
    rw[e] at OQ;simp only[Bool.or_eq_false_iff] at OQ;exact⟨lT OQ.1,lT OQ.2⟩
   obtain⟨b0,hb0,rX⟩:=Qj;rw[hl] at hb0
   cases hb0
   have rX:sX z0 jB.length l hh (φ.V o') (a.eval x):=rX;obtain⟨φ2,h2,eβ,eV,eS,sU,X2,yj,Ho,hcell,Sc⟩:=h.SW (g:=mA d 1 0) hl rX.1 rX.2.1 rX.2.2.1 WL OF
   have Q5:bP (xD (mA d 1 0) o' ⟨true,z0,jB⟩ l hh st).ob w φ2 cs (a.eval s)∧qD (xD (mA d 1 0) o' ⟨true,z0,jB⟩ l hh st) cs=some (oo,z0,true,rows):=by
    unfold qD at hb ⊢
    split at hb
    ·cases hb
     exact⟨OT,rfl⟩
    ·rename_i p cut
     obtain⟨bp,VZ,WM⟩:=OT;rw[VZ] at hb;obtain⟨dq,zq,rq⟩:=bp;simp only[aR,sV] at hb;obtain⟨rfl,rfl,rfl,rfl⟩:=hb;obtain⟨n1,n2⟩:=SC p rfl;have hlk:=AX (st:=st) (b:=⟨true,zq,jB⟩) (l:=l) (h:=hh) n2 n1;rw[VZ] at hlk;refine⟨⟨_,hlk,?_⟩,?_⟩
     ·rw[eV p n2];exact WM
     ·simp only[hlk]
    ·cases hb
   obtain⟨_,hka,wq,X1,Z1,Ad,c,hB⟩:=yU h2 Q5.1 Q5.2 (M:= .deep) (.inr ⟨rfl,rfl⟩)
   have TD:av (jw oo (xD (mA d 1 0) o' ⟨true,z0,jB⟩ l hh st)).ob (mA d 1 0):=by
    cases oo with
    |none=>exact CX
    |some p=>exact fR.2 ⟨fun e=>(SC p rfl).2 e.symm,CX⟩
   have p2:=Sc _ TD
   have hsrc:Src C.P z0 t' (a.eval x) (aq jB l hh).length sU w:=by
    refine CU (iT.cut (cut:=some (l,hh)) (h.obj o' _ hl) rX) SB rfl yj (fun ad n c e=>hcell _ rX ad n c e) fun y hy=> ?_;obtain⟨j,hj,rfl⟩:=List.mem_iff_getElem.1 hy;exact mO (p2.ok j _ (je (aX (by rw[bF Ho,←yj];exact hj)) (aX hj)))
   obtain⟨v,w',hrun,pH,hsize,hframe⟩:=Fs (ty:=o.type) hT rfl (oG hT he).1 Hs h2 (hka.iR (mA d 1 0)) (hd d gx) (dp:=true) hz hB.parts p2 hB.width Ho hB.len yj hB.le hB.max hsrc hB.at' hfit;refine⟨.value v,v,w',_,?_,.inl rfl,by rw[gx];exact pH,hk,hsize,fun k hk Qi=>hframe k hk fun ad D7 e=>Qi ?_⟩
   ·rw[ni ho]
    simp only[builtin,Sem.run_bind]
    have:(#[s,x].map a.eval)= #[a.eval s,a.eval x]:=by simp
    rw[this,hB.val,hrun]
    rfl
   ·rcases hB.at' with⟨e0,_⟩|⟨ad',e0,_,⟨o2,o21,o22,o23⟩,_⟩
    ·rw[D7] at e0;cases e0
    ·rw[D7] at e0
     cases e0
     cases oo with
     |none=>exact absurd o21 o22
     |some p=>
      have:o2=p:=Classical.byContradiction fun hne=>o22 (fR.2 ⟨hne,o21⟩);subst this;obtain⟨n1,n2⟩:=SC o2 rfl
      have g1: ∃q,pJ (lU C st t s)=some (.ref o2 q):=by
       unfold qD at hb
       split at hb
       ·cases hb
       ·rename_i p cut
        split at hb
        ·simp only[aR,sV] at hb
         obtain⟨rfl,_⟩:=hb;exact⟨_,hcs⟩
        ·cases hb
       ·cases hb
      obtain⟨q,g1⟩:=g1
      have g2:av st.ob o2:=by
       obtain⟨b2,hb2⟩:=o21;rw[AX n2 n1] at hb2;exact⟨b2,hb2⟩
      refine .inr ⟨o2,?_,g2,by rw[e];exact eS o2 _ n2 o23⟩;unfold writes;rw[ho];simp only;refine List.mem_map.2 ⟨o2,?_,rfl⟩
      revert g1
      cases lU C st t s with
      |v tup es=>
       unfold pJ
       split
       ·rename_i e0 e1
        intro g1
        cases g1
        simp only[TE.v.injEq] at e1;obtain⟨rfl,rfl⟩:=e1;exact .head _
       ·intro g1;cases g1
       ·intro g1;cases g1
      |_=>intro g1;simp[pJ] at g1
  ·cases Qk
 ·cases Qk
theorem Po (h:aG F A w0 φ st tm w) {cx:CE} {vX:Value} (hc:bP st.ob w φ cx vX) {tx e':TypeId} (hk:C.P.underlying tx=some (.slice e')) {z:Nat} {rows:List (List TC)} (hr:MB st cx=some (z,rows)) (sta:TS):
 ∃sU,gY w φ sta sta (cA .snap rows.flatten sU) (fun _ _=>False) (fun _=>False)∧(∀r∈rows,r.length=z)∧sU.length=rows.length*z∧Src C.P z tx vX rows.length sU w:=by
 unfold MB at hr
 split at hr
 ·rename_i o' cut
  split at hr
  ·rename_i z0 jB hl
   cases hr
   obtain⟨b0,hb0,rX⟩:=hc;rw[hl] at hb0
   cases hb0
   have qL:=iT.cut (h.obj o' _ hl) rX;obtain⟨vs,l1,rZ,hz,hcell,Lo⟩:=qL.vals
   have hok: ∀(i:Nat) (it:It),(cA .snap (HC cut jB).flatten vs)[i]?=some it→it.1= .snap∧ah w (fun k=>φ.I k∨False) .snap zE it.2.1 it.2.2:=fun i it hi=>by
    obtain⟨tc,v,t1,t2,rfl⟩:=iN hi;obtain⟨T,hT⟩:=Lo i tc v t1 t2;exact⟨rfl,hT.kf fun k hk=> .inl hk⟩
   refine⟨vs,⟨fun i it hi=> ?_,fun _ _ _ hk=>hk.elim,fun _ hk=>hk.elim,fun _ _ _ _ _ hk=>hk.elim,cD.refl _⟩,rZ,l1,CU qL hk rfl l1 hcell fun y hy=> ?_⟩
   ·obtain⟨e1,e2⟩:=hok i it hi
    rw[e1];exact e2.mono fun k hk=>hk.elim
   ·obtain⟨j,hj,rfl⟩:=List.mem_iff_getElem.1 hy
    exact mO (hok j _ (je (aX (by rw[bF rZ,←l1];exact hj)) (aX hj))).2
  ·cases hr
 ·cases hr
theorem LL (hT:dF C) {a:Act} (h:aG F A w0 φ st a.tmps w) {o:Oper} {args:Array Operand} {ts:Array TypeId} (ho:o.op= .call {callee:= .builtin .append,args,argTypes:=ts}) {K:TS→Ev R} (hd: ∀d,o.dst=some d→d<a.tmps.size) (hk:(jH C st o K).holds cf lp Q):
 Jc C F A w0 φ st o a w K cf lp Q:=by
 unfold jH at hk;rw[ho] at hk;simp only at hk
 split at hk
 ·rename_i d s x t t' gx h1 h2
  have e1:args= #[s,x]:=by cases args;simp at h1;subst h1;rfl
  have e2:ts= #[t,t']:=by cases ts;simp at h2;subst h2;rfl
  subst e1 e2;have Vm:=cC hT h t s;have Sz:=cC hT h t' x
  have fin: ∀{dp:Bool} {z:Nat} {e:TypeId} {rows aI:List (List TC)} {sta cj:TS} {wq sU:List Value} {X1 X2:Nat→Nat→Prop} {Z1 Z2:Nat→Prop} {Ad:Option Addr} {c:Nat} {cs:CE} {oo:Option Nat},
   qB C t=some e→pJ (lU C st t s)=some cs→qD st cs=some (oo,z,(match dp with|true=>true|false=>false),rows)∨True→zK C e z=true→RD w φ st sta dp z rows (a.eval s) (if dp then .deep else .snap) wq X1 Z1 Ad c→(∀ad,Ad=some ad→ ∃o',pJ (lU C st t s)=some (.ref o' none)∨(∃q,pJ (lU C st t s)=some (.ref o' q))∧True)→
   (∀ad,Ad=some ad→ ∃o' q,pJ (lU C st t s)=some (.ref o' q)∧av st.ob o'∧φ.S o' ad.block)→
   aG F A w0 φ cj a.tmps w→gY w φ sta cj (cA (if dp then .deep else .snap) aI.flatten sU) X2 Z2→(∀r∈aI,r.length=z)→sU.length=aI.length*z→Src C.P z t' (a.eval x) aI.length sU w→fits (rows.length+aI.length) (C.tt e).bytes=true→
   (K (pK d ⟨dp,z,rows++aI⟩ cj)).holds cf lp Q→Jc C F A w0 φ st o a w K cf lp Q:=by
   intro dp z e rows aI sta cj wq sU X1 X2 Z1 Z2 Ad c cs oo he hcs _ hsz hb _ hown Hu p2 Ho yj hsrc hfit hk;obtain⟨Hs,hz⟩:=Ft hsz;obtain⟨v,w',hrun,pH,hsize,hframe⟩:=Fs (ty:=o.type) hT rfl (oG hT he).1 Hs h Hu (hd d gx) hz hb.parts p2 hb.width Ho hb.len yj hb.le hb.max hsrc hb.at' hfit;refine⟨.value v,v,w',_,?_,.inl rfl,by rw[gx];exact pH,hk,hsize,fun k hk Qi=>hframe k hk fun ad D7 e=>Qi ?_⟩
   ·rw[ni ho]
    simp only[builtin,Sem.run_bind]
    have:(#[s,x].map a.eval)= #[a.eval s,a.eval x]:=by simp
    rw[this,hb.val,hrun]
    rfl
   ·obtain⟨o',q,g1,g2,g3⟩:=hown ad D7
    refine .inr ⟨o',?_,g2,by rw[e];exact g3⟩;unfold writes;rw[ho];simp only;refine List.mem_map.2 ⟨o',?_,rfl⟩
    revert g1
    cases lU C st t s with
    |v tup es=>
     unfold pJ
     split
     ·rename_i e0 e1
      intro g1
      cases g1
      simp only[TE.v.injEq] at e1;obtain⟨rfl,rfl⟩:=e1;exact .head _
     ·intro g1;cases g1
     ·intro g1;cases g1
    |_=>intro g1;simp[pJ] at g1
  unfold Kv at hk
  split at hk
  ·rename_i e cs cx he hcs Vn
   obtain⟨_,OT⟩:=pY Vm hcs;obtain⟨_,Qj⟩:=pY Sz Vn
   have hown: ∀{oo:Option Nat} {z:Nat} {dp dp':Bool} {rows:List (List TC)} {M:Mode} {wq:List Value} {X1:Nat→Nat→Prop} {Z1:Nat→Prop} {Ad:Option Addr} {c:Nat},qD st cs=some (oo,z,dp,rows)→RD w φ st (jw oo st) dp' z rows (a.eval s) M wq X1 Z1 Ad c→
    ∀ad,Ad=some ad→ ∃o' q,pJ (lU C st t s)=some (.ref o' q)∧av st.ob o'∧φ.S o' ad.block:=fun {oo z dp dp' rows M wq X1 Z1 Ad c} hb hB ad D7=>by
    unfold qD at hb
    split at hb
    ·cases hb
     rcases hB.at' with⟨e0,_⟩|⟨ad',e0,_,⟨o',o1,o2,o3⟩,_⟩
     ·rw[D7] at e0;cases e0
     ·exact absurd o1 o2
    ·rename_i o' cut
     cases hl:aa o' st.ob with
     |none=>rw[hl] at hb;cases hb
     |some b=>
      obtain⟨d0,z0,jB⟩:=b;rw[hl] at hb
      cases hb
      rcases hB.at' with⟨e0,_⟩|⟨ad',e0,_,⟨o2,o21,o22,o23⟩,_⟩
      ·rw[D7] at e0;cases e0
      ·rw[D7] at e0
       cases e0
       have:o2=o':=Classical.byContradiction fun hne=>o22 (fR.2 ⟨hne,o21⟩);subst this;exact⟨o2,cut,hcs,o21,o23⟩
    ·cases hb
   split at hk
   ·rename_i oo z dp rows hb Vo
    split at hk
    ·rename_i b hsz hz1
     have hk2:(match fits (rows.length+b.size) (C.tt e).bytes with|true=>K (pK d ⟨dp,z,rows++w7 b⟩ (jw oo st))|false=> .fail:Ev R).holds cf lp Q:=hk;clear hk
     split at hk2
     ·rename_i hfit
      have hz1:=eB hz1;subst hz1;obtain⟨hz,hka,wq,X1,Z1,Ad,c,hB⟩:=yU h OT hb (M:=if dp then .deep else .snap) (by cases dp<;>simp);have hv:=Gg Qj
      exact fin (oo:=oo) he hcs (.inr trivial) hsz hB (fun ad D7=>let ⟨o',q,g,_⟩:=hown hb hB ad D7;⟨o',.inr ⟨⟨q,g⟩,trivial⟩⟩) (hown hb hB) hka (Fq b _ _) (AV b) (by rw[byteCells_length,jU,Nat.mul_one])
       (by rw[hv,jU];exact Src.ofString w (CM hT Vo) b) (by rw[jU];exact hfit) hk2
     ·exact hk2.elim
    ·exact hk.elim
   ·rename_i oo z dp rows e2 hb Mk
    have SB:=(CN hT Mk).1
    split at hk
    ·exact hk.elim
    ·rename_i hsz
     split at hk
     ·split at hk
      ·rename_i z' aI hr
       split at hk
       ·rename_i AN
        have AN:=eB AN;subst AN;have hk2:(match(bN aI&&fits (rows.length+aI.length) (C.tt e).bytes) with|true=>K (pK d ⟨dp,z,rows++aI⟩ (jw oo st))|false=> .fail:Ev R).holds cf lp Q:=hk;clear hk
        split at hk2
        ·rename_i hfit
         simp only[cL] at hfit;obtain⟨hz,hka,wq,X1,Z1,Ad,c,hB⟩:=yU h OT hb (M:=if dp then .deep else .snap) (by cases dp<;>simp);obtain⟨sU,p2,Ho,yj,hsrc⟩:=LK h Qj SB hr hfit.1 (if dp then .deep else .snap) (jw oo st);exact fin (oo:=oo) he hcs (.inr trivial) hsz hB (fun ad D7=>let ⟨o',q,g,_⟩:=hown hb hB ad D7;⟨o',.inr ⟨⟨q,g⟩,trivial⟩⟩) (hown hb hB) hka p2 Ho yj hsrc hfit.2 hk2
        ·exact hk2.elim
       ·exact hk.elim
      ·exact hk.elim
     ·split at hk
      ·rename_i z' aI cj Qk
       split at hk
       ·rename_i AN
        have AN:=eB AN;subst AN;have hk2:(match fits (rows.length+aI.length) (C.tt e).bytes with|true=>K (pK d ⟨dp,z,rows++aI⟩ cj)|false=> .fail:Ev R).holds cf lp Q:=hk;clear hk
        split at hk2
        ·rename_i hfit
         exact JJ hT h ho hd gx he hcs hb hsz SB OT Qj Qk hfit hk2
        ·exact hk2.elim
       ·exact hk.elim
      split at hk
      ·rename_i z' aI WN
       split at hk
       ·rename_i AN
        have AN:=eB AN;subst AN;have hk2:(match fits (rows.length+aI.length) (C.tt e).bytes with|true=>K (pK d ⟨false,z,rows++aI⟩ (jw oo st))|false=> .fail:Ev R).holds cf lp Q:=hk;clear hk
        split at hk2
        ·rename_i hfit
         obtain⟨hz,hka,wq,X1,Z1,Ad,c,hB⟩:=yU h OT hb (M:= .snap) (.inl rfl);obtain⟨sU,p2,Ho,yj,hsrc⟩:=Po h Qj SB WN (jw oo st);exact fin (oo:=oo) (dp:=false) he hcs (.inr trivial) hsz ⟨hB.val,hB.parts,hB.width,hB.len,hB.le,hB.max,hB.at'⟩ (fun ad D7=>let ⟨o',q,g,_⟩:=hown hb hB ad D7;⟨o',.inr ⟨⟨q,g⟩,trivial⟩⟩) (hown hb hB) hka p2 Ho yj hsrc hfit hk2
        ·exact hk2.elim
       ·exact hk.elim
      split at hk
      ·rename_i z' aI cj d1 hab
       split at hk
       ·rename_i AN
        have AN:=eB AN;subst AN;have hk2:(match fits (rows.length+aI.length) (C.tt e).bytes with|true=>K (pK d ⟨dp&&d1,z,rows++aI⟩ cj)|false=> .fail:Ev R).holds cf lp Q:=hk;clear hk
        split at hk2
        ·rename_i hfit
         obtain⟨hz,hka,wq,X1,Z1,Ad,c,hB⟩:=yU h OT hb (M:=if(dp&&d1) then .deep else .snap) (by cases dp<;>cases d1<;>simp);obtain⟨Hu,sU,X2,Z2,p2,Ho,yj,hsrc⟩:=Pn hka hB.parts.sub Qj SB hab (M:=if(dp&&d1) then .deep else .snap) (by cases dp<;>cases d1<;>simp);exact fin (oo:=oo) (dp:=dp&&d1) he hcs (.inr trivial) hsz ⟨hB.val,hB.parts,hB.width,hB.len,hB.le,hB.max,hB.at'⟩ (fun ad D7=>let ⟨o',q,g,_⟩:=hown hb hB ad D7;⟨o',.inr ⟨⟨q,g⟩,trivial⟩⟩) (hown hb hB) Hu p2 Ho yj hsrc hfit hk2
        ·exact hk2.elim
       ·exact hk.elim
      ·exact hk.elim
   ·exact hk.elim
  ·exact hk.elim
 ·exact hk.elim
end Go.T
namespace Go.T
variable {F : Nat → Prop} {A : Arg} {w0 w w' : World} {φ φ' φ1 : Fp} {st st' sta cj : TS} {tm xA : Array Value} {C : g6}
variable {R : Type} {cf : Cf} {lp : Lp} {Q : R → Prop}
theorem AY {P:Program} {e:TypeId} {z:Nat} {i:TypeInfo} (h:P.info? e=some i) (hz:i.size=z) (w:World):(sizeOf e).run P w= .ok z w:=by
 simp[sizeOf,typeInfo,h,hz]
theorem Pp {R S:Nat→Prop} {m:Mode} {z:Nat} {rows:List (List TC)} {v:Value} (h:ah w R m S (.sub z rows) v): ∃A c,v= .slice A rows.length c∧(rows≠[]→ ∃ad,A=some ad):=by
 cases h with
 |sub _ _ _ _ A c u T k hn=>exact⟨A,c,rfl,k.addr⟩
def Nn (v:Value):CV:=⟨.sc v,v,fun _=>False⟩
attribute [local semireducible] jF in
theorem p8 (rows aI:List (List TC)):jF rows aI=aI.take rows.length++rows.drop aI.length:=rfl
theorem Pq (hT:dF C) {a:Act} (h:aG F A w0 φ st a.tmps w) {o:Oper} {args:Array Operand} {ts:Array TypeId} (ho:o.op= .call {callee:= .builtin .copy,args,argTypes:=ts}) {K:TS→Ev R} (hd: ∀d,o.dst=some d→d<a.tmps.size) (hk:(jH C st o K).holds cf lp Q):
 Jc C F A w0 φ st o a w K cf lp Q:=by
 unfold jH at hk;rw[ho] at hk;simp only at hk
 split at hk
 ·rename_i s x t t' h1 h2
  have e1:args= #[s,x]:=by cases args;simp at h1;subst h1;rfl
  have e2:ts= #[t,t']:=by cases ts;simp at h2;subst h2;rfl
  subst e1 e2;have Vm:=cC hT h t s;have Sz:=cC hT h t' x;unfold Qz at hk
  split at hk
  ·rename_i e r cx he hcs Vn
   obtain⟨Jd,OT⟩:=pY Vm hcs;obtain⟨_,Qj⟩:=pY Sz Vn
   split at hk
   ·rename_i z rows z' aI hl hr Hs
    split at hk
    ·rename_i AN
     simp only[cL] at AN;have hz1:=eB AN.1;have WO:=eB AN.2;subst hz1
     have hk2:(match bN aI with
      |true=>(match o.dst with
       |some d=>K ((nD r ⟨true,z,jF rows aI⟩ st).set d (one (.sc (.int .i64 (Int.ofNat (qS aI.length rows.length))))))
       |none=>K (nD r ⟨true,z,jF rows aI⟩ st))
      |false=> .fail:Ev R).holds cf lp Q:=hk
     clear hk
     split at hk2
     ·rename_i hsc
      have hin:av st.ob r:=⟨_,hl⟩;obtain⟨b0,hb0,Q3⟩:=OT;rw[hl] at hb0
      cases hb0
      have Q3:a.eval s=φ.V r:=Q3;have hO:ah w φ.I .deep (φ.S r) (.sub z rows) (φ.V r):=h.obj r _ hl;obtain⟨Ad,c,bW,op⟩:=hO.opened;obtain⟨qL,_⟩:=lH h Qj hr;obtain⟨vs,l1,rZ,hz,hcell,Lo⟩:=qL.vals;obtain⟨A',c',hxval,WQ⟩:=Pp qL;obtain⟨hkn,hnp⟩:=q9 Hs;obtain⟨i,zv,g1,g2,_⟩:=(hT e hkn).info
      have isz:i.size=z:=by rw[g2,WO]
      have hU:=(oG hT he).1
      have lits:bW.length=rows.length*z:=by
       have:=congrArg List.length op.tcs;rw[bF op.width,ck] at this;exact this.symm
      obtain⟨us,OA⟩: ∃us,us=vs.take (rows.length*z):=⟨_,rfl⟩
      have lus:us.length=qS aI.length rows.length*z:=by
       rw[OA,eY,l1];rcases Nat.le_total aI.length rows.length with hle|hle
       ·have:=lF z hle
        rw[show qS aI.length rows.length=aI.length from Nat.min_eq_left hle];omega
       ·have:=lF z hle
        rw[show qS aI.length rows.length=rows.length from Nat.min_eq_right hle];omega
      have usS: ∀v∈vs,Bj v:=fun v hv=>by
       obtain⟨j,hj,rfl⟩:=List.mem_iff_getElem.1 hv;obtain⟨tc,Qh⟩: ∃tc,aI.flatten[j]?=some tc:=⟨_,aX (by rw[bF rZ,←l1];exact hj)⟩;obtain⟨T,hT⟩:=Lo j tc _ Qh (aX hj);obtain⟨v',rfl⟩:=CW hsc j tc Qh
       cases hT with
       |sc _ _ _ hs=>exact hs
      have tcV:aI.flatten=vs.map .sc:=by
       apply List.ext_getElem
       ·rw[bF rZ,ck,l1]
       ·intro j h1 h2
        rw[List.getElem_map];have Qh:aI.flatten[j]?=some aI.flatten[j]:=aX h1
        have hj':j<vs.length:=by rw[ck] at h2;exact h2
        have hvs:vs[j]?=some vs[j]:=aX hj';obtain⟨T,hT⟩:=Lo j _ _ Qh hvs;obtain⟨v',Km⟩:=CW hsc j _ Qh;rw[Km] at hT ⊢
        cases hT with
        |sc _ _ _ hs=>rfl
      have one1: ∀v∈us,v.oneCell'=true:=fun v hv=>by
       have:=usS v (by rw[OA] at hv;exact qR hv)
       cases v<;>first|rfl|cases this
      have OG: ∀W:World,(∀x,W.cell? x=w.cell? x)→(Builtin.firstCells z (qS aI.length rows.length) (.slice A' aI.length c')).run C.P W= .ok us.toArray W:=fun W hW=>by
       by_cases hne:aI=[]
       ·have h0:us=[]:=uT (by rw[lus,hne];simp)
        subst h0;subst hne
        cases A' with
        |none=>simp[Builtin.firstCells]
        |some ad=>exact run_firstCells_some W z _ ad _ c' [] dM (fun j v hj=>by simp at hj)
       ·obtain⟨ad,rfl⟩:=WQ hne
        refine run_firstCells_some W z _ ad _ c' us lus fun j v hj=> ?_;rw[hW];refine hcell ad _ _ hxval j v ?_;rw[OA,AQ] at hj
        split at hj
        ·exact hj
        ·cases hj
      have Ql:(jF rows aI).length=rows.length:=by
       rw[p8,cr,eY,jE];omega
      have fin: ∀w',(Builtin.copy_ #[t,t'] o.type #[a.eval s,a.eval x]).run C.P w= .ok (goInt (qS aI.length rows.length)) w'→aG F A w0 (φ.add r (φ.S r) (φ.V r)) (nD r ⟨true,z,jF rows aI⟩ st) a.tmps w'→w.heap.size≤w'.heap.size→(∀k,k<w.heap.size→ ¬φ.S r k→w'.heap[k]?=w.heap[k]?)→Jc C F A w0 φ st o a w K cf lp Q:=fun w' hrun pH hsz hfr=>by
       have run:(execOp a.eval o).run C.P w= .ok (.value (goInt (qS aI.length rows.length))) w':=by
        rw[ni ho];simp only[builtin,Sem.run_bind]
        have:(#[s,x].map a.eval)= #[a.eval s,a.eval x]:=by simp
        rw[this,hrun]
        rfl
       have wr: ∀k,k<w.heap.size→ ¬Wr st φ (writes C st o) k→w'.heap[k]?=w.heap[k]?:=fun k hk hn=>hfr k hk fun hS=>hn (.inr ⟨r,by
        unfold writes;rw[ho];simp only;refine List.mem_map.2 ⟨r,?_,rfl⟩
        revert hcs
        cases lU C st t s with
        |v tup es=>
         unfold pJ
         split
         ·rename_i e0 e1
          intro g1
          cases g1
          simp only[TE.v.injEq] at e1;obtain⟨rfl,rfl⟩:=e1;exact .head _
         ·intro g1;cases g1
         ·intro g1;cases g1
        |_=>intro g1;simp[pJ] at g1,hin,hS⟩)
       cases gx:o.dst with
       |none=>
        rw[gx] at hk2;exact⟨_,goInt (qS aI.length rows.length),w',_,run,.inl rfl,by rw[gx];exact⟨_,pH⟩,hk2,hsz,wr⟩
       |some d=>
        rw[gx] at hk2;refine⟨_,goInt (qS aI.length rows.length),w',_,run,.inl rfl,?_,hk2,hsz,wr⟩;rw[gx];exact⟨_,pH.Ef (v:=goInt (qS aI.length rows.length)) (hd d gx) ⟨_,rfl,_,rfl,rfl,rfl,trivial⟩⟩
      have hX:=fun k hk=>h.sep.fresh r k hin hk
      cases D7:Ad with
      |none=>
       have hc0:=op.none D7;have hle:=op.le;have R5:rows=[]:=uT aA
       have OU:jF rows aI=rows:=by rw[p8,R5];simp
       refine fin w ?_ ?_ (bT _) fun _ _ _=>rfl
       ·rw[Q3,op.val,D7,hxval]
        simp only[Builtin.copy_,Builtin.lenOf];simp[run_underlying hU,AY g1 isz,OG w fun _=>rfl]
       ·refine h.nD hl rfl Ql ?_ h.frm (bT _) (fun _ _ _=>rfl) hX (fun k hk=>h.sep.read r k hin hk) (fun k d hk hne hd hs=>hne (h.sep.apart d r k hd hin hs hk)) (fun b cs AM hw hk=>(h.sep.box b cs AM hw).2.1 r hin hk)
        show ah w φ.I .deep (φ.S r) (.sub z (jF rows aI)) (φ.V r);rw[OU];exact hO
      |some ad=>
       obtain⟨TF,hsp,⟨sp,Hu,TG⟩,hfz,V0⟩:=op.row ad D7;obtain⟨b,off,spot⟩:=ad
       cases hsp
       simp only at Hu TG hfz V0 TF;have hle:=op.le;have elc:=lF z hle
       have lmin:us.length≤rows.length*z:=by rw[lus];exact lF z (Nat.min_le_right _ _)
       have lL:(bW.map (·.val)++sp).length=c*z:=TG;have hst:=run_storeCells_cells (P:=C.P) b off us 0 w (fun j hj=>by rw[nR,Hu j _ (aX aA)];rfl) (fun j hj=>by rw[nR];exact hfz j aA) one1;rw[nR] at hst;have r2:=Hu.put (p:=0) (us:=us) aA;rw[nR,List.take_zero,pM,g7] at r2
       have hnew:xM (w.setCells b off us) (φ.S r) z (jF rows aI) (φ.V r) Ad c (us.map Nn++bW.drop (aI.length*z)):=by
        have Q6:(us.map Nn++bW.drop (aI.length*z)).map (·.val)=us++(bW.map (·.val)).drop (aI.length*z):=by
         rw[yt,List.map_map,E5]
         congr 1
         have:((fun t:CV=>t.val)∘Nn)=id:=rfl;rw[this,List.map_id]
        have Ja:(bW.map (·.val)++sp).drop us.length=(bW.map (·.val)).drop (aI.length*z)++sp:=by
         rcases Nat.le_total aI.length rows.length with hq|hq
         ·have:=lF z hq
          rw[lus,show qS aI.length rows.length=aI.length from Nat.min_eq_left hq,List.drop_append_of_le_length (by rw[ck];omega)]
         ·have:=lF z hq
          rw[lus,show qS aI.length rows.length=rows.length from Nat.min_eq_right hq,List.drop_append_of_le_length (by rw[ck];omega),yq (by rw[ck];omega),yq (by rw[ck];omega)]
        refine⟨by rw[Ql];exact op.val,by rw[Ql];exact op.le,op.cap,op.z0,fun q hq=> ?_,?_,fun t ht=> ?_,?_,fun t ht k hk=> ?_,op.none,fun ad e=> ?_⟩
        ·rw[p8] at hq
         rcases List.mem_append.1 hq with hq|hq
         ·exact rZ q (qR hq)
         ·exact op.width q (qQ hq)
        ·rw[p8,Kr,sr rZ,su op.width,op.tcs,tcV,←Hy,←OA,yt,List.map_map,E5]
         rfl
        ·rcases List.mem_append.1 ht with ht|ht
         ·obtain⟨v,hv,rfl⟩:=List.mem_map.1 ht
          exact .sc _ _ _ (usS v (by rw[OA] at hv;exact qR hv))
         ·have hm:=qQ ht
          refine(op.ok t hm).move (fun k hk=>hk.elim) fun _ k hk=> ?_;have hs:=op.sub t hm k hk;exact dj _ _ _ _ (hX k hs.1).1 (hs.2 _ D7)
        ·refine List.pairwise_append.2 ⟨?_,(op.kj.sublist (List.drop_sublist _ _)),fun x hx y hy k hk=> ?_⟩
         ·rw[List.pairwise_map]
          exact List.pairwise_of_forall fun _ _ k hk=>hk.elim
         ·obtain⟨v,hv,rfl⟩:=List.mem_map.1 hx
          exact hk.elim
        ·rcases List.mem_append.1 ht with ht|ht
         ·obtain⟨v,hv,rfl⟩:=List.mem_map.1 ht
          exact hk.elim
         ·exact op.sub t (qQ ht) k hk
        ·rw[D7] at e
         cases e
         refine⟨TF,rfl,⟨sp,?_,?_⟩,fun j hj=> ?_,fun hz1 j=> ?_⟩
         ·rw[Q6,w5,←Ja];exact r2
         ·rw[Q6,w5,←Ja,cr,jE];omega
         ·rw[show(w.setCells b off us).frozen? ⟨b,off+j,none⟩=w.frozen? ⟨b,off+j,none⟩ from World.frozen?_setCells b us off w _];exact hfz j hj
         ·rw[show(w.setCells b off us).frozen? ⟨b,j,none⟩=w.frozen? ⟨b,j,none⟩ from World.frozen?_setCells b us off w _];exact V0 hz1 j
       have hsz:=(iG b us off w).2.2.2;refine fin (w.setCells b off us) ?_ ?_ (by rw[hsz];exact bT _) fun k hk hn=>dj _ _ _ _ hk fun e=>hn (by rw[e];exact TF)
       ·rw[Q3,op.val,D7,hxval]
        simp only[Builtin.copy_,Builtin.lenOf];simp[run_underlying hU,AY g1 isz,OG w fun _=>rfl,hst]
       ·refine h.nD hl rfl Ql hnew.rep (h.frm.setCells (hX b TF).2) (by rw[hsz];exact bT _) (fun k hk hn=>dj _ _ _ _ hk fun e=>hn (by rw[e];exact TF)) (fun k hk=>by rw[hsz];exact hX k hk) (fun k hk=>h.sep.read r k hin hk) (fun k d hk hne hd hs=>hne (h.sep.apart d r k hd hin hs hk)) (fun b' cs AM hw hk=>(h.sep.box b' cs AM hw).2.1 r hin hk)
     ·exact hk2.elim
    ·exact hk.elim
   ·exact hk.elim
  ·exact hk.elim
 ·exact hk.elim
end Go.T
