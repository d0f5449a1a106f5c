import Derived.Test.YtlkjkfidmkdchaaT2
import Derived.Deep.AppendSrc
import Derived.Deep.MidRow
import Derived.Deep.Upon
import Derived.Laws.MakeOwn
import Derived.Laws.IdiomStrings
import Derived.Laws.IdiomCopy
set_option linter.all false
namespace Go.T
variable {F : Nat → Prop} {A : Arg} {w0 w w' : World} {φ φ' : Fp} {st st' bD gf : TS} {tm r9 : Array Value} {C : eZ}
theorem iV: ∀(W:List (Nat×OB)) (ob:List (Nat×OB)) (d:Nat),aa d (dM W ob)=match aa d W with|some b=>some b|none=>aa d ob
 |[],ob,d=>rfl
 |(i,b)::r,ob,d=>by
  simp only[dM,bX,aa,iV r ob d]
  by_cases h:d=i
  ·subst h;simp
  ·rw[aD h,beq_false (Ne.symm h)]
theorem Av {α:Type}: ∀{W:List (Nat×α)} {d:Nat},d∈ji W↔ ∃b,aa d W=some b
 |[],d=>by simp[ji,aa]
 |(i,b)::r,d=>by
  simp only[ji,bC,Av (W:=r),aa]
  by_cases h:d=i
  ·subst h;simp
  ·rw[beq_false (Ne.symm h)];simp[h]
theorem uX {α:Type} {W:List (Nat×α)} {d:Nat} (h:d∉ji W):aa d W=none:=by
 cases hd:aa d W with
 |none=>rfl
 |some b=>exact absurd (Av.2 ⟨b,hd⟩) h
theorem sr {a l:List Nat} (h:jY a l=true): ∃x,x∈a∧x∈l:=by
 induction a with
 |nil=>cases h
 |cons y r ih=>
  simp only[jY] at h
  cases h1:ei y l with
  |true=>exact⟨y,.head _,dN.1 h1⟩
  |false=>rw[h1] at h;obtain⟨x,a,b⟩:=ih h;exact⟨x,.tail _ a,b⟩
def Fp.wr (φ:Fp) (W:List (Nat×OB)) (X:Nat→Nat→Prop) (Z:Nat→Prop):Fp:=
 {φ with I:=fun k=>φ.I k∨Z k,S:=fun d k=>match aa d W with|some _=>X d k|none=>φ.S d k}
theorem zE {W:List (Nat×OB)} {X:Nat→Nat→Prop} {Z:Nat→Prop} {d k:Nat} (h:aa d W=none):(φ.wr W X Z).S d k=φ.S d k:=by
 unfold Fp.wr;simp only[h]
theorem CR {W:List (Nat×OB)} {X:Nat→Nat→Prop} {Z:Nat→Prop} {d k:Nat} {b:OB} (h:aa d W=some b):(φ.wr W X Z).S d k=X d k:=by
 unfold Fp.wr;simp only[h]
theorem an.wrote (h:an F A w0 φ st tm w) (W:List (Nat×OB)) (X:Nat→Nat→Prop) (Z G:Nat→Prop)
 (hf:EO F w0 w') (hsz:w.heap.size≤w'.heap.size) (hw: ∀k,k<w.heap.size→ ¬G k→w'.heap[k]?=w.heap[k]?)
 (gF: ∀k,G k→w0.heap.size≤k∨F k) (gI: ∀k,G k→ ¬φ.I k) (gS: ∀k o,G k→aj st.ob o→aa o W=none→ ¬φ.S o k) (gB: ∀b cs,aa b st.bx=some cs→ ¬G (φ.β b).block)
 (hW: ∀o b',aa o W=some b'→ ∃b,aa o st.ob=some b∧b'.z=b.z∧b'.rows.length=b.rows.length∧ah w' (fun k=>φ.I k∨Z k) b'.m (X o) (.sub b'.z b'.rows) (φ.V o)∧
   ∀k,X o k→k<w'.heap.size∧(w0.heap.size≤k∨F k)∧ ¬φ.I k∧ ¬Z k∧(∀d,aj st.ob d→aa d W=none→ ¬φ.S d k)∧(∀d b,aa d W=some b→X d k→d=o)∧ ∀b cs,aa b st.bx=some cs→ng b=true→(φ.β b).block≠k)
 (hZ: ∀k,Z k→k<w'.heap.size∧(w0.heap.size≤k∨F k∨A.sh k)∧(∀d,aj st.ob d→aa d W=none→ ¬φ.S d k)∧ ∀b cs,aa b st.bx=some cs→ng b=true→(φ.β b).block≠k):
 an F A w0 (φ.wr W X Z) (jR W st) tm w':=by
 have gM: ∀d,aj (dM W st.ob) d↔aj st.ob d:=fun d=>by
  unfold aj;rw[iV]
  cases hd:aa d W with
  |none=>rfl
  |some b=>obtain⟨b0,h0,_⟩:=hW d b hd;exact⟨fun _=>⟨b0,h0⟩,fun _=>⟨b,rfl⟩⟩
 have gA: ∀k,G k→ ¬A.all k:=fun k hg ha=>by
  have:=h.sep.fA k ha;rcases gF k hg with h3|h3
  ·omega
  ·exact this.2 h3
 have stI: ∀k,φ.I k→w'.heap[k]?=w.heap[k]?:=fun k hk=>hw k (h.sep.ro k hk).1 fun hg=>gI k hg hk
 have stS: ∀d k,aa d W=none→d=0∨aj st.ob d→φ.S d k→w'.heap[k]?=w.heap[k]?:=fun d k hn hd hk=>hw k (h.sep.lt h.frm.size hd hk) fun hg=>by
  rcases hd with rfl|hd
  ·rw[h.sep.arg] at hk;exact gA k hg hk
  ·exact gS k d hg hd hn hk
 have w0n:aa 0 W=none:=by
  cases h0:aa 0 W with
  |none=>rfl
  |some b=>obtain⟨b0,h1,_⟩:=hW 0 b h0;exact absurd rfl (h.sep.nz 0 ⟨b0,h1⟩)
 have stR: ∀ds k,(∀d∈ds,aa d W=none)→(∀d∈ds,d=0∨aj st.ob d)→rd φ ds k→rd (φ.wr W X Z) ds k∧w'.heap[k]?=w.heap[k]?:=fun ds k hn hd hk=>by
  rcases hk with hk|⟨d,hm,hk⟩
  ·exact⟨.inl (.inl hk),stI k hk⟩
  ·exact⟨.inr ⟨d,hm,by rw[zE (hn d hm)];exact hk⟩,stS d k (hn d hm) (hd d hm) hk⟩
 have stV: ∀p b1 ad n c i f tc u,aa p W=none→aa p st.ob=some b1→φ.V p= .slice (some ad) n c→lW b1.rows i f=some tc→w.cell? (ad.add (i*b1.z+f))=some u→w'.cell? (ad.add (i*b1.z+f))=some u:=by
  intro p b1 ad n c i f tc u hne hp hv ht hcell;have hO:=h.obj p b1 hp;unfold fE at hO;rw[hv] at hO
  have hS:φ.S p ad.block:=by
   cases hO with
   |sub _ _ _ _ _ _ u T k hn=>exact(k.own (by unfold OB.m;split<;>simp)).2 ad rfl|>.1
  rw[ck (w:=w)]
  ·exact hcell
  ·rw[aP];exact stS p _ hne (.inr ⟨b1,hp⟩) hS
 have cbox: ∀p cs,aa p st.bx=some cs→w'.heap[(φ.β p).block]?=w.heap[(φ.β p).block]?:=fun p cs hp=>hw _ (h.sep.spot p cs hp).2.1 (gB p cs hp)
 have look1: ∀{d b},aa d st.ob=some b→ ∃b',aa d (dM W st.ob)=some b'∧b'.z=b.z∧b'.rows.length=b.rows.length∧(aa d W=none→b'=b):=fun {d b} hb=>by
  rw[iV]
  cases hd:aa d W with
  |none=>exact⟨b,hb,rfl,rfl,fun _=>rfl⟩
  |some b'=>
   obtain⟨b0,h0,h1,h2,_⟩:=hW d b' hd;rw[hb] at h0;cases h0;exact⟨b',rfl,h1,h2,fun e=>by cases e⟩
 have obj: ∀o b,aa o (dM W st.ob)=some b→fE w' (φ.wr W X Z) o b:=fun o b ho=>by
  rw[iV] at ho;unfold fE
  cases hd:aa o W with
  |none=>
   rw[hd] at ho;refine(ah.mono ((h.obj o b ho).move (fun k hk=>⟨.inl hk,stI k hk⟩) fun _ k hk=>stS o k hd (.inr ⟨b,ho⟩) hk) fun k hk=> ?_);rw[zE hd];exact hk
  |some b'=>
   rw[hd] at ho
   cases ho
   obtain⟨b0,h0,h1,h2,h3,_⟩:=hW o _ hd;refine ah.mono h3 fun k hk=> ?_;rw[CR hd];exact hk
 have hce: ∀e v,bh st.ob w φ e v→bh (dM W st.ob) w' (φ.wr W X Z) (qX (ji W) e) v:=fun e v he=>by
  cases e with
  |ref p cut=>
   obtain⟨b1,h1,h2⟩:=he;obtain⟨b',g1,g2,g3,_⟩:=look1 h1;refine⟨b',g1,?_⟩
   cases cut with
   |none=>exact h2
   |some q=>obtain⟨l,r⟩:=q;simp only at h2 ⊢;rw[g2,g3];exact h2
  |snap ds loc z rows=>
   simp only[qX]
   cases hd:jY ds (ji W) with
   |true=>trivial
   |false=>
    have hn: ∀d∈ds,aa d W=none:=fun d hm=>uX (iE hd hm);obtain⟨h1,h2,h3⟩:=he;refine⟨fun d hm=>(h1 d hm).imp id (gM d).2,h2.move (fun k hk=>stR ds k hn h1 hk) (fun hm=>absurd rfl hm),fun p i f hl=> ?_⟩;obtain⟨a1,b1,a2,a3,a4,ad,n,c,a5,a6⟩:=h3 p i f hl;obtain⟨b',g1,_,_,g4⟩:=look1 a2;have:=g4 (hn p a1);subst this;exact⟨a1,_,g1,a3,a4,ad,n,c,a5,stV p _ ad n c _ _ _ _ (hn p a1) a2 a5 a4 a6⟩
  |_=>exact he
 have vK: ∀e v,(∀t es,e≠ .v t es)→aV st.ob w φ e v→aV (dM W st.ob) w' (φ.wr W X Z) (nW (ji W) e) v:=fun e v hv he=>by
  cases e with
  |v t es=>exact absurd rfl (hv t es)
  |ep ds cells=>
   simp only[nW]
   cases hd:jY ds (ji W) with
   |true=>trivial
   |false=>
    have hn: ∀d∈ds,aa d W=none:=fun d hm=>uX (iE hd hm);obtain⟨h1,ad,h2,hr,h3⟩:=he;refine⟨fun d hm=>(h1 d hm).imp id (gM d).2,ad,h2,fun hc=>(stR ds _ hn h1 (hr hc)).1,fun j tc hj=> ?_⟩;obtain⟨u,h4,h5⟩:=h3 j tc hj
    have hc:cells≠[]:=fun e=>by rw[e] at hj;simp at hj
    exact⟨u,by rw[ck (w:=w) (by rw[aP];exact(stR ds _ hn h1 (hr hc)).2)];exact h4,h5.move (fun k hk=>stR ds k hn h1 hk) (fun hm=>absurd rfl hm)⟩
  |er p path i f=>
   obtain⟨b1,h1,h2,ad,n,c,h3,h4⟩:=he;obtain⟨b',g1,g2,g3,g4⟩:=look1 h1
   cases path with
   |none=>exact⟨b',g1,h2,ad,n,c,h3,by simp only at h4 ⊢;rw[g2];exact h4⟩
   |some q=>
    obtain⟨i0,f0⟩:=q;simp only[nW]
    cases hd:ei p (ji W) with
    |true=>trivial
    |false=>
     have hn:=uX (bI.1 hd);have:=g4 hn;subst this;obtain⟨a1,z1,g9,a2,ad1,n1,c1,a3,a4⟩:=h4;exact⟨_,g1,h2,ad,n,c,h3,a1,z1,g9,a2,ad1,n1,c1,stV p _ ad n c _ _ _ _ hn h1 h3 a2 a3,a4⟩
  |_=>exact he
 have hsep: ∀bx',(∀b cs',aa b bx'=some cs'→ ∃cs,aa b st.bx=some cs∧cs'.length=cs.length)→Sep F A w0 w' (φ.wr W X Z) bx' (dM W st.ob):=fun bx' vL=>by
  have hs:=h.sep.boxes vL
  exact {
   arg:=by
    funext k
    rw[zE w0n,h.sep.arg]
   nz:=fun d hd=>h.sep.nz d ((gM d).1 hd)
   apart:=fun d d' k h1 h2 h3 h4=>by
    have i1:=(gM d).1 h1;have i2:=(gM d').1 h2
    cases e1:aa d W with
    |some b=>
     rw[CR e1] at h3;obtain⟨_,_,_,_,_,hx⟩:=hW d b e1;obtain⟨_,_,_,_,x5,x6,_⟩:=hx k h3
     cases e2:aa d' W with
     |some b'=>rw[CR e2] at h4;exact(x6 d' b' e2 h4).symm
     |none=>rw[zE e2] at h4;exact absurd h4 (x5 d' i2 e2)
    |none=>
     rw[zE e1] at h3
     cases e2:aa d' W with
     |some b'=>
      rw[CR e2] at h4;obtain⟨_,_,_,_,_,hx⟩:=hW d' b' e2;exact absurd h3 ((hx k h4).2.2.2.2.1 d i1 e1)
     |none=>rw[zE e2] at h4;exact h.sep.apart d d' k i1 i2 h3 h4
   read:=fun d k hd hk=>by
    have hd:=(gM d).1 hd
    cases e1:aa d W with
    |some b=>
     rw[CR e1] at hk;obtain⟨_,_,_,_,_,hx⟩:=hW d b e1;obtain⟨_,_,x3,x4,_⟩:=hx k hk;exact fun hi=>hi.elim x3 x4
    |none=>
     rw[zE e1] at hk;exact fun hi=>hi.elim (h.sep.read d k hd hk) fun hz=>(hZ k hz).2.2.1 d hd e1 hk
   fresh:=fun d k hd hk=>by
    have hd:=(gM d).1 hd
    cases e1:aa d W with
    |some b=>
     rw[CR e1] at hk;obtain⟨_,_,_,_,_,hx⟩:=hW d b e1;exact⟨(hx k hk).1,(hx k hk).2.1⟩
    |none=>
     rw[zE e1] at hk;exact⟨dD (h.sep.fresh d k hd hk).1 hsz,(h.sep.fresh d k hd hk).2⟩
   ro:=fun k hk=>hk.elim (fun hk=>⟨dD (h.sep.ro k hk).1 hsz,(h.sep.ro k hk).2⟩) fun hz=>⟨(hZ k hz).1,(hZ k hz).2.1⟩
   fA:=h.sep.fA
   box:=fun p cs hp rI=>by
    obtain⟨cs0,c1,_⟩:=vL p cs hp;obtain⟨a1,a2,a3,a4⟩:=hs.box p cs hp rI;refine⟨fun hi=>hi.elim a1 fun hz=>(hZ _ hz).2.2.2 p cs0 c1 rI rfl,fun d hd hk=> ?_,a3,a4⟩;have hd:=(gM d).1 hd
    cases e1:aa d W with
    |some b=>
     rw[CR e1] at hk;obtain⟨_,_,_,_,_,hx⟩:=hW d b e1;exact(hx _ hk).2.2.2.2.2.2 p cs0 c1 rI rfl
    |none=>rw[zE e1] at hk;exact a2 d hd hk
   spot:=fun p cs hp=>⟨(hs.spot p cs hp).1,dD (hs.spot p cs hp).2.1 hsz,(hs.spot p cs hp).2.2⟩
   soft:=fun p cs j hp rI hj=>by
    obtain⟨cs0,c1,c2⟩:=vL p cs hp;rw[ek (w:=w) (by rw[aP];exact cbox p cs0 c1)]
    exact h.sep.soft p cs0 j c1 rI aB}
 have vL: ∀b cs,aa b st.bx=some cs→ ∀j,j<cs.length→w'.cell? ((φ.β b).add j)=w.cell? ((φ.β b).add j):=fun p cs hp j _=>ck (by rw[aP];exact cbox p cs hp)
 cases W with
 |nil=>
  have:=h.sn (f:=id) (g:=id) (k:=id) (φ':=φ.wr [] X Z) rfl rfl (fun e v he=> ?_) (fun e v hv he=> ?_) vL obj (by rw[uU];exact hsep st.bx fun b cs hb=>⟨cs,hb,rfl⟩) hf
  ·rw[kT] at this;exact this
  ·have:=hce e v he
   have e1:qX (ji ([]:List (Nat×OB))) e=e:=by
    cases e with
    |snap ds l z rows=>simp only[qX];cases hd:jY ds (ji ([]:List (Nat×OB))) with
     |true=>obtain⟨x,_,hx⟩:=sr hd;cases hx
     |false=>rfl
    |_=>rfl
   rw[e1] at this;exact this
  ·have:=vK e v hv he
   have e1:nW (ji ([]:List (Nat×OB))) e=e:=by
    cases e with
    |ep ds cells=>simp only[nW];cases hd:jY ds (ji ([]:List (Nat×OB))) with
     |true=>obtain⟨x,_,hx⟩:=sr hd;cases hx
     |false=>rfl
    |er p path i f=>cases path<;>rfl
    |_=>rfl
   rw[e1] at this;exact this
 |cons a r=>exact h.sn (f:=qX (ji (a::r))) (g:=nW (ji (a::r))) (k:=dM (a::r)) rfl rfl hce vK vL obj (hsep _ (cP _)) hf
end Go.T
namespace Go.T
variable {F : Nat → Prop} {A : Arg} {w0 w w' : World} {φ φ' : Fp} {st st' bD gf : TS} {tm r9 : Array Value} {C : eZ}
variable {R : Type} {cf : Cf} {lp : Lp} {Q : R → Prop}
theorem FR {ob:List (Nat×OB)} {e:CE} {v:Value} (h:bh ob w φ e v) (hg:e≠ .gone) (hb: ∀o b,aa o ob=some b→fE w φ o b):v.oneCell'=true:=by
 cases e with
 |sc x=>obtain⟨rfl,h⟩:=h;cases v<;>first|rfl|cases h
 |nil z=>obtain⟨rfl,_⟩:=h;rfl
 |ref o cut=>
  obtain⟨b,h1,h2⟩:=h;have:=fE.cut (hb o b h1) h2
  cases this;rfl
 |snap ds l z rows=>have:=h.2.1;cases this;rfl
 |gone=>exact absurd rfl hg
theorem jr {Rd S:Nat→Prop} {m:Mode} {c:TC} {v:Value} (h:ah w Rd m S c v):v.oneCell'=true:=by
 cases h with
 |any _ _ _ h=>exact h.1
 |sc _ _ _ h=>cases v<;>first|rfl|cases h
 |sub=>rfl
theorem fe (b:Nat): ∀(vs:List Value) (o:Nat) (w:World),(w.setCells b o vs).os=w.os∧(w.setCells b o vs).tape=w.tape∧(w.setCells b o vs).output=w.output∧(w.setCells b o vs).heap.size=w.heap.size
 |[],_,_=>⟨rfl,rfl,rfl,rfl⟩
 |v::r,o,w=>by
  obtain⟨h1,h2,h3,h4⟩:=fe b r (o+1) (w.setCell ⟨b,o,none⟩ v);refine⟨h1,h2,h3,?_⟩;rw[World.setCells,h4];simp[World.setCell]
theorem cm (b o:Nat) (vs:List Value) (w:World) {k:Nat} (hk:k<w.heap.size) (hne:k≠b):(w.setCells b o vs).heap[k]?=w.heap[k]?:=World.heap_setCells_other w b o vs hk hne
theorem EO.setCells {b o:Nat} {vs:List Value} (h:EO F w0 w) (hb:w0.heap.size≤b∨F b):EO F w0 (w.setCells b o vs):=by
 obtain⟨h1,h2,h3,h4⟩:=fe b vs o w;refine⟨h1.trans h.os,h2.trans h.tape,h3.trans h.output,by rw[h4];exact h.size,fun k hk hF=> ?_⟩;rw[cm b o vs w (dD hk h.size) (fun e=>by subst e;rcases hb with hb|hb;omega;exact hF hb)];exact h.block k hk hF
def bK (M:Mode):List TC→List Value→List It
 |c::cs,v::vs=>(M,c,v)::bK M cs vs
 |_,_=>[]
theorem fu {M:Mode}: ∀{cs:List TC} {vs:List Value} {i:Nat} {it:It},(bK M cs vs)[i]?=some it→ ∃c v,cs[i]?=some c∧vs[i]?=some v∧it=(M,c,v)
 |[],_,_,_,h=>by simp[bK] at h
 |_::_,[],_,_,h=>by simp[bK] at h
 |c::cs,v::vs,0,it,h=>by simp only[bK,bL,aE] at h;exact⟨c,v,rfl,rfl,h.symm⟩
 |c::cs,v::vs,i+1,it,h=>by
  simp only[bK,jh] at h;obtain⟨c',v',h1,h2,h3⟩:=fu h;exact⟨c',v',by simpa using h1,by simpa using h2,h3⟩
theorem fI {M:Mode}: ∀{cs:List TC} {vs:List Value} {i:Nat} {c:TC} {v:Value},cs[i]?=some c→vs[i]?=some v→(bK M cs vs)[i]?=some (M,c,v)
 |[],_,_,_,_,h,_=>by simp at h
 |_::_,[],_,_,_,_,h=>by simp at h
 |c0::cs,v0::vs,0,c,v,h1,h2=>by
  simp only[bL,aE] at h1 h2;subst h1 h2
  rfl
 |c0::cs,v0::vs,i+1,c,v,h1,h2=>by
  simp only[bK,jh] at h1 h2 ⊢;exact fI h1 h2
theorem dj {M:Mode}: ∀{cs:List TC} {vs:List Value},cs.length=vs.length→(bK M cs vs).length=cs.length
 |[],[],_=>rfl
 |[],_::_,h=>by cases h
 |_::_,[],h=>by cases h
 |c::cs,v::vs,h=>by simp only[bK,dH];rw[dj (cs:=cs) (vs:=vs) (by simpa using h)]
theorem mV {M:Mode}: ∀{cs cs':List TC} {vs vs':List Value},cs.length=vs.length→bK M (cs++cs') (vs++vs')=bK M cs vs++bK M cs' vs'
 |[],_,[],_,_=>rfl
 |[],_,_::_,_,h=>by cases h
 |_::_,_,[],_,h=>by cases h
 |c::cs,cs',v::vs,vs',h=>by
  simp only[sU,bK];rw[mV (cs:=cs) (vs:=vs) (by simpa using h)]
structure eH (w:World) (φ:Fp) (st st':TS) (bq:List It) (X:Nat→Nat→Prop) (Z:Nat→Prop):Prop where
 ok: ∀(i:Nat) (it:It),bq[i]?=some it→ah w (fun k=>φ.I k∨Z k) it.1 (X i) it.2.1 it.2.2
 src: ∀(i k:Nat),i<bq.length→X i k→ ¬Z k∧ ∃o,aj st.ob o∧ ¬aj st'.ob o∧φ.S o k
 srcZ: ∀k,Z k→ ∃o,aj st.ob o∧ ¬aj st'.ob o∧φ.S o k
 apart: ∀(i j k:Nat),i<bq.length→j<bq.length→X i k→X j k→i=j
 sub:bN st' st
theorem eH.nil (st:TS):eH w φ st st [] (fun _ _=>False) (fun _=>False):=⟨fun i it h=>by simp at h,fun i k h=>by simp at h,fun k h=>h.elim,fun i j k h=>by simp at h,bN.refl _⟩
theorem eu.parts (h:an F A w0 φ st tm w) {bq:List It} {os:List Nat} (t:eu w φ st st' bq os): ∃X Z,eH w φ st st' bq X Z:=by
 obtain⟨I,X,hb,hn⟩:=t.Ho h
 have dom: ∀i it o,bq[i]?=some it→os[i]?=some o→o≠0→aj st.ob o∧ ¬aj st'.ob o:=fun i it o hi ho h0=>by
  rcases t.at' i it o hi ho with⟨e,_⟩|⟨hd,hd',_⟩
  ·exact absurd e h0
  ·exact⟨hd,hd'⟩
 have own_S: ∀{m v S k},ya m v S k→S k:=fun {m v S k} hk=>by
  cases m with
  |snap=>exact hk.elim
  |top=>exact hk.1
  |deep=>exact hk
 refine⟨fun i k=> ∃(it:It) (o:Nat),bq[i]?=some it∧os[i]?=some o∧o≠0∧ya it.1 it.2.2 (φ.S o) k,
  fun k=> ∃(i:Nat) (it:It) (o:Nat),bq[i]?=some it∧os[i]?=some o∧o≠0∧φ.S o k∧ ¬ya it.1 it.2.2 (φ.S o) k,⟨fun i it hi=> ?_,fun i k hi hk=> ?_,fun k hk=> ?_,fun i j k hi hj hk hk'=> ?_,t.sub⟩⟩
 ·obtain⟨o,ho⟩: ∃o,os[i]?=some o:=⟨_,aN (by rw[t.len];exact(List.getElem?_eq_some_iff.1 hi).1)⟩
  rcases t.at' i it o hi ho with⟨e,hc⟩|⟨hd,hn,m',hm,Nh,hc⟩
  ·exact(hc.gq fun k hk=> .inl hk).mono fun k hk=>hk.elim
  ·have h0:=h.sep.nz o hd
   exact(hc.out hm Nh (fun k hk=> .inl hk) fun k hk hno=> .inr ⟨i,it,o,hi,ho,h0,hk,hno⟩).mono fun k hk=>⟨it,o,hi,ho,h0,hk⟩
 ·obtain⟨it,o,h1,h2,h0,hk⟩:=hk
  obtain⟨hd,hd'⟩:=dom i it o h1 h2 h0;refine⟨?_,o,hd,hd',own_S hk⟩;rintro⟨i',it',o',g1,g2,g0,g3,g4⟩;have:=h.sep.apart o o' k hd (dom i' it' o' g1 g2 g0).1 (own_S hk) g3;subst this;have:=t.inj i i' o h2 g2 h0;subst this;rw[h1] at g1
  cases g1
  exact g4 hk
 ·obtain⟨i,it,o,h1,h2,h0,hk,_⟩:=hk
  obtain⟨hd,hd'⟩:=dom i it o h1 h2 h0;exact⟨o,hd,hd',hk⟩
 ·obtain⟨it,o,h1,h2,h0,hk⟩:=hk
  obtain⟨it',o',g1,g2,g0,hk'⟩:=hk';have:=h.sep.apart o o' k (dom i it o h1 h2 h0).1 (dom j it' o' g1 g2 g0).1 (own_S hk) (own_S hk');subst this;exact t.inj i j o h2 g2 h0
theorem eH.app (h:an F A w0 φ st tm w) {a b:List It} {Xa Xb:Nat→Nat→Prop} {Za Zb:Nat→Prop} (p:eH w φ st bD a Xa Za) (q:eH w φ bD gf b Xb Zb):
 eH w φ st gf (a++b) (fun i k=>if i<a.length then Xa i k else Xb (i-a.length) k) (fun k=>Za k∨Zb k):=by
 have cross: ∀k,(∃o,aj st.ob o∧ ¬aj bD.ob o∧φ.S o k)→(∃o,aj bD.ob o∧ ¬aj gf.ob o∧φ.S o k)→False:=fun k ⟨o,a1,a2,a3⟩ ⟨o',b1,b2,b3⟩=>by
  have:=h.sep.apart o o' k a1 (p.sub.dom b1) a3 b3;subst this;exact a2 b1
 have upa: ∀{k},(∃o,aj st.ob o∧ ¬aj bD.ob o∧φ.S o k)→ ∃o,aj st.ob o∧ ¬aj gf.ob o∧φ.S o k:=fun⟨o,a1,a2,a3⟩=>⟨o,a1,fun hd=>a2 (q.sub.dom hd),a3⟩;have upb: ∀{k},(∃o,aj bD.ob o∧ ¬aj gf.ob o∧φ.S o k)→ ∃o,aj st.ob o∧ ¬aj gf.ob o∧φ.S o k:=fun⟨o,a1,a2,a3⟩=>⟨o,p.sub.dom a1,a2,a3⟩;refine⟨fun i it hi=> ?_,fun i k hi hk=> ?_,fun k hk=> ?_,fun i j k hi hj hk hk'=> ?_,q.sub.trans p.sub⟩
 ·by_cases hl:i<a.length
  ·rw[e8 hl] at hi
   simp only[aO hl];exact(p.ok i it hi).gq fun k hk=>hk.imp id .inl
  ·rw[fU aB] at hi
   simp only[aD hl];exact(q.ok _ it hi).gq fun k hk=>hk.imp id .inr
 ·by_cases hl:i<a.length
  ·simp only[aO hl] at hk
   obtain⟨h1,h2⟩:=p.src i k hl hk;exact⟨fun hz=>hz.elim h1 fun hb=>cross k h2 (q.srcZ k hb),upa h2⟩
  ·simp only[aD hl] at hk
   obtain⟨h1,h2⟩:=q.src _ k (by simp at hi;omega) hk;exact⟨fun hz=>hz.elim (fun ha=>cross k (p.srcZ k ha) h2) h1,upb h2⟩
 ·exact hk.elim (fun h=>upa (p.srcZ k h)) fun h=>upb (q.srcZ k h)
 ·simp only[cM] at hi hj
  by_cases hl:i<a.length
  ·simp only[aO hl] at hk
   by_cases hl':j<a.length
   ·simp only[aO hl'] at hk';exact p.apart i j k hl hl' hk hk'
   ·simp only[aD hl'] at hk'
    exact(cross k (p.src i k hl hk).2 (q.src _ k aB hk').2).elim
  ·simp only[aD hl] at hk
   by_cases hl':j<a.length
   ·simp only[aO hl'] at hk'
    exact(cross k (p.src j k hl' hk').2 (q.src _ k aB hk).2).elim
   ·simp only[aD hl'] at hk'
    have:=q.apart _ _ k aB aB hk hk';omega
theorem rm {gV:TS} (M:Mode): ∀(cs:List CE) (st:TS) (vs:List Value) (ts:List TC) (st':TS) (d:Bool),an F A w0 φ st tm w→bN st gV→vs.length=cs.length→(∀(j:Nat) (e:CE),cs[j]?=some e→ ∃v,vs[j]?=some v∧bh gV.ob w φ e v)→
 (M= .snap∨d=true∧M= .deep)→xJ cs st=some (ts,st',d)→an F A w0 φ st' tm w∧ts.length=cs.length∧bN st' st∧ ∃os,eu w φ st st' (bK M ts vs) os
 |[],st,vs,ts,st',d,h,hs,hl,hc,hM,ho=>by
  cases ho
  exact⟨h,rfl,bN.refl _,[],by cases vs<;>exact eu.nil _⟩
 |e::r,st,vs,ts,st',d,h,hs,hl,hc,hM,ho=>by
  simp only[xJ] at ho
  split at ho
  ·rename_i c bD d1 hab
   split at ho
   ·rename_i cs' gf d2 Gk
    cases ho
    cases vs with
    |nil=>cases hl
    |cons v vs=>
     obtain⟨v',EA,hok⟩:=hc 0 e rfl;simp only[bL,aE] at EA;subst EA;obtain⟨h1,A6,ht⟩:=Bz h hs hok hab
     obtain⟨o,ht⟩:=ht M (by
      rcases hM with rfl|⟨hd,rfl⟩
      ·unfold DH;cases e<;>rfl
      ·simp only[cL] at hd
       have Oc:=hd.1;subst Oc
       cases e with
       |snap ds l z rows=>
        cases ds with
        |nil=>simp[gl] at hab
        |cons _ _=>simp[gl] at hab
       |gone=>simp[gl] at hab
       |_=>rfl)
     obtain⟨h2,sN,O6,os,hts⟩:=rm M r bD vs cs' _ d2 h1 (A6.trans hs) (by simpa using hl) (fun j e he=>by
      obtain⟨v',a1,a2⟩:=hc (j+1) e (by simpa using he)
      exact⟨v',by simpa using a1,a2⟩) (by
       rcases hM with hM|⟨hd,hM⟩
       ·exact .inl hM
       ·simp only[cL] at hd;exact .inr ⟨hd.2,hM⟩) Gk
     exact⟨h2,by simp[sN],O6.trans A6,o::os,(eu.one ht A6).app h.sep.nz hts⟩
   ·cases ho
  ·cases ho
theorem kW {z:Nat}: ∀{rows:List (List TC)},(∀r∈rows,r.length=z)→ ∀{i f:Nat} {tc:TC},lW rows i f=some tc→rows.flatten[i*z+f]?=some tc∧f<z∧i<rows.length
 |[],_,i,f,tc,h=>by simp[lW] at h
 |r::rs,hw,0,f,tc,h=>by
  have hr:=hw r (.head _);simp only[lW,bL,Option.bind_some] at h
  have hf:f<z:=by rw[←hr];exact(List.getElem?_eq_some_iff.1 h).1
  refine⟨?_,hf,by simp⟩;rw[pZ,Nat.zero_mul,eJ,e8 aB];exact h
 |r::rs,hw,i+1,f,tc,h=>by
  have hr:=hw r (.head _)
  have h':lW rs i f=some tc:=by simpa [lW] using h
  obtain⟨h1,h2,h3⟩:=kW (fun r hr=>hw r (.tail _ hr)) h';refine⟨?_,h2,by simpa using h3⟩;rw[pZ,fU (by rw[hr,jE];omega),hr,show(i+1)*z+f-z=i*z+f by rw[jE];omega];exact h1
theorem aW {z:Nat}: ∀{rows:List (List TC)},(∀r∈rows,r.length=z)→rows.flatten.length=rows.length*z
 |[],_=>by simp
 |r::rs,hw=>by
  rw[pZ,cM,aW fun r hr=>hw r (.tail _ hr),hw r (.head _),dH,jE];omega
theorem eH.row (dp:Bool) {X:Nat→Nat→Prop} {Z:Nat→Prop} {z:Nat} {rows:List (List TC)} {vs:List Value} (p:eH w φ st st' (bK (if dp then .deep else .snap) rows.flatten vs) X Z) (hz:0<z) (hw: ∀r∈rows,r.length=z)
 (hl:vs.length=rows.length*z) {ad:Addr} {c:Nat} (hc:rows.length≤c) (JT:c≤maxLen) (hs:ad.spot=none) (hnew: ∀i k,i<rows.length*z→X i k→k≠ad.block)
 (hmem: ∀k,(φ.I k∨Z k)→w'.heap[k]?=w.heap[k]?) (QB: ∀i k,i<rows.length*z→X i k→w'.heap[k]?=w.heap[k]?)
 (hcell: ∀(j:Nat) (v:Value),vs[j]?=some v→w'.cell? (ad.add j)=some v) (hall: ∀j,j<c*z→(∃x,w'.cell? ⟨ad.block,ad.off+j,none⟩=some x)∧w'.frozen? ⟨ad.block,ad.off+j,none⟩=false) (zo:1<z→ ∀i,w'.frozen? ⟨ad.block,i,none⟩=false):
 ah w' (fun k=>φ.I k∨Z k) (OB.m ⟨dp,z,rows⟩) (fun k=>k=ad.block∨ ∃i,i<rows.length*z∧X i k) (.sub z rows) (.slice (some ad) rows.length c):=by
 have hfl:=aW hw
 have hlen:(bK (if dp then Mode.deep else .snap) rows.flatten vs).length=rows.length*z:=by rw[dj (by rw[hfl,hl]),hfl]
 have inj: ∀{i f i' f':Nat},f<z→f'<z→i*z+f=i'*z+f'→i=i'∧f=f':=fun {i f i' f'} h1 h2 e=>by
  have e1:(i*z+f)/z=i:=by rw[Nat.mul_comm,Nat.mul_add_div hz,Nat.div_eq_of_lt h1,jF]
  have e2:(i'*z+f')/z=i':=by rw[Nat.mul_comm,Nat.mul_add_div hz,Nat.div_eq_of_lt h2,jF]
  have:i=i':=by rw[←e1,e,e2]
  subst this;exact⟨rfl,by omega⟩
 refine .sub _ _ z rows (some ad) c (fun i f=>vs.getD (i*z+f) undef) (fun i f k=>f<z∧i<rows.length∧dp=true∧X (i*z+f) k) ⟨hc,JT,hz,hw,fun _=>⟨ad,rfl⟩,?_,?_,?_,fun _ Gj ad' e i=>(by cases e;exact zo Gj i),?_⟩ ?_
 ·intro ad' e i f tc ht
  cases e
  obtain⟨h1,h2,h3⟩:=kW hw ht
  have hlt:i*z+f<vs.length:=by rw[hl,←hfl];exact(List.getElem?_eq_some_iff.1 h1).1
  rw[hcell _ _ (aN hlt)];simp[List.getD,aN hlt]
 ·intro hm
  exfalso
  revert hm
  unfold OB.m
  split<;>simp
 ·intro _
  refine⟨fun e=>(by cases e),fun ad' e=> ?_⟩
  cases e
  exact⟨.inl rfl,hs,hall⟩
 ·intro hm i f k hk
  obtain⟨h1,h2,h3,h4⟩:=hk;have hi:i*z+f<rows.length*z:=dD (Nat.add_lt_add_left h1 _) (by rw[←xG];exact iD _ h2);refine⟨.inr ⟨_,hi,h4⟩,fun ad' e=>(by cases e;exact hnew _ k hi h4),fun i' f' hk'=> ?_⟩;obtain⟨g1,g2,g3,g4⟩:=hk';have hi':i'*z+f'<rows.length*z:=dD (Nat.add_lt_add_left g1 _) (by rw[←xG];exact iD _ g2);exact inj g1 h1 (p.apart _ _ k (by rw[hlen];exact hi') (by rw[hlen];exact hi) g4 h4)
 ·intro i f tc ht
  obtain⟨h1,h2,h3⟩:=kW hw ht
  have hlt:i*z+f<vs.length:=by rw[hl,←hfl];exact(List.getElem?_eq_some_iff.1 h1).1
  have hv:vs[i*z+f]?=some (vs.getD (i*z+f) undef):=by simp[List.getD,aN hlt]
  have:=p.ok _ _ (fI h1 hv);simp only at this
  cases dp with
  |true=>
   simp only[if_true] at this;refine(ah.move this (fun k hk=>⟨hk,hmem k hk⟩) fun _ k hk=>QB _ k (by rw[←hl];exact hlt) hk).mono fun k hk=>⟨h2,h3,rfl,hk⟩
  |false=>
   simp only[sQ,if_false] at this;exact(ah.move this (fun k hk=>⟨hk,hmem k hk⟩) fun hm=>absurd rfl hm).gP fun k hk=>hk
end Go.T
namespace Go.T
variable {F : Nat → Prop} {A : Arg} {w0 w w' : World} {φ φ' : Fp} {st st' bD gf : TS} {tm r9 : Array Value} {C : eZ}
variable {R : Type} {cf : Cf} {lp : Lp} {Q : R → Prop}
theorem an.Lc (h:an F A w0 φ st tm w) (g:gn w w') {e:CE} {v:Value} (he:bh st.ob w φ e v):bh st.ob w' φ e v:=
 he.stay (fun k hk=>g.block k (h.sep.ro k hk).1) (fun d k hd hk=>g.block k (h.sep.lt h.frm.size hd hk)) fun o ho ad n c hv i v hc=>g.cell hc
theorem kX (w:World) (arr:Array Value) (t:TypeId) (j:Nat):(w.alloc (.cells arr t)).cell? ⟨w.heap.size,j,none⟩=arr[j]?:=by
 unfold World.cell?;simp only[heap_alloc_new]
 rfl
theorem iz (w:World) (arr:Array Value) (t:TypeId) (j:Nat):(w.alloc (.cells arr t)).frozen? ⟨w.heap.size,j,none⟩=false:=by
 unfold World.frozen?;simp only[heap_alloc_new];simp
theorem add_lit (b o j:Nat):(⟨b,o,none⟩:Addr).add j=⟨b,o+j,none⟩:=ko j rfl
theorem Hp (h:an F A w0 φ st tm w) {d:Nat} (hw:ng d=true) {cs:List CE} {arr:Array Value} {t:TypeId} (hc:MC st.ob w φ cs arr):
 an F A w0 (φ.box d ⟨w.heap.size,0,none⟩) (uK d cs st) tm (w.alloc (.cells arr t)):=by
 have g:=gn.alloc w (.cells arr t);refine(h.DK g).uK hw rfl dK (fun o ho hS=> ?_) (fun hI=> ?_) (.inl h.frm.size) (fun b' cs' hb' _ e=> ?_) (fun j e he=> ?_) fun j hj=> ?_
 ·have:=(h.sep.fresh o _ ho hS).1;simp at this
 ·have:=(h.sep.ro _ hI).1;simp at this
 ·have:=(h.sep.spot b' cs' hb').2.1;rw[e] at this;simp at this
 ·obtain⟨x,h1,h2,h3⟩:=hc.2 j e he
  exact⟨x,by rw[add_lit,kX,eJ];exact h1,h2,h.Lc g h3⟩
 ·rw[add_lit];exact iz _ _ _ _
theorem Hq (h0:an F A w0 φ st tm w) (h:an F A w0 φ st' tm w) {dp:Bool} {z:Nat} {rows:List (List TC)} {vs:List Value} {X:Nat→Nat→Prop} {Z G:Nat→Prop} {d:Nat}
 (p:eH w φ st st' (bK (if dp then .deep else .snap) rows.flatten vs) X Z) (hz:0<z) (nU: ∀r∈rows,r.length=z) (hl:vs.length=rows.length*z) {ad:Addr} {c:Nat} (hc:rows.length≤c) (JT:c≤maxLen) (hs:ad.spot=none)
 (hf:EO F w0 w') (hsz:w.heap.size≤w'.heap.size) (hw: ∀k,k<w.heap.size→ ¬G k→w'.heap[k]?=w.heap[k]?) (hG: ∀k,G k→ ∃o,aj st.ob o∧ ¬aj st'.ob o∧φ.S o k)
 (PV: ∀k,Z k→ ¬G k∧k≠ad.block) (Nj: ∀i k,i<rows.length*z→X i k→ ¬G k∧k≠ad.block) (hb:(w.heap.size≤ad.block∧ad.block<w'.heap.size)∨ ∃o,aj st.ob o∧ ¬aj st'.ob o∧φ.S o ad.block)
 (hcell: ∀(j:Nat) (v:Value),vs[j]?=some v→w'.cell? (ad.add j)=some v) (hall: ∀j,j<c*z→(∃x,w'.cell? ⟨ad.block,ad.off+j,none⟩=some x)∧w'.frozen? ⟨ad.block,ad.off+j,none⟩=false) (zo:1<z→ ∀i,w'.frozen? ⟨ad.block,i,none⟩=false) (hd:d<tm.size):
 Rel F A w0 (lK d ⟨dp,z,rows⟩ st') (tm.setIfInBounds d (.slice (some ad) rows.length c)) w':=by
 have kI: ∀{k},(∃o,aj st.ob o∧ ¬aj st'.ob o∧φ.S o k)→ ¬φ.I k:=fun⟨o,a1,a2,a3⟩=>h0.sep.read o _ a1 a3
 have kS: ∀{k},(∃o,aj st.ob o∧ ¬aj st'.ob o∧φ.S o k)→ ∀o',aj st'.ob o'→ ¬φ.S o' k:=fun⟨o,a1,a2,a3⟩ o' ho' hk=>by
  have:=h0.sep.apart o o' _ a1 (p.sub.dom ho') a3 hk;subst this;exact a2 ho'
 have kF: ∀{k},(∃o,aj st.ob o∧ ¬aj st'.ob o∧φ.S o k)→k<w.heap.size∧(w0.heap.size≤k∨F k):=fun⟨o,a1,a2,a3⟩=>h0.sep.fresh o _ a1 a3
 have kB: ∀{k},(∃o,aj st.ob o∧ ¬aj st'.ob o∧φ.S o k)→ ∀b cs,aa b st'.bx=some cs→(φ.β b).block≠k:=fun {k} ⟨o,a1,a2,a3⟩ b cs hb e=>by
  obtain⟨cs0,c0,_⟩:=p.sub.bx b cs hb
  cases rI:ng b with
  |true=>exact(h0.sep.box b cs0 c0 rI).2.1 o a1 (by rw[e];exact a3)
  |false=>
   have h1:=h0.sep.fA _ ((h0.sep.spot b cs0 c0).2.2 rI);rw[e] at h1;rcases (h0.sep.fresh o k a1 a3).2 with h3|h3
   ·omega
   ·exact h1.2 h3
 have h1:=h.wrote (w':=w') [] (fun _ _=>False) Z G hf hsz hw (fun k hk=>(kF (hG k hk)).2) (fun k hk=>kI (hG k hk)) (fun k o hk ho _=>kS (hG k hk) o ho) (fun b cs hb hk=>kB (hG _ hk) b cs hb rfl)
  (fun o b' hb'=>by simp[aa] at hb')
  (fun k hk=>⟨dD (kF (p.srcZ k hk)).1 hsz,(kF (p.srcZ k hk)).2.elim .inl fun hF=> .inr (.inl hF),fun o ho _=>kS (p.srcZ k hk) o ho,fun b cs hb _=>kB (p.srcZ k hk) b cs hb⟩)
 have hlen:(bK (if dp then Mode.deep else .snap) rows.flatten vs).length=rows.length*z:=by rw[dj (by rw[aW nU,hl]),aW nU]
 have hrow:=p.row (w':=w') dp hz nU hl hc JT hs (fun i k hi hk=>(Nj i k hi hk).2)
  (fun k hk=>by
    rcases hk with hk|hk
    ·exact hw k (h0.sep.ro k hk).1 fun hg=>kI (hG k hg) hk
    ·exact hw k (kF (p.srcZ k hk)).1 (PV k hk).1)
  (fun i k hi hk=>hw k (kF (p.src i k (by rw[hlen];exact hi) hk).2).1 (Nj i k hi hk).1) hcell hall zo
 have QC: ¬φ.I ad.block:=fun hI=>by
  rcases hb with⟨hb,_⟩|hb
  ·have:=(h0.sep.ro _ hI).1;omega
  ·exact kI hb hI
 have h2:=h1.p7 (o:=jf d 0 0) (b:=⟨dp,z,rows⟩) (by unfold jf;omega) hrow (fun k hk=>by
  rcases hk with rfl|⟨i,hi,hk⟩
  ·rcases hb with⟨b1,b2⟩|hb
   ·exact⟨b2,.inl (jW h0.frm.size b1)⟩
   ·exact⟨dD (kF hb).1 hsz,(kF hb).2⟩
  ·have:=kF (p.src i k (by rw[hlen];exact hi) hk).2
   exact⟨dD this.1 hsz,this.2⟩)
  (fun k hk hI=>by
    rcases hk with rfl|⟨i,hi,hk⟩
    ·rcases hI with hI|hI
     ·exact QC hI
     ·exact(PV _ hI).2 rfl
    ·have PW:=p.src i k (by rw[hlen];exact hi) hk
     rcases hI with hI|hI
     ·exact kI PW.2 hI
     ·exact PW.1 hI)
  (fun k o hk _ ho hS=>by
    have hS:φ.S o k:=hS;have ho:aj st'.ob o:=ho;rcases hk with rfl|⟨i,hi,hk⟩
    ·rcases hb with⟨b1,_⟩|hb
     ·have:=(h.sep.fresh o _ ho hS).1;omega
     ·exact kS hb o ho hS
    ·exact kS (p.src i k (by rw[hlen];exact hi) hk).2 o ho hS)
  (fun b cs hb' rI hk=>by
    have hb':aa b st'.bx=some cs:=hb';rcases hk with e|⟨i,hi,hk⟩
    ·rcases hb with⟨b1,_⟩|hb
     ·have:=(h.sep.spot b cs hb').2.1
      have e:(φ.β b).block=ad.block:=e;omega
     ·exact kB hb b cs hb' e
    ·exact kB (p.src i _ (by rw[hlen];exact hi) hk).2 b cs hb' rfl)
 have h3:=h2.zC (d:=d) (e:=one (.ref (jf d 0 0) none)) (v:= .slice (some ad) rows.length c) hd (Bo rfl ⟨⟨dp,z,rows⟩,by
  show aa _ (fP _ _ _)=_
  exact eE,by simp[Fp.add]⟩)
 exact⟨_,h3⟩
theorem FT (h:an F A w0 φ st tm w) {dp:Bool} {z d:Nat} (hz:0<z) (hd:d<tm.size):Rel F A w0 (lK d ⟨dp,z,[]⟩ st) (tm.setIfInBounds d (.slice none 0 0)) w:=by
 have h2:=h.p7 (o:=jf d 0 0) (b:=⟨dp,z,[]⟩) (X:=uF) (v:= .slice none 0 0) (by unfold jf;omega) (me hz) (fun k hk=>hk.elim) (fun k hk=>hk.elim) (fun k o hk=>hk.elim) (fun b cs _ _ hk=>hk)
 exact⟨_,h2.zC (d:=d) (e:=one (.ref (jf d 0 0) none)) (v:= .slice none 0 0) hd (Bo rfl ⟨⟨dp,z,[]⟩,by
  show aa _ (fP _ _ _)=_
  exact eE,by simp[Fp.add]⟩)⟩
theorem ah.parts (h:an F A w0 φ st tm w) {o:Nat} (ho:aj st.ob o) {m M:Mode} {z:Nat} {rows:List (List TC)} {v:Value} (hr:ah w φ.I m (φ.S o) (.sub z rows) v) (hm:m≠ .snap) (hM:M= .snap∨M= .deep∧m= .deep):
 ∃vals X Z,vals.length=rows.length*z∧eH w φ st (fD o st) (bK M rows.flatten vals) X Z∧ ∀ad n c,v= .slice (some ad) n c→(∀(j:Nat) (x:Value),vals[j]?=some x→w.cell? (ad.add j)=some x)∧(∀i k,X i k→k≠ad.block)∧ ∀k,Z k→k≠ad.block:=by
 cases hr with
 |sub _ _ _ _ Ad c u T k hn=>
  have hz:=k.z0;have nU:=k.width;have hsub:=bN.kill st o;have hfl:=aW nU
  have at_of: ∀{p:Nat} {tc:TC},rows.flatten[p]?=some tc→lW rows (p/z) (p % z)=some tc:=fun {p tc} hp=>by
   have hlt:p<rows.length*z:=by rw[←hfl];exact(List.getElem?_eq_some_iff.1 hp).1
   have hi:p/z<rows.length:=Nat.div_lt_of_lt_mul (by rw[Nat.mul_comm];exact hlt);have hrl:=nU _ (p0 hi)
   have hf:p % z<(rows[p/z]).length:=by rw[hrl];exact Nat.mod_lt _ hz
   have h1:lW rows (p/z) (p % z)=some (rows[p/z][p % z]):=by simp[lW,aN hi,aN hf]
   have h2:=(kW nU h1).1;rw[sV p z] at h2;rw[h1,←h2,hp]
  have gM:aj st.ob o∧ ¬aj (fD o st).ob o:=⟨ho,fun hd=>(dJ.1 hd).1 rfl⟩
  let vals:List Value:=(List.range (rows.length*z)).map fun p=>u (p/z) (p % z)
  have hvl:vals.length=rows.length*z:=by simp[vals]
  have hval: ∀{p:Nat} {x:Value},vals[p]?=some x→p<rows.length*z∧x=u (p/z) (p % z):=fun {p x} hp=>by
   have hlt:p<rows.length*z:=by rw[←hvl];exact(List.getElem?_eq_some_iff.1 hp).1
   refine⟨hlt,?_⟩;simp[vals,hlt] at hp;exact hp.symm
  have hcl:(bK M rows.flatten vals).length=rows.length*z:=by rw[dj (by rw[hfl,hvl]),hfl]
  have hmem: ∀ad n c',Value.slice Ad rows.length c= .slice (some ad) n c'→ ∀(j:Nat) (x:Value),vals[j]?=some x→w.cell? (ad.add j)=some x:=fun ad n c' e j x hx=>by
   cases e
   obtain⟨hlt,rfl⟩:=hval hx;obtain⟨tc,JU⟩: ∃tc,rows.flatten[j]?=some tc:=⟨_,aN (by rw[hfl];exact hlt)⟩;have:=k.cell ad rfl _ _ tc (at_of JU);rw[sV j z] at this;exact this
  by_cases A5:M= .deep
  ·subst A5
   have Cb:m= .deep:=by
    rcases hM with e|⟨_,e⟩
    ·cases e
    ·exact e
   subst Cb;refine⟨vals,fun p b=>p<rows.length*z∧T (p/z) (p % z) b,fun _=>False,hvl,⟨fun i it hi=> ?_,fun i b hi hb=> ?_,fun b hb=>hb.elim,fun i j b hi hj hb hb'=> ?_,hsub⟩,fun ad n c' e=>⟨hmem ad n c' e,fun i b hb=> ?_,fun b hb=>hb.elim⟩⟩
   ·obtain⟨tc,x,h1,h2,rfl⟩:=fu hi
    obtain⟨hlt,rfl⟩:=hval h2;exact((hn _ _ tc (at_of h1)).gq fun b hb=> .inl hb).mono fun b hb=>⟨hlt,hb⟩
   ·exact⟨id,o,gM.1,gM.2,(k.gU rfl _ _ b hb.2).1⟩
   ·obtain⟨e1,e2⟩:=(k.gU rfl _ _ b hb.2).2.2 _ _ hb'.2
    rw[←sV i z,←sV j z,e1,e2]
   ·cases e
    exact(k.gU rfl _ _ b hb.2).2.1 ad rfl
  ·have O7:M= .snap:=hM.elim id fun⟨e,_⟩=>absurd e A5
   subst O7;refine⟨vals,fun _ _=>False,fun b=>m= .deep∧ ∃i f,T i f b,hvl,⟨fun i it hi=> ?_,fun i b hi hb=>hb.elim,fun b hb=> ?_,fun i j b hi hj hb=>hb.elim,hsub⟩,fun ad n c' e=>⟨hmem ad n c' e,fun i b hb=>hb.elim,fun b hb=> ?_⟩⟩
   ·obtain⟨tc,x,h1,h2,rfl⟩:=fu hi
    obtain⟨hlt,rfl⟩:=hval h2;exact(hn _ _ tc (at_of h1)).freeze (fun b hb=> .inl hb) fun hx b hb=> .inr ⟨kj hx,_,_,hb⟩
   ·obtain⟨Cb,i,f,hb⟩:=hb
    exact⟨o,gM.1,gM.2,(k.gU Cb _ _ b hb).1⟩
   ·cases e
    obtain⟨Cb,i,f,hb⟩:=hb;exact(k.gU Cb _ _ b hb).2.1 ad rfl
end Go.T
namespace Go.T
variable {F : Nat → Prop} {A : Arg} {w0 w w' : World} {φ φ' : Fp} {st st' bD gf : TS} {tm r9 : Array Value} {C : eZ}
variable {R : Type} {cf : Cf} {lp : Lp} {Q : R → Prop}
def Wr (st:TS) (φ:Fp) (l:List Nat) (k:Nat):Prop:=(∃b cs,2*b+1∈l∧aa b st.bx=some cs∧ng b=true∧k=(φ.β b).block)∨ ∃o,2*o∈l∧aj st.ob o∧φ.S o k
def Dw (C:eZ) (F:Nat→Prop) (A:Arg) (w0:World) (φ:Fp) (st:TS) (o:Oper) (a:Act) (w:World) (K:TS→Ev R) (cf:Cf) (lp:Lp) (Q:R→Prop):Prop:=
 ∃nx v w' st',(execOp a.eval o).run C.P w= .ok nx w'∧(nx= .value v∨nx= .skip∧v=undef)∧Rel F A w0 st' (a.put o.dst v).tmps w'∧(K st').holds cf lp Q∧w.heap.size≤w'.heap.size∧
  ∀k,k<w.heap.size→ ¬Wr st φ (writes C st o) k→w'.heap[k]?=w.heap[k]?
theorem nB {i:dY} (h:mT i=true):known i=true∧ ∀e,i.ti≠ .ptr e:=by
 unfold mT at h;unfold known
 split at h<;>first|cases h|skip
 rename_i h1 h2;exact⟨by split<;>first|rfl|(rename_i e;exact absurd e h1),fun e he=>h2 e he⟩
theorem E3 (hT:ct C) {a:Act} (h:an F A w0 φ st a.tmps w) {o:Oper} {K:TS→Ev R} (hd: ∀d,o.dst=some d→d<a.tmps.size) (hk:(Ai C st o K).holds cf lp Q):Dw C F A w0 φ st o a w K cf lp Q:=by
 unfold Ai at hk
 cases ee:o.dst with
 |none=>rw[ee] at hk;exact hk.elim
 |some d=>
  rw[ee] at hk;obtain⟨v,e,h1,h2,h3,_⟩:=CM hT h hk;exact⟨_,v,w,_,h1,.inl rfl,⟨φ,by rw[ee];exact h.zC (hd d ee) h2⟩,h3,bH _,fun _ _ _=>rfl⟩
theorem Hr (hT:ct C) {a:Act} (h:an F A w0 φ st a.tmps w) {o:Oper} {t:TypeId} (ho:o.op= .alloc t) {K:TS→Ev R} (hd: ∀d,o.dst=some d→d<a.tmps.size) (hk:(gm C st o K).holds cf lp Q):Dw C F A w0 φ st o a w K cf lp Q:=by
 unfold gm at hk;rw[ho] at hk;simp only at hk
 split at hk
 ·rename_i d ee hp
  split at hk
  ·rename_i hw
   obtain⟨hkn,hnp⟩:=nB hp;obtain⟨i,z,h1,h2,h3,h4,h5⟩:=Bv (w:=w) (φ:=φ) hT hkn hnp (ob:=st.ob)
   have hn:=(Hp h hw (t:=t) h4).zC (d:=d) (e:= .bp d 0) (v:= .pointer (some ⟨w.heap.size,0,none⟩)) (hd d ee) (by
    show _=Value.pointer (some (((φ.box d ⟨w.heap.size,0,none⟩).β d).add 0))
    rw[kV,Addr.add_zero'])
   refine⟨.value (.pointer (some ⟨w.heap.size,0,none⟩)),_,_,_,?_,.inl rfl,⟨_,by rw[ee];exact hn⟩,hk,by simp,fun k hk _=>(gn.alloc w _).block k hk⟩;unfold execOp;rw[ho];simp[Instr.alloc,zeroValue,typeInfo,h1,h3,newVar,newRow]
  ·exact hk.elim
 ·exact hk.elim
theorem Ld (hT:ct C) {a:Act} (h:an F A w0 φ st a.tmps w) {o:Oper} {t:TypeId} {x:Operand} (ho:o.op= .box t x) {K:TS→Ev R} (hd: ∀d,o.dst=some d→d<a.tmps.size) (hk:(gm C st o K).holds cf lp Q):Dw C F A w0 φ st o a w K cf lp Q:=by
 unfold gm at hk;rw[ho] at hk;simp only at hk
 split at hk
 ·rename_i d cs ee hc
  split at hk
  ·rename_i hw
   have hcs:=jm (bM hT h t x) hc
   have hn:=(Hp h hw (t:=t) (arr:=(a.eval x).cells) hcs).zC (d:=d) (e:= .bp d 0) (v:= .pointer (some ⟨w.heap.size,0,none⟩)) (hd d ee) (by
    show _=Value.pointer (some (((φ.box d ⟨w.heap.size,0,none⟩).β d).add 0))
    rw[kV,Addr.add_zero'])
   refine⟨.value (.pointer (some ⟨w.heap.size,0,none⟩)),_,_,_,?_,.inl rfl,⟨_,by rw[ee];exact hn⟩,hk,by simp,fun k hk _=>(gn.alloc w _).block k hk⟩;unfold execOp;rw[ho];simp[Instr.box,newVar,newRow]
  ·exact hk.elim
 ·exact hk.elim
theorem tL {P:Program} {tt:TypeId→dY} {t:TypeId} (h:q8 P tt t) {ad:Addr} (hs:ad.spot=none) {v:Value} (hv:v.cells.size=(tt t).size) (h1: ∀x∈v.cells.toList,x.oneCell'=true)
 (hc: ∀j,j<v.cells.size→(w.cell? (ad.add j)).isSome=true∧w.frozen? (ad.add j)=false):(Instr.storeAt t (.pointer (some ad)) v).run P w= .ok () (w.setCells ad.block ad.off v.cells.toList):=by
 obtain⟨i,z,g1,g2,_⟩:=h.info;have vM: ∀j,ad.add j=⟨ad.block,ad.off+j,none⟩:=fun j=>ko j hs;have hst:=run_storeCells_cells (P:=P) ad.block ad.off v.cells.toList 0 w (fun j hj=>by rw[jF,←vM];exact(hc j (by simpa using hj)).1) (fun j hj=>by rw[jF,←vM];exact(hc j (by simpa using hj)).2) h1
 have had:(⟨ad.block,ad.off,none⟩:Addr)=ad:=by cases ad;simp_all
 rw[had,jF] at hst;simp only[Instr.storeAt,Instr.sureAddr,storeVar,sizeOf,typeInfo,Sem.run_bind,Sem.run_pure,Result.andThen];simp[g1,g2,hv,hst]
theorem rS: ∀{cs:List CE},xm cs=false→ ∀e∈cs,e≠ .gone
 |[],_,e,he=>by cases he
 |c::r,h,e,he=>by
  cases c with
  |gone=>cases h
  |_=>
   rcases bC.1 he with rfl|he
   ·simp
   ·exact rS (cs:=r) h e he
theorem q9.one {cs:List CE} {v:Value} (h:q9 st.ob w φ cs v) (hb: ∀o b,aa o st.ob=some b→fE w φ o b) (hg:xm cs=false): ∀x∈v.cells.toList,x.oneCell'=true:=by
 intro x hx;obtain⟨j,hj,rfl⟩:=List.mem_iff_getElem.1 hx
 have hj':j<cs.length:=by rw[←h.1];simpa using hj
 obtain⟨y,h1,_,h3⟩:=h.2 j _ (aN hj')
 have O8:j<v.cells.size:=by simpa using hj
 rw[kL O8] at h1;simp only[aE] at h1;rw[Array.getElem_toList,h1];exact FR h3 (rS hg _ (p0 hj')) hb
theorem E4 {α:Type} {old cs:List α} {off j:Nat} {e:α} (h:(old.take off++cs++old.drop (off+cs.length))[j]?=some e) (hle:off+cs.length≤old.length):
 (off≤j∧j<off+cs.length∧cs[j-off]?=some e)∨((j<off∨off+cs.length≤j)∧old[j]?=some e):=by
 have hto:(old.take off).length=off:=by rw[gW];omega
 rw[rK] at h
 by_cases h1:j<off
 ·rw[e8 aB,vQ,aO h1] at h
  exact .inr ⟨.inl h1,h⟩
 ·rw[fU aB,hto] at h
  by_cases h2:j<off+cs.length
  ·rw[e8 aB] at h
   exact .inl ⟨by omega,h2,h⟩
  ·rw[fU aB,iC,show off+cs.length+(j-off-cs.length)=j by omega] at h
   exact .inr ⟨.inr aB,h⟩
theorem su {α:Type} {old cs:List α} {off:Nat} (hle:off+cs.length≤old.length):(old.take off++cs++old.drop (off+cs.length)).length=old.length:=by
 simp only[cM,gW,oQ];omega
theorem CS {a:Act} (hT:ct C) (h:an F A w0 φ st a.tmps w) {o:Oper} {t:TypeId} {p x:Operand} (ho:o.op= .store t p x) (ee:o.dst=none) {cs:List CE} (hkn:known (C.tt t)=true) (hcs:q9 st.ob w φ cs (a.eval x))
 (hsz:cs.length=(C.tt t).size) {b off:Nat} (hp:iO C st 0 p= .bp b off) {st':TS} (hs:xM b off cs st=some st') {K:TS→Ev R} (hk:(K st').holds cf lp Q):Dw C F A w0 φ st o a w K cf lp Q:=by
 unfold xM at hs
 split at hs
 ·rename_i old hb
  split at hs
  ·rename_i PX hle
   cases hs
   have hle:=iM hle;simp only[cL,oP] at PX;obtain⟨hw,hg⟩:=PX;have Mi:=bM hT h 0 p;rw[hp] at Mi;have Mi:a.eval p= .pointer (some ((φ.β b).add off)):=Mi;have j9:=(h.sep.spot b old hb).1 hw;have vM: ∀j,(φ.β b).add j=⟨(φ.β b).block,(φ.β b).off+j,none⟩:=fun j=>ko j j9;obtain⟨bx1,bx2,bx3,bx4⟩:=h.sep.box b old hb hw;have Gl:(a.eval x).cells.size=cs.length:=hcs.1
   have hrun:=tL (w:=w) (hT t hkn) (ad:=(φ.β b).add off) (qg off j9) (v:=a.eval x) (by rw[Gl,hsz]) (hcs.one h.obj hg) (fun j hj=>by
    rw[Addr.add_add]
    have hj:off+j<old.length:=by rw[Gl] at hj;omega
    obtain⟨v,c1,_⟩:=h.box b old hb (off+j) _ (aN hj)
    exact⟨by rw[c1];rfl,h.sep.soft b old (off+j) hb hw hj⟩)
   rw[aP,vM off] at hrun;simp only at hrun;have sO: ∀k,k<w.heap.size→k≠(φ.β b).block→(w.setCells (φ.β b).block ((φ.β b).off+off) (a.eval x).cells.toList).heap[k]?=w.heap[k]?:=fun k hk hne=>cm _ _ _ _ hk hne;have hlt:(φ.β b).block<w.heap.size:=(h.sep.spot b old hb).2.1
   have hnew:=h.uJ (w':=w.setCells (φ.β b).block ((φ.β b).off+off) (a.eval x).cells.toList) hb hw (su hle) (h.frm.setCells bx3) (by rw[(fe _ _ _ _).2.2.2];exact bH _) sO
    (fun j hj=>by rw[World.frozen?_setCells];exact h.sep.soft b old j hb hw (by rw[su hle] at hj;exact hj))
    (fun j e he=>by
      rcases E4 he hle with⟨l1,l2,l3⟩|⟨l1,l2⟩
      ·obtain⟨y,y1,y2,y3⟩:=hcs.2 _ e l3
       have hin:=World.cell?_setCells_in (φ.β b).block (a.eval x).cells.toList ((φ.β b).off+off) w (fun j' hj'=>by
        have hj':j'<cs.length:=by rw[←Gl];simpa using hj'
        obtain⟨v,c1,_⟩:=h.box b old hb (off+j') _ (aN aB);rw[vM] at c1
        rw[show(φ.β b).off+off+j'=(φ.β b).off+(off+j') by omega,c1];rfl) (j-off) (by rw[nh,Gl];omega)
       refine⟨y,?_,y2,y3⟩;rw[vM,show(φ.β b).off+j=(φ.β b).off+off+(j-off) by omega,hin]
       have O8:j-off<(a.eval x).cells.size:=by rw[Gl];omega
       rw[kL O8] at y1;rw[Array.getElem_toList,←y1]
      ·obtain⟨v,c1,c2,c3⟩:=h.box b old hb j e l2
       refine⟨v,?_,c2,c3⟩;rw[World.cell?_setCells_out]
       ·exact c1
       ·intro _ _
        rw[vM,nh,Gl];simp only
        omega)
   refine⟨.skip,undef,_,_,?_,.inr ⟨rfl,rfl⟩,⟨φ,by rw[ee];exact hnew⟩,hk,by rw[(fe _ _ _ _).2.2.2];exact bH _,fun k hk JV=> ?_⟩
   ·unfold execOp
    rw[ho];simp only[Sem.run_bind,Mi,vM,hrun,Result.andThen]
    rfl
   ·refine sO k hk fun e=>JV (.inl ⟨b,old,?_,hb,hw,e⟩)
    unfold writes;rw[ho];simp only[hp];exact .head _
  ·cases hs
 ·cases hs
end Go.T
namespace Go.T
variable {F : Nat → Prop} {A : Arg} {w0 w w' : World} {φ φ' : Fp} {st st' bD gf : TS} {tm r9 : Array Value} {C : eZ}
variable {R : Type} {cf : Cf} {lp : Lp} {Q : R → Prop}
def h9 (rows:List (List TC)) (i f:Nat) (cs:List TC):List (List TC):=match rows[i]? with
 |some r=>rows.set i (r.take f++cs++r.drop (f+cs.length))
 |none=>rows
attribute [local semireducible] setRow in
theorem jt (rows:List (List TC)) (i:Int) (f:Nat) (cs:List TC):setRow rows i f cs=h9 rows i.toNat f cs:=rfl
theorem dO (rows:List (List TC)) (i f:Nat) (cs:List TC):(h9 rows i f cs).length=rows.length:=by
 unfold h9;split<;>simp
theorem ou {rows:List (List TC)} {i f:Nat} {cs row:List TC} (hrow:rows[i]?=some row) (hf:f+cs.length≤row.length) {i' f':Nat} {tc:TC} (h:lW (h9 rows i f cs) i' f'=some tc):
 (i'=i∧f≤f'∧f'<f+cs.length∧cs[f'-f]?=some tc)∨((i'≠i∨f'<f∨f+cs.length≤f')∧lW rows i' f'=some tc):=by
 unfold h9 at h;simp only[hrow] at h
 by_cases hi:i'=i
 ·subst hi
  have hlt:=(List.getElem?_eq_some_iff.1 hrow).1;simp only[lW,List.getElem?_set_self hlt,Option.bind_some] at h;rcases E4 h hf with⟨a,b,c⟩|⟨a,b⟩
  ·exact .inl ⟨rfl,a,b,c⟩
  ·exact .inr ⟨.inr a,by simp[lW,hrow,b]⟩
 ·simp only[lW,List.getElem?_set_ne (Ne.symm hi)] at h
  exact .inr ⟨.inl hi,h⟩
theorem tM {z:Nat} {rows:List (List TC)} (hw: ∀r∈rows,r.length=z) {i f:Nat} {cs row:List TC} (hrow:rows[i]?=some row) (hf:f+cs.length≤row.length): ∀r∈h9 rows i f cs,r.length=z:=by
 intro r hr;unfold h9 at hr;simp only[hrow] at hr;rcases List.mem_or_eq_of_mem_set hr with hr|rfl
 ·exact hw r hr
 ·rw[su hf];exact hw row (c7 hrow)
theorem ah.mono' {w:World} {Rd S S':Nat→Prop} {m:Mode} {t:TC} {v:Value} (h:ah w Rd m S t v) (hS:m≠ .snap→ ∀b,S b→S' b):ah w Rd m S' t v:=by
 by_cases hm:m= .snap
 ·subst hm;exact h.gP fun _ h=>h
 ·exact h.mono (hS hm)
theorem ah.FU {w w':World} {Rd S:Nat→Prop} {t:TC} {v:Value} (h:ah w Rd .deep S t v) (hS: ∀b,S b→w'.heap[b]?=w.heap[b]?):ah w' Rd .deep S t v:=
 (((h.rR rfl:ah w uF .deep S t v).move (R':=uF) (fun _ h=>h.elim) fun _=>hS).rR rfl:ah w' Rd .deep S t v)
theorem ah.put {Rd S:Nat→Prop} {m:Mode} {z n c:Nat} {rows:List (List TC)} {ad:Addr} (h:ah w Rd m S (.sub z rows) (.slice (some ad) n c)) (hm:m≠ .snap) {i f:Nat} {ts row:List TC} (hrow:rows[i]?=some row) (hf:f+ts.length≤row.length)
 {vs:List Value} (hl:vs.length=ts.length) (h1: ∀v∈vs,v.oneCell'=true) {X:Nat→Nat→Prop} (hX: ∀(j:Nat) (t:TC) (v:Value),ts[j]?=some t→vs[j]?=some v→ah w Rd m.nx (X j) t v)
 (Od:m= .deep→ ∀j k,j<ts.length→X j k→ ¬S k∧ ∀j',j'<ts.length→X j' k→j'=j) (Oe: ∀k,Rd k→k<w.heap.size∧k≠ad.block) (hS: ∀k,S k→k<w.heap.size) (QD: ∀j k,j<ts.length→X j k→k<w.heap.size):
 ad.spot=none∧S ad.block∧(∀j,j<vs.length→(w.cell? (ad.add (i*z+f+j))).isSome=true∧w.frozen? (ad.add (i*z+f+j))=false)∧
 ah (w.setCells ad.block (ad.off+(i*z+f)) vs) Rd m (fun k=>S k∨(m= .deep∧ ∃j,j<ts.length∧X j k)) (.sub z (h9 rows i f ts)) (.slice (some ad) n c):=by
 cases h with
 |sub _ _ _ _ _ _ u T k hn=>
  have hlt:=(List.getElem?_eq_some_iff.1 hrow).1;have hrl:=k.width row (c7 hrow);obtain⟨KB,j9,hall⟩:=(k.own hm).2 ad rfl;have vM: ∀j,ad.add j=⟨ad.block,ad.off+j,none⟩:=fun j=>ko j j9
  have inb: ∀j,j<ts.length→i*z+f+j<c*z:=fun j hj=>by
   have:i*z+f+j<(i+1)*z:=by rw[jE];omega
   exact dD this (iD _ (by have:=k.len;omega))
  have there: ∀j,j<vs.length→(w.cell? (ad.add (i*z+f+j))).isSome=true∧w.frozen? (ad.add (i*z+f+j))=false:=fun j hj=>by
   obtain⟨⟨x,hx⟩,hfz⟩:=hall (i*z+f+j) (inb j aB);rw[vM];exact⟨by rw[hx];rfl,hfz⟩
  have sO: ∀b,b<w.heap.size→b≠ad.block→(w.setCells ad.block (ad.off+(i*z+f)) vs).heap[b]?=w.heap[b]?:=fun b hb hne=>cm _ _ _ _ hb hne;have PY: ∀j b,j<ts.length→m= .deep→X j b→b≠ad.block:=fun j b hj Cb hb e=>(Od Cb j b hj hb).1 (by rw[e];exact KB)
  have hin: ∀j (hj:j<vs.length),(w.setCells ad.block (ad.off+(i*z+f)) vs).cell? (ad.add (i*z+f+j))=some vs[j]:=fun j hj=>by
   have:=World.cell?_setCells_in ad.block vs (ad.off+(i*z+f)) w (fun j' hj'=>by
    have:=(there j' hj').1;rw[vM] at this
    rw[show ad.off+(i*z+f)+j'=ad.off+(i*z+f+j') by omega];exact this) j hj
   rw[vM,show ad.off+(i*z+f+j)=ad.off+(i*z+f)+j by omega];exact this
  have hout: ∀p,(p<i*z+f∨i*z+f+vs.length≤p)→(w.setCells ad.block (ad.off+(i*z+f)) vs).cell? (ad.add p)=w.cell? (ad.add p):=fun p hp=>by
   refine World.cell?_setCells_out _ _ _ _ _ fun _ _=> ?_;rw[vM];simp only;omega
  refine⟨j9,KB,there,?_⟩
  let inr:Nat→Nat→Prop:=fun i' f'=>i'=i∧f≤f'∧f'<f+ts.length
  have dec: ∀i' f',Decidable (inr i' f'):=fun _ _=>inferInstanceAs (Decidable (_∧_∧_))
  have key:=ah.sub (w:=w.setCells ad.block (ad.off+(i*z+f)) vs) (R:=Rd) m (fun b=>S b∨(m= .deep∧ ∃j,j<ts.length∧X j b)) z (h9 rows i f ts) (some ad) c
   (fun i' f'=>if i'=i∧f≤f'∧f'<f+ts.length then vs.getD (f'-f) undef else u i' f') (fun i' f' b=>if i'=i∧f≤f'∧f'<f+ts.length then m= .deep∧X (f'-f) b else T i' f' b) ?_ ?_
  ·rw[dO] at key;exact key
  ·refine⟨by rw[dO];exact k.len,k.cap,k.z0,tM k.width hrow hf,fun _=>⟨ad,rfl⟩,?_,fun e=>absurd e hm,fun _=>⟨fun e=>(by cases e),?_⟩,fun hm Gj ad' e i=>(by cases e;rw[World.frozen?_setCells];exact k.soft hm Gj ad rfl i),?_⟩
   ·intro ad' e i' f' tc ht
    cases e
    rcases ou hrow hf ht with⟨rfl,a,b,hc⟩|⟨hn',hc⟩
    ·rw[aO ⟨rfl,a,b⟩]
     have hj:f'-f<vs.length:=by omega
     have:=hin (f'-f) hj;rw[show i'*z+f+(f'-f)=i'*z+f' by omega] at this;rw[this];simp[List.getD,aN hj]
    ·rw[aD aB]
     rw[hout]
     ·exact k.cell ad rfl i' f' tc hc
     ·obtain⟨_,hf',_⟩:=kW k.width hc
      by_cases hi:i'=i
      ·subst hi;omega
      ·rcases Nat.lt_or_gt_of_ne hi with hi|hi
       ·left
        have:i'*z+z≤i*z:=by rw[←xG];exact iD _ hi
        omega
       ·right
        have:i*z+z≤i'*z:=by rw[←xG];exact iD _ hi
        omega
   ·intro ad' e
    cases e
    refine⟨.inl KB,j9,fun j hj=> ?_⟩;obtain⟨⟨x,hx⟩,hfz⟩:=hall j hj;refine⟨?_,by rw[World.frozen?_setCells];exact hfz⟩;have:=World.isSome_setCells ad.block vs (ad.off+(i*z+f)) w ⟨ad.block,ad.off+j,none⟩ (by rw[hx];rfl);exact Option.isSome_iff_exists.1 this
   ·intro Cb i' f' b hb
    by_cases hr:i'=i∧f≤f'∧f'<f+ts.length
    ·rw[aO hr] at hb
     have hj:f'-f<ts.length:=by omega
     refine⟨.inr ⟨Cb,_,hj,hb.2⟩,fun ad' e=>(by cases e;exact PY _ b hj Cb hb.2),fun i2 f2 hb2=> ?_⟩
     by_cases A7:i2=i∧f≤f2∧f2<f+ts.length
     ·rw[aO A7] at hb2
      have:=(Od Cb _ b hj hb.2).2 _ aB hb2.2;omega
     ·rw[aD A7] at hb2
      exact absurd (k.gU Cb i2 f2 b hb2).1 (Od Cb _ b hj hb.2).1
    ·rw[aD hr] at hb
     obtain⟨d1,d2,d3⟩:=k.gU Cb i' f' b hb;refine⟨.inl d1,d2,fun i2 f2 hb2=> ?_⟩
     by_cases A7:i2=i∧f≤f2∧f2<f+ts.length
     ·rw[aO A7] at hb2
      exact absurd d1 (Od Cb _ b aB hb2.2).1
     ·rw[aD A7] at hb2
      exact d3 i2 f2 hb2
  ·intro i' f' tc ht
   rcases ou hrow hf ht with⟨rfl,a,b',hc⟩|⟨hn',hc⟩
   ·rw[aO ⟨rfl,a,b'⟩]
    have hj:f'-f<vs.length:=by omega
    have hx:=hX (f'-f) tc vs[f'-f] hc (aN hj)
    have hv:vs.getD (f'-f) undef=vs[f'-f]:=by simp[List.getD,aN hj]
    rw[hv];refine(ah.move hx (fun b hb=>⟨hb,sO b (Oe b hb).1 (Oe b hb).2⟩) fun Nk b hb=>sO b (QD _ b aB hb) (PY _ b aB (kj Nk) hb)).mono' fun Nk b hb=> ?_;rw[aO ⟨rfl,a,b'⟩];exact⟨kj Nk,hb⟩
   ·rw[aD aB]
    refine(ah.move (hn i' f' tc hc) (fun b hb=>⟨hb,sO b (Oe b hb).1 (Oe b hb).2⟩) fun Nk b hb=> ?_).mono fun b hb=>by rw[aD aB];exact hb
    obtain⟨d1,d2,_⟩:=k.gU (kj Nk) i' f' b hb;exact sO b (hS b d1) (d2 ad rfl)
theorem ah.inner {Rd S:Nat→Prop} {z n c:Nat} {rows:List (List TC)} {ad:Addr} (h:ah w Rd .deep S (.sub z rows) (.slice (some ad) n c)) {i f:Nat} {tc:TC} (ht:lW rows i f=some tc):
 ∃V1 T0,w.cell? (ad.add (i*z+f))=some V1∧ah w Rd .deep T0 tc V1∧(∀k,T0 k→S k∧k≠ad.block)∧S ad.block∧
  ∀(w':World) (tc':TC) (T1:Nat→Prop),ah w' Rd .deep T1 tc' V1→(∀k,S k→ ¬T0 k→w'.heap[k]?=w.heap[k]?)→(∀k,T1 k→T0 k∨ ¬S k)→
   ah w' Rd .deep (fun k=>(S k∧ ¬T0 k)∨T1 k) (.sub z (h9 rows i f [tc'])) (.slice (some ad) n c):=by
 cases h with
 |sub _ _ _ _ _ _ u T k hn=>
  obtain⟨row,hrow,hfr⟩: ∃row,rows[i]?=some row∧row[f]?=some tc:=by
   unfold lW at ht
   cases hr:rows[i]? with
   |none=>rw[hr] at ht;cases ht
   |some row=>rw[hr] at ht;exact⟨row,rfl,ht⟩
  have hf:f+1≤row.length:=(List.getElem?_eq_some_iff.1 hfr).1;obtain⟨KB,j9,hall⟩:=(k.own dK).2 ad rfl;have Of: ∀b,T i f b→S b∧b≠ad.block:=fun b hb=>⟨(k.gU rfl i f b hb).1,(k.gU rfl i f b hb).2.1 ad rfl⟩;refine⟨u i f,T i f,k.cell ad rfl i f tc ht,hn i f tc ht,Of,KB,fun w' tc' T1 h1 hsame O9=> ?_⟩;have zy:w'.heap[ad.block]?=w.heap[ad.block]?:=hsame _ KB fun hb=>(Of _ hb).2 rfl;have key:=ah.sub (w:=w') (R:=Rd) .deep (fun b=>(S b∧ ¬T i f b)∨T1 b) z (h9 rows i f [tc']) (some ad) c u (fun i' f' b=>if i'=i∧f'=f then T1 b else T i' f' b) ?_ ?_
  ·rw[dO] at key;exact key
  ·refine⟨by rw[dO];exact k.len,k.cap,k.z0,tM k.width hrow hf,fun _=>⟨ad,rfl⟩,?_,fun e=>(by cases e),fun _=>⟨fun e=>(by cases e),?_⟩,fun hm Gj ad' e i=>(by cases e;rw[ek (w:=w) (a:=⟨ad.block,i,none⟩) zy];exact k.soft dK Gj ad rfl i),?_⟩
   ·intro ad' e i' f' t' ht'
    cases e
    rw[ck (w:=w) (by rw[aP];exact zy)];rcases ou hrow hf ht' with⟨rfl,a,b,hc⟩|⟨_,hc⟩
    ·have:f'=f:=by simp at b;omega
     subst this;exact k.cell ad rfl _ _ tc ht
    ·exact k.cell ad rfl i' f' t' hc
   ·intro ad' e
    cases e
    refine⟨.inl ⟨KB,fun hb=>(Of _ hb).2 rfl⟩,j9,fun j hj=> ?_⟩;obtain⟨⟨x,hx⟩,hfz⟩:=hall j hj;exact⟨⟨x,by rw[ck (w:=w) (by exact zy)];exact hx⟩,by rw[ek (w:=w) (by exact zy)];exact hfz⟩
   ·intro _ i' f' b hb
    by_cases hr:i'=i∧f'=f
    ·rw[aO hr] at hb
     have hne:b≠ad.block:=fun e=>by
      subst e;rcases O9 _ hb with h|h
      ·exact(Of _ h).2 rfl
      ·exact h KB
     refine⟨.inr hb,fun ad' e=>(by cases e;exact hne),fun i2 f2 hb2=> ?_⟩
     by_cases A7:i2=i∧f2=f
     ·exact⟨A7.1.trans hr.1.symm,A7.2.trans hr.2.symm⟩
     ·rw[aD A7] at hb2
      rcases O9 _ hb with h|h
      ·have:=(k.gU rfl i2 f2 b hb2).2.2 i f h
       exact absurd ⟨this.1.symm,this.2.symm⟩ A7
      ·exact absurd (k.gU rfl i2 f2 b hb2).1 h
    ·rw[aD hr] at hb
     obtain⟨d1,d2,d3⟩:=k.gU rfl i' f' b hb;refine⟨.inl ⟨d1,fun hb0=>hr (by have:=d3 i f hb0;exact⟨this.1.symm,this.2.symm⟩)⟩,d2,fun i2 f2 hb2=> ?_⟩
     by_cases A7:i2=i∧f2=f
     ·rw[aO A7] at hb2
      rcases O9 _ hb2 with h|h
      ·have:=d3 i f h
       exact absurd ⟨this.1.symm,this.2.symm⟩ hr
      ·exact absurd d1 h
     ·rw[aD A7] at hb2
      exact d3 i2 f2 hb2
  ·intro i' f' t' ht'
   rcases ou hrow hf ht' with⟨rfl,a,b,hc⟩|⟨hn',hc⟩
   ·have:f'=f:=by simp at b;omega
    subst this;simp at hc;subst hc
    exact h1.mono fun b hb=>by rw[aO ⟨rfl,rfl⟩];exact hb
   ·have hr: ¬(i'=i∧f'=f):=by simp at hn';omega
    refine(ah.FU (hn i' f' t' hc) fun b hb=> ?_).mono fun b hb=>by rw[aD hr];exact hb
    obtain⟨d1,d2,d3⟩:=k.gU rfl i' f' b hb;exact hsame b d1 fun hb0=>hr (by have:=d3 i f hb0;exact⟨this.1.symm,this.2.symm⟩)
end Go.T
namespace Go.T
variable {F : Nat → Prop} {A : Arg} {w0 w w' : World} {φ φ' : Fp} {st st' bD gf : TS} {tm r9 : Array Value} {C : eZ}
variable {R : Type} {cf : Cf} {lp : Lp} {Q : R → Prop}
structure jg (F:Nat→Prop) (w0 w:World) (φ:Fp) (st:TS) (k:Nat):Prop where
 lt:k<w.heap.size
 new:w0.heap.size≤k∨F k
 I: ¬φ.I k
 S: ∀o,aj st.ob o→ ¬φ.S o k
 B: ∀b cs,aa b st.bx=some cs→(φ.β b).block≠k
theorem an.fR (h:an F A w0 φ st tm w) {o k:Nat} (ho:aj st.ob o) (hk:φ.S o k) {b:Nat} {cs:List CE} (hb:aa b st.bx=some cs):(φ.β b).block≠k:=fun e=>by
 subst e
 cases rI:ng b with
 |true=>exact(h.sep.box b cs hb rI).2.1 o ho hk
 |false=>
  have h1:=h.sep.fA _ ((h.sep.spot b cs hb).2.2 rI);rcases (h.sep.fresh o _ ho hk).2 with h3|h3
  ·omega
  ·exact h1.2 h3
theorem an.free (h:an F A w0 φ st tm w) (hs:bN st' st) {k:Nat} (hk: ∃o,aj st.ob o∧ ¬aj st'.ob o∧φ.S o k):jg F w0 w φ st' k:=by
 obtain⟨o,a1,a2,a3⟩:=hk
 exact⟨(h.sep.fresh o k a1 a3).1,(h.sep.fresh o k a1 a3).2,h.sep.read o k a1 a3,fun o' ho' hk=>by
  have:=h.sep.apart o o' k a1 (hs.dom ho') a3 hk
  subst this;exact a2 ho',fun b cs hb=>by
  obtain⟨cs0,c0,_⟩:=hs.bx b cs hb
  exact h.fR a1 a3 c0⟩
theorem CT (h:an F A w0 φ st tm w) (h1:an F A w0 φ bD tm w) {bq:List It} {X:Nat→Nat→Prop} {Zp:Nat→Prop} (p:eH w φ st bD bq X Zp) {r:Nat} {B b':OB} (hr:aa r bD.ob=some B) (hz:b'.z=B.z) (hl:b'.rows.length=B.rows.length)
 {Zt Xr:Nat→Prop} {gb off:Nat} {vs:List Value} (hg:φ.S r gb) (QE: ∀k,Xr k→ ¬Zt k∧(φ.S r k∨ ∃j,j<bq.length∧X j k)) (QF: ∀k,Zt k→Zp k∨φ.S r k)
 (hc:ah (w.setCells gb off vs) (fun k=>φ.I k∨Zt k) b'.m Xr (.sub b'.z b'.rows) (φ.V r)):Rel F A w0 (jR [(r,b')] bD) tm (w.setCells gb off vs):=by
 have hin:aj bD.ob r:=⟨_,hr⟩;have hsize:=(fe gb vs off w).2.2.2
 have lookW: ∀{o b},aa o [(r,b')]=some b→o=r∧b=b':=fun {o b} ho=>by
  simp only[aa] at ho
  cases hb:Nat.beq r o with
  |true=>rw[hb] at ho;cases ho;exact⟨(cX hb).symm,rfl⟩
  |false=>rw[hb] at ho;cases ho
 have neW: ∀{o},aa o [(r,b')]=none→o≠r:=fun {o} ho e=>by subst e;simp[aa] at ho
 have frS: ∀{k},φ.S r k→k<w.heap.size∧(w0.heap.size≤k∨F k)∧ ¬φ.I k∧(∀d,aj bD.ob d→aa d [(r,b')]=none→ ¬φ.S d k)∧ ∀b cs,aa b bD.bx=some cs→(φ.β b).block≠k:=fun {k} hk=>
  ⟨(h1.sep.fresh r k hin hk).1,(h1.sep.fresh r k hin hk).2,h1.sep.read r k hin hk,fun d hd hn hk'=>neW hn (h1.sep.apart d r k hd hin hk' hk),fun b cs hb=>h1.fR hin hk hb⟩
 refine⟨_,h1.wrote (w':=w.setCells gb off vs) [(r,b')] (fun _ k=>Xr k) Zt (fun k=>k=gb) (h1.frm.setCells (frS hg).2.1) (by rw[hsize];exact bH _) (fun k hk hn=>cm _ _ _ _ hk hn)
  (fun k e=>by subst e;exact(frS hg).2.1) (fun k e=>by subst e;exact(frS hg).2.2.1) (fun k o e ho hn=>by subst e;exact(frS hg).2.2.2.1 o ho hn) (fun b cs hb e=>(frS hg).2.2.2.2 b cs hb e) (fun o b ho=> ?_) (fun k hk=> ?_)⟩
 ·obtain⟨rfl,rfl⟩:=lookW ho
  refine⟨B,hr,hz,hl,hc,fun k hk=> ?_⟩;obtain⟨x1,x2⟩:=QE k hk;rcases x2 with x2|⟨j,hj,x2⟩
  ·obtain⟨f1,f2,f3,f4,f5⟩:=frS x2
   exact⟨by rw[hsize];exact f1,f2,f3,x1,f4,fun d b hb _=>(lookW hb).1,fun b cs hb _=>f5 b cs hb⟩
  ·have fr:=h.free p.sub (p.src j k hj x2).2
   exact⟨by rw[hsize];exact fr.lt,fr.new,fr.I,x1,fun d hd _=>fr.S d hd,fun d b hb _=>(lookW hb).1,fun b cs hb _=>fr.B b cs hb⟩
 ·rcases QF k hk with hz|hz
  ·have fr:=h.free p.sub (p.srcZ k hz)
   exact⟨by rw[hsize];exact fr.lt,fr.new.elim .inl fun hF=> .inr (.inl hF),fun d hd _=>fr.S d hd,fun b cs hb _=>fr.B b cs hb⟩
  ·obtain⟨f1,f2,f3,f4,f5⟩:=frS hz
   exact⟨by rw[hsize];exact f1,f2.elim .inl fun hF=> .inr (.inl hF),f4,fun b cs hb _=>f5 b cs hb⟩
theorem sv {a:Act} (hT:ct C) (h:an F A w0 φ st a.tmps w) {o:Oper} {t:TypeId} {q x:Operand} (ho:o.op= .store t q x) (ee:o.dst=none) {cs:List CE} (hkn:known (C.tt t)=true) (hcs:q9 st.ob w φ cs (a.eval x))
 (hsz:cs.length=(C.tt t).size) {r:Nat} {path:Option (Int×Nat)} {i:Int} {f:Nat} (hq:iO C st 0 q= .er r path i f) {K:TS→Ev R} (hk:(ta r path i f cs st K).holds cf lp Q):Dw C F A w0 φ st o a w K cf lp Q:=by
 have Nl:=bM hT h 0 q;rw[hq] at Nl;obtain⟨b,hb,hi,ad,n,c,hV,KC⟩:=Nl;unfold ta at hk
 split at hk
 ·rename_i ts bD d1 hab
  split at hk
  ·rename_i d z rows Ci
   have vlen:(a.eval x).cells.toList.length=cs.length:=by simpa using hcs.1
   have hce: ∀(j:Nat) (e:CE),cs[j]?=some e→ ∃v,(a.eval x).cells.toList[j]?=some v∧bh st.ob w φ e v:=fun j e he=>by
    obtain⟨y,y1,_,y3⟩:=hcs.2 j e he;exact⟨y,by simpa using y1,y3⟩
   have fin: ∀{ad':Addr} {b':OB},a.eval q= .pointer (some ad')→ad'.spot=none→(∀j,j<(a.eval x).cells.size→(w.cell? (ad'.add j)).isSome=true∧w.frozen? (ad'.add j)=false)→(∀y∈(a.eval x).cells.toList,y.oneCell'=true)→φ.S r ad'.block→
    Rel F A w0 (jR [(r,b')] bD) a.tmps (w.setCells ad'.block ad'.off (a.eval x).cells.toList)→(K (jR [(r,b')] bD)).holds cf lp Q→Dw C F A w0 φ st o a w K cf lp Q:=fun {ad' b'} hv hs hc h1 hS lH hk=>by
    have hrun:=tL (w:=w) (hT t hkn) hs (v:=a.eval x) (by rw[hcs.1,hsz]) h1 hc;refine⟨.skip,undef,_,_,?_,.inr ⟨rfl,rfl⟩,by rw[ee];exact lH,hk,by rw[(fe _ _ _ _).2.2.2];exact bH _,fun k hk JV=> ?_⟩
    ·unfold execOp
     rw[ho];simp only[Sem.run_bind,hv,hrun,Result.andThen]
     rfl
    ·refine cm _ _ _ _ hk fun e=>JV (.inr ⟨r,?_,⟨b,hb⟩,by rw[e];exact hS⟩)
     unfold writes;rw[ho];simp only[hq];exact .head _
   have one: ∀{M:Mode} {X:Nat→Nat→Prop} {Z:Nat→Prop},ts.length=cs.length→eH w φ st bD (bK M ts (a.eval x).cells.toList) X Z→ ∀y∈(a.eval x).cells.toList,y.oneCell'=true:=fun {M X Z} hl p y hy=>by
    obtain⟨j,hj,rfl⟩:=List.mem_iff_getElem.1 hy;exact jr (p.ok j _ (fI (aN aB) (aN hj)))
   cases path with
   |none=>
    simp only at hk;obtain⟨row,hrow,hk⟩:=hk;obtain⟨_,hrow⟩:=iy hrow;simp only at hk
    split at hk
    ·rename_i hle
     have hle:=iM hle
     obtain⟨h1,hl,hsub,os,tk⟩:=rm (if d&&d1 then .deep else .snap) cs st _ ts bD d1 h (bN.refl _) vlen hce (by
      cases hd:d&&d1 with
      |true=>simp only[cL] at hd;exact .inr ⟨hd.2,rfl⟩
      |false=>exact .inl rfl) hab
     obtain⟨X,Zp,p⟩:=tk.parts h;have:=hsub.ob r _ Ci;rw[hb] at this
     cases this
     have hO:=h1.obj r _ Ci;unfold fE at hO;rw[hV] at hO;have hin:aj bD.ob r:=⟨_,Ci⟩;have hlen:(bK (if(d&&d1)=true then Mode.deep else .snap) ts (a.eval x).cells.toList).length=ts.length:=dj aB;have itm: ∀(j:Nat) (tc:TC) (v:Value),ts[j]?=some tc→(a.eval x).cells.toList[j]?=some v→ah w (fun k=>φ.I k∨Zp k) (if(d&&d1)=true then Mode.deep else .snap) (X j) tc v:=fun j tc v e1 e2=>p.ok j _ (fI e1 e2);have zn:a.eval q= .pointer (some (ad.add (i.toNat*z+f))):=KC
     obtain⟨Zt,Sr,g1,g2,g3,g4,g5⟩: ∃Zt Sr:Nat→Prop,ah w (fun k=>φ.I k∨Zt k) (OB.m ⟨d&&d1,z,setRow rows i f ts⟩) Sr (.sub z rows) (.slice (some ad) n c)∧(∀k,Sr k→φ.S r k∧ ¬Zt k)∧(∀k,Zt k→(Zp k∨φ.S r k)∧k≠ad.block)∧
      (∀(j:Nat) (tc:TC) (v:Value),ts[j]?=some tc→(a.eval x).cells.toList[j]?=some v→ah w (fun k=>φ.I k∨Zt k) (OB.m ⟨d&&d1,z,setRow rows i f ts⟩).nx (X j) tc v)∧((d&&d1)=true→ ∀k,Zt k→Zp k):=by
      have adS:φ.S r ad.block:=by
       cases hO with
       |sub _ _ _ _ _ _ u T k hn=>exact(k.own (by unfold OB.m;split<;>simp)).2 ad rfl|>.1
      have zpn: ∀k,Zp k→k≠ad.block:=fun k hk e=>(h.free p.sub (p.srcZ k hk)).S r hin (by rw[e];exact adS)
      cases hd:d&&d1 with
      |true=>
       rw[hd] at itm
       have Fz:d=true:=by simp only[cL] at hd;exact hd.1
       subst Fz;refine⟨Zp,φ.S r,hO.gq fun k hk=> .inl hk,fun k hk=>⟨hk,fun hz=>(h.free p.sub (p.srcZ k hz)).S r hin hk⟩,fun k hk=>⟨.inl hk,zpn k hk⟩,itm,fun _ k hk=>hk⟩
      |false=>
       rw[hd] at itm;refine⟨fun k=>Zp k∨(φ.S r k∧ ¬ya .top (.slice (some ad) n c) (φ.S r) k),ya .top (.slice (some ad) n c) (φ.S r),?_,fun k hk=>⟨hk.1,fun hz=> ?_⟩,fun k hk=> ?_,fun j tc v e1 e2=> ?_,fun e=>by cases e⟩
       ·exact hO.out (m:= .top) (by unfold OB.m;split<;>simp) (fun e=>by cases e) (fun k hk=> .inl hk) fun k hk hn=> .inr (.inr ⟨hk,hn⟩)
       ·rcases hz with hz|hz
        ·exact(h.free p.sub (p.srcZ k hz)).S r hin hk.1
        ·exact hz.2 hk
       ·rcases hk with hk|hk
        ·exact⟨.inl hk,zpn k hk⟩
        ·exact⟨.inr hk.1,fun e=>hk.2 ⟨hk.1,ad,n,c,rfl,e⟩⟩
       ·exact(itm j tc v e1 e2).gP (S':=X j) fun k hk=>hk.elim .inl fun h=> .inr (.inl h)
     obtain⟨ps,pS,pt,pc⟩:=g1.put (by unfold OB.m;split<;>simp) hrow hle (vs:=(a.eval x).cells.toList) aB (one hl p) g4 (fun Cb j k hj hk=>by
      obtain⟨s1,s2⟩:=p.src j k (by rw[hlen];exact hj) hk
      exact⟨fun hS=>(h.free p.sub s2).S r hin (g2 k hS).1,fun j' hj' hk'=>p.apart _ _ k (by rw[hlen];exact hj') (by rw[hlen];exact hj) hk' hk⟩)
      (fun k hk=>by
        rcases hk with hk|hk
        ·refine⟨(h.sep.ro k hk).1,fun e=> ?_⟩
         have adS:φ.S r ad.block:=by
          cases hO with
          |sub _ _ _ _ _ _ u T k hn=>exact(k.own (by unfold OB.m;split<;>simp)).2 ad rfl|>.1
         exact h1.sep.read r _ hin adS (by rw[←e];exact hk)
        ·refine⟨?_,(g3 k hk).2⟩
         rcases (g3 k hk).1 with hz|hz
         ·exact(h.free p.sub (p.srcZ k hz)).lt
         ·exact(h1.sep.fresh r k hin hz).1)
      (fun k hk=>(h1.sep.fresh r k hin (g2 k hk).1).1) (fun j k hj hk=>(h.free p.sub (p.src j k (by rw[hlen];exact hj) hk).2).lt)
     refine fin zn (qg _ ps) (fun j hj=>by rw[Addr.add_add];exact pt j (by simpa using hj)) (one hl p) (by rw[aP];exact(g2 _ pS).1) ?_ hk;rw[aP,ko _ ps];refine CT h h1 p Ci (b':=⟨d&&d1,z,setRow rows i f ts⟩) rfl (by simp only[jt,dO]) (g2 _ pS).1 (Zt:=Zt) (Xr:=fun k=>Sr k∨((OB.m ⟨d&&d1,z,setRow rows i f ts⟩)= .deep∧ ∃j,j<ts.length∧X j k)) (fun k hk=> ?_) (fun k hk=>(g3 k hk).1) ?_
     ·rcases hk with hk|⟨Cb,j,hj,hk⟩
      ·exact⟨(g2 k hk).2,.inl (g2 k hk).1⟩
      ·refine⟨fun hz=> ?_,.inr ⟨j,by rw[hlen];exact hj,hk⟩⟩
       have Fz:(d&&d1)=true:=by
        unfold OB.m at Cb
        cases hd:d&&d1 with
        |true=>rfl
        |false=>simp[hd] at Cb
       exact(p.src j k (by rw[hlen];exact hj) hk).1 (g5 Fz k hz)
     ·show ah _ _ (OB.m ⟨d&&d1,z,setRow rows i f ts⟩) _ (.sub z (setRow rows i f ts)) _
      rw[hV,jt];exact pc
    ·exact hk.elim
   |some pq=>
    obtain⟨i0,f0⟩:=pq;simp only at hk
    split at hk
    ·obtain⟨row0,ID,hk⟩:=hk
     obtain⟨_,ID⟩:=iy ID;simp only at hk
     split at hk
     ·rename_i z1 g9 LH
      obtain⟨row,hrow,hk⟩:=hk;obtain⟨_,hrow⟩:=iy hrow;simp only at hk
      split at hk
      ·rename_i hle
       have hle:=iM hle;obtain⟨h1,hl,hsub,os,tk⟩:=rm .deep cs st _ ts bD true h (bN.refl _) vlen hce (.inr ⟨rfl,rfl⟩) hab;obtain⟨X,Zp,p⟩:=tk.parts h;have:=hsub.ob r _ Ci;rw[hb] at this
       cases this
       have hO:=h1.obj r _ Ci;unfold fE at hO;rw[hV] at hO;have hin:aj bD.ob r:=⟨_,Ci⟩;have hlen:(bK Mode.deep ts (a.eval x).cells.toList).length=ts.length:=dj aB;obtain⟨_,z1',rows1',Nb,ad1,n1,c1,hcell,Mi⟩:=KC;have PZ:lW rows i0.toNat f0=some (.sub z1 g9):=kr ID LH;rw[PZ] at Nb
       cases Nb
       obtain⟨V1,T0,v1,v2,v3,v4,v5⟩:=ah.inner (hO.gq (R':=fun k=>φ.I k∨Zp k) fun k hk=> .inl hk:ah w (fun k=>φ.I k∨Zp k) .deep (φ.S r) (.sub z rows) (.slice (some ad) n c)) PZ
       have:V1= .slice (some ad1) n1 c1:=by have hh:=v1.symm.trans hcell;simpa using hh
       subst this;have XS: ∀j k,j<ts.length→X j k→ ¬φ.S r k:=fun j k hj hk=>(h.free p.sub (p.src j k (by rw[hlen];exact hj) hk).2).S r hin
       have ad1S:T0 ad1.block:=by
        cases v2 with
        |sub _ _ _ _ _ _ u T k hn=>exact(k.own dK).2 ad1 rfl|>.1
       obtain⟨ps,pS,pt,pc⟩:=v2.put dK hrow hle (vs:=(a.eval x).cells.toList) aB (one hl p) (X:=X) (fun j tc v e1 e2=>p.ok j _ (fI e1 e2)) (fun _ j k hj hk=>
        ⟨fun hS=>XS j k hj hk (v3 k hS).1,fun j' hj' hk'=>p.apart _ _ k (by rw[hlen];exact hj') (by rw[hlen];exact hj) hk' hk⟩)
        (fun k hk=>by
          rcases hk with hk|hk
          ·exact⟨(h.sep.ro k hk).1,fun e=>h1.sep.read r _ hin (v3 _ ad1S).1 (by rw[←e];exact hk)⟩
          ·have fr:=h.free p.sub (p.srcZ k hk)
           exact⟨fr.lt,fun e=>fr.S r hin (by rw[e];exact(v3 _ ad1S).1)⟩)
        (fun k hk=>(h1.sep.fresh r k hin (v3 k hk).1).1) (fun j k hj hk=>(h.free p.sub (p.src j k (by rw[hlen];exact hj) hk).2).lt)
       have zn:a.eval q= .pointer (some (ad1.add (i.toNat*z1+f))):=Mi;refine fin zn (qg _ ps) (fun j hj=>by rw[Addr.add_add];exact pt j (by simpa using hj)) (one hl p) (by rw[aP];exact(v3 _ ad1S).1) ?_ hk;rw[aP,ko _ ps]
       have hnew:=v5 _ _ _ pc (fun k hk hn=>cm _ _ _ _ (h1.sep.fresh r k hin hk).1 fun e=>hn (by rw[e];exact ad1S)) (fun k hk=>by
        rcases hk with hk|⟨_,j,hj,hk⟩
        ·exact .inl hk
        ·exact .inr (XS j k hj hk))
       refine CT h h1 p Ci (b':=⟨true,z,setRow rows i0 f0 [.sub z1 (setRow g9 i f ts)]⟩) rfl (by simp only[jt,dO]) (v3 _ ad1S).1 (Zt:=Zp) (Xr:=fun k=>(φ.S r k∧ ¬T0 k)∨(T0 k∨(Mode.deep= .deep∧ ∃j,j<ts.length∧X j k))) (fun k hk=> ?_) (fun k hk=> .inl hk) ?_
       ·rcases hk with hk|hk|⟨_,j,hj,hk⟩
        ·exact⟨fun hz=>(h.free p.sub (p.srcZ k hz)).S r hin hk.1,.inl hk.1⟩
        ·exact⟨fun hz=>(h.free p.sub (p.srcZ k hz)).S r hin (v3 k hk).1,.inl (v3 k hk).1⟩
        ·exact⟨(p.src j k (by rw[hlen];exact hj) hk).1,.inr ⟨j,by rw[hlen];exact hj,hk⟩⟩
       ·show ah _ _ .deep _ (.sub z (setRow rows i0 f0 [.sub z1 (setRow g9 i f ts)])) _
        rw[hV,jt,jt];exact hnew
      ·exact hk.elim
     ·exact hk.elim
    ·exact hk.elim
  ·exact hk.elim
 ·exact hk.elim
theorem Hs {a:Act} (hT:ct C) (h:an F A w0 φ st a.tmps w) {o:Oper} {t:TypeId} {q x:Operand} (ho:o.op= .store t q x) {K:TS→Ev R} (hk:(gm C st o K).holds cf lp Q):Dw C F A w0 φ st o a w K cf lp Q:=by
 unfold gm at hk;rw[ho] at hk;simp only at hk
 split at hk
 ·rename_i cs ee hkn hc
  have hcs:=jm (bM hT h t x) hc
  split at hk
  ·rename_i b off hsz hp
   split at hk
   ·rename_i st' hs
    exact CS hT h ho ee hkn hcs (cX hsz) hp hs hk
   ·exact hk.elim
  ·rename_i r i f hsz hp
   split at hk
   ·have Nl:=bM hT h 0 q
    rw[hp] at Nl;obtain⟨b,hb,_⟩:=Nl;obtain⟨h',hce⟩:=h.nk hb
    have Pb:q9 (nk r st).ob w (φ.BD r) (cs.map (xL r)) (a.eval x):=by
     refine⟨by rw[dG];exact hcs.1,fun j e he=> ?_⟩;rw[eF] at he
     cases hj:cs[j]? with
     |none=>rw[hj] at he;cases he
     |some e0=>
      rw[hj] at he;simp only[e9,aE] at he;subst he;obtain⟨y,y1,y2,y3⟩:=hcs.2 j e0 hj;exact⟨y,y1,y2,hce _ _ y3⟩
    have B9:iO C (nk r st) 0 q= .er r none i f:=by
     cases q with
     |tmp n=>
      have hp:st.get n= .er r none i f:=hp;show(nk r st).get n=_;unfold T.nk;rw[hb];simp only;rw[get_map _ _ _ rfl,hp]
      rfl
     |_=>exact hp
    obtain⟨nx,v,w',st',d1,d2,d3,d4,d5,d6⟩:=sv hT h' ho ee hkn Pb (by rw[dG];exact cX hsz) B9 hk;refine⟨nx,v,w',st',d1,d2,d3,d4,d5,fun k hk JV=>d6 k hk fun hw=>JV ?_⟩
    have e1:writes C st o=[2*r]:=by unfold writes;rw[ho];simp only[hp]
    have e2:writes C (nk r st) o=[2*r]:=by unfold writes;rw[ho];simp only[B9]
    rw[e1];rw[e2] at hw;rcases hw with⟨b',cs',hm,_⟩|⟨o',hm,_,hS⟩
    ·simp only[eG] at hm;omega
    ·simp only[eG] at hm
     have:o'=r:=by omega
     subst this;exact .inr ⟨o',.head _,⟨b,hb⟩,hS.1⟩
   ·exact sv hT h ho ee hkn hcs (cX hsz) hp hk
  ·rename_i r path i f hn hsz hp
   exact sv hT h ho ee hkn hcs (cX hsz) hp hk
  ·exact hk.elim
 ·exact hk.elim
end Go.T
namespace Go.T
variable {F : Nat → Prop} {A : Arg} {w0 w w' : World} {φ φ' : Fp} {st st' bD gf : TS} {tm r9 : Array Value} {C : eZ}
variable {R : Type} {cf : Cf} {lp : Lp} {Q : R → Prop}
theorem tN (h0:an F A w0 φ st tm w) (h:an F A w0 φ st' tm w) {dp:Bool} {z:Nat} {rows:List (List TC)} {vs:List Value} {X:Nat→Nat→Prop} {Z:Nat→Prop} {d:Nat}
 (p:eH w φ st st' (bK (if dp then .deep else .snap) rows.flatten vs) X Z) (hz:0<z) (nU: ∀r∈rows,r.length=z) (hl:vs.length=rows.length*z) {c:Nat} (hc:rows.length≤c) (JT:c≤maxLen)
 (g:gn w w') (hlt:w.heap.size<w'.heap.size) (hcell: ∀(j:Nat) (v:Value),vs[j]?=some v→w'.cell? ⟨w.heap.size,j,none⟩=some v)
 (hall: ∀j,j<c*z→(∃x,w'.cell? ⟨w.heap.size,j,none⟩=some x)∧w'.frozen? ⟨w.heap.size,j,none⟩=false) (zo:1<z→ ∀i,w'.frozen? ⟨w.heap.size,i,none⟩=false) (hd:d<tm.size):
 Rel F A w0 (lK d ⟨dp,z,rows⟩ st') (tm.setIfInBounds d (.slice (some ⟨w.heap.size,0,none⟩) rows.length c)) w':=by
 have hlen:(bK (if dp then Mode.deep else .snap) rows.flatten vs).length=rows.length*z:=by rw[dj (by rw[aW nU,hl]),aW nU]
 exact Hq h0 h p hz nU hl (ad:=⟨w.heap.size,0,none⟩) hc JT rfl (h.frm.DK g) g.size (fun k hk _=>g.block k hk) (G:=fun _=>False) (fun k hk=>hk.elim)
  (fun k hk=>⟨id,fun e=>by have:=(h0.free p.sub (p.srcZ k hk)).lt;rw[e] at this;simp at this⟩)
  (fun i k hi hk=>⟨id,fun e=>by have:=(h0.free p.sub (p.src i k (by rw[hlen];exact hi) hk).2).lt;rw[e] at this;simp at this⟩)
  (.inl ⟨bH _,hlt⟩) (fun j v hj=>by rw[add_lit,eJ];exact hcell j v hj) (fun j hj=>by simp only[eJ];exact hall j hj) zo hd
theorem E5 {z:Nat}: ∀(ps:List (Nat×Value)) (n:Nat) (cs:Array Value),(∀(j:Nat) p,ps[j]?=some p→p.1=n+j∧p.2.cells.size=z)→(n+ps.length)*z≤cs.size→
 ∃cs',Instr.fill (fun i=>some (i*z,z)) cs ps=some cs'∧cs'.size=cs.size∧(∀j,j<n*z→cs'[j]?=cs[j]?)∧ ∀j,j<ps.length*z→cs'[n*z+j]?=(ps.flatMap fun p=>p.2.cells.toList)[j]?
 |[],n,cs,_,_=>⟨cs,rfl,rfl,fun _ _=>rfl,fun j hj=>by simp at hj⟩
 |(i,v)::r,n,cs,hp,hle=>by
  obtain⟨h1,h2⟩:=hp 0 _ rfl;simp only[jF] at h1 h2;subst h1;simp only[dH] at hle
  have QG:i*z+z≤cs.size:=by
   have:(i+1)*z≤(i+(r.length+1))*z:=iD _ aB;rw[jE] at this;omega
  obtain⟨g1,g2⟩:=uV (i*z) v.cells.toList 0 cs (by simp[h2];omega)
  obtain⟨cs',k1,k2,k3,k4⟩:=E5 r (i+1) (v.cells.zipIdx.foldl (fun(cs:Array Value) (p:Value×Nat)=>cs.setIfInBounds (i*z+p.2) p.1) cs) (fun j p hj=>by
   obtain⟨a,b⟩:=hp (j+1) p (by simpa using hj)
   exact⟨by omega,b⟩) (by
   have e1:v.cells.zipIdx.foldl (fun(cs:Array Value) (p:Value×Nat)=>cs.setIfInBounds (i*z+p.2) p.1) cs=(v.cells.toList.zipIdx 0).foldl (fun(cs:Array Value) (p:Value×Nat)=>cs.setIfInBounds (i*z+p.2) p.1) cs:=by
    rw[←Array.foldl_toList,Array.toList_zipIdx]
   rw[e1,g1]
   have:i+1+r.length=i+(r.length+1):=by omega
   rw[this];exact hle)
  have e1:v.cells.zipIdx.foldl (fun(cs:Array Value) (p:Value×Nat)=>cs.setIfInBounds (i*z+p.2) p.1) cs=(v.cells.toList.zipIdx 0).foldl (fun(cs:Array Value) (p:Value×Nat)=>cs.setIfInBounds (i*z+p.2) p.1) cs:=by
   rw[←Array.foldl_toList,Array.toList_zipIdx]
  refine⟨cs',?_,by rw[k2,e1,g1],fun j hj=> ?_,fun j hj=> ?_⟩
  ·unfold Instr.fill
   simp only[h2,ne_eq,not_true_eq_false,decide_false,xB,decide_eq_true_eq];rw[aD aB];exact k1
  ·rw[k3 j (by rw[jE];omega),e1,g2 j,aD aB]
  ·rw[List.flatMap_cons]
   by_cases RM:j<z
   ·rw[k3 _ (by rw[jE];omega),e1,g2,aO (by simp[h2];omega),e8 (by simp[h2];omega)]
    simp
   ·rw[fU (by simp[h2];omega)]
    have:=k4 (j-z) (by simp only[dH,jE] at hj;omega);rw[show(i+1)*z+(j-z)=i*z+j by rw[jE];omega] at this;rw[this];simp[h2]
theorem yd {P:Program} {t e:TypeId} {i:TypeInfo} {zv:Value} (ht:P.underlying t=some (.slice e)) (hi:P.info? e=some i) (hz:i.zero=some zv) (parts:Array (Nat×Value)) {len:Nat}
 (hp: ∀(j:Nat) p,parts.toList[j]?=some p→p.1=j∧p.2.cells.size=i.size) (hl:parts.size=len) (hle:len*i.size≤16777216):
 ∃cells,(Instr.buildSlice t len parts).run P w= .ok (.slice (some ⟨w.heap.size,0,none⟩) len len) (w.alloc (.cells cells e))∧cells.size=len*i.size∧ ∀j,j<len*i.size→cells[j]?=(parts.toList.flatMap fun p=>p.2.cells.toList)[j]?:=by
 have Nm: ¬(len*i.size>16777216):=by omega
 obtain⟨cs',k1,k2,_,k4⟩:=E5 (z:=i.size) parts.toList 0 ((Array.range (len*i.size)).map ((if len*i.size=0 then #[] else zv.cells)[· % (if len*i.size=0 then #[] else zv.cells).size]!)) (fun j p hj=>by rw[eJ];exact hp j p hj) (by simp[hl]);refine⟨cs',?_,by rw[k2];simp,fun j hj=> ?_⟩
 ·unfold Instr.buildSlice
  by_cases h0:len*i.size=0
  ·have hr: ∀f:Nat→Value,(Array.range 0).map f= #[]:=fun f=>Array.eq_empty_of_size_eq_zero dK
   simp only[h0,if_true,hr] at k1;simp[run_underlying ht,sizeOf,typeInfo,hi,Nm,h0,hr,k1,newRow]
  ·simp only[h0,if_false] at k1
   simp[run_underlying ht,sizeOf,typeInfo,zeroValue,hi,hz,Nm,h0,k1,newRow]
 ·have:=k4 j (by rw[nh,hl];exact hj)
  simpa using this
theorem Aw (hT:ct C) {a:Act} {ty:TypeId} (M:Mode): ∀(l:List (Nat×Operand)) (n:Nat) (st:TS) (rs:List (List TC)) (st':TS) (dp:Bool),an F A w0 φ st a.tmps w→(M= .snap∨dp=true∧M= .deep)→rowsOf C st ty l n=some (rs,st',dp)→
 an F A w0 φ st' a.tmps w∧rs.length=l.length∧(∀r∈rs,r.length=(C.tt ty).size)∧(∀(j:Nat) p,l[j]?=some p→p.1=n+j∧(a.eval p.2).cells.size=(C.tt ty).size)∧
  ∃X Z,eH w φ st st' (bK M rs.flatten (l.flatMap fun p=>(a.eval p.2).cells.toList)) X Z
 |[],n,st,rs,st',dp,h,hM,hr=>by
  cases hr
  exact⟨h,rfl,fun r hr=>(by cases hr),fun j p hj=>by simp at hj,_,_,eH.nil _⟩
 |(i,x)::l,n,st,rs,st',dp,h,hM,hr=>by
  simp only[rowsOf] at hr
  split at hr
  ·rename_i cs hin hcs
   have hin:=cX hin;have hok:=jm (bM hT h ty x) hcs
   split at hr
   ·rename_i cs' bD d1 hsz hab
    have hsz:=cX hsz
    split at hr
    ·rename_i rs2 gf d2 A7
     cases hr
     have vlen:(a.eval x).cells.toList.length=cs.length:=by simpa using hok.1
     obtain⟨h1,wB,A6,os,tk⟩:=rm M cs st (a.eval x).cells.toList cs' bD d1 h (bN.refl _) vlen (fun j e he=>by
      obtain⟨y,y1,_,y3⟩:=hok.2 j e he
      exact⟨y,by simpa using y1,y3⟩) (by
      rcases hM with hM|⟨hd,hM⟩
      ·exact .inl hM
      ·simp only[cL] at hd;exact .inr ⟨hd.1,hM⟩) hab
     obtain⟨X1,Z1,p1⟩:=tk.parts h
     obtain⟨h2,sN,Cc,EB,X2,Z2,p2⟩:=Aw hT M l (n+1) bD rs2 _ d2 h1 (by
      rcases hM with hM|⟨hd,hM⟩
      ·exact .inl hM
      ·simp only[cL] at hd;exact .inr ⟨hd.2,hM⟩) A7
     have key:=p1.app h p2;rw[←mV aB] at key;refine⟨h2,by simp[sN],fun r hr=> ?_,fun j p hj=> ?_,_,_,key⟩
     ·rcases bC.1 hr with rfl|hr
      ·rw[wB,hsz]
      ·exact Cc r hr
     ·cases j with
      |zero=>simp only[bL,aE] at hj;subst hj;exact⟨hin,by rw[hok.1,hsz]⟩
      |succ j=>
       obtain⟨a1,a2⟩:=EB j p (by simpa using hj);exact⟨by omega,a2⟩
    ·cases hr
   ·cases hr
  ·cases hr
theorem zF (hT:ct C) {a:Act} (h:an F A w0 φ st a.tmps w) {o:Oper} {t:TypeId} {n:Nat} {ps:Array (Nat×Operand)} (ho:o.op= .buildSlice t n ps) {K:TS→Ev R} (hd: ∀d,o.dst=some d→d<a.tmps.size) (hk:(gm C st o K).holds cf lp Q):
 Dw C F A w0 φ st o a w K cf lp Q:=by
 unfold gm at hk;rw[ho] at hk;simp only at hk
 split at hk
 ·rename_i d e ee he
  split at hk
  ·rename_i rs st' dp hb hr
   simp only[cL] at hb;obtain⟨⟨hn,hle⟩,Cg⟩:=hb;have hn:=cX hn;have hle:=iM hle;obtain⟨hkn,hnp⟩:=nB Cg;obtain⟨i,zv,g1,g2,g3,_⟩:=Bv (w:=w) (φ:=φ) hT hkn hnp (ob:=st.ob);obtain⟨h1,hl,hw,hp,X,Z,p⟩:=Aw hT (if dp then .deep else .snap) ps.toList 0 st rs st' dp h (by cases dp<;>simp) hr
   have uD:rs.length=n:=by rw[hl,hn];simp
   obtain⟨cells,c1,c2,c3⟩:=yd (w:=w) (kH hT he).1 g1 g3 (ps.map fun(i,x)=>(i,a.eval x)) (len:=n) (fun j q hj=>by
    rw[Array.toList_map,eF] at hj
    cases hq:ps.toList[j]? with
    |none=>rw[hq] at hj;cases hj
    |some r=>
     rw[hq] at hj;simp only[e9,aE] at hj;subst hj;obtain⟨a1,a2⟩:=hp j r hq
     exact⟨by rw[a1,eJ],by rw[g2];exact a2⟩) (by simp[hn]) (by rw[g2];exact hle)
   have hvl:(ps.toList.flatMap fun p=>(a.eval p.2).cells.toList).length=rs.length*(C.tt e).size:=by
    have: ∀(l:List (Nat×Operand)),(∀p∈l,(a.eval p.2).cells.size=(C.tt e).size)→(l.flatMap fun p=>(a.eval p.2).cells.toList).length=l.length*(C.tt e).size:=by
     intro l
     induction l with
     |nil=>intro _;simp
     |cons x r ih=>
      intro hx;rw[List.flatMap_cons,cM,ih fun p hp=>hx p (.tail _ hp),nh,hx x (.head _),dH,jE];omega
    rw[this _ fun p B9=> ?_,hl];obtain⟨j,hj,rfl⟩:=List.mem_iff_getElem.1 B9;exact(hp j _ (aN hj)).2
   have QH:((ps.map fun(i,x)=>(i,a.eval x)).toList.flatMap fun p=>p.2.cells.toList)=ps.toList.flatMap fun p=>(a.eval p.2).cells.toList:=by
    rw[Array.toList_map,List.flatMap_map]
   have lH:=tN (w':=w.alloc (.cells cells e)) (d:=d) h h1 p (hT e hkn).pos hw hvl (c:=n) aB (by
    have hpos:=(hT e hkn).pos;have:n≤n*(C.tt e).size:=Nat.le_mul_of_pos_right n hpos
    simp only[maxLen];omega) (gn.alloc w _) dK (fun j v hj=>by
    rw[kX,c3 j (by
     have:=(List.getElem?_eq_some_iff.1 hj).1;rw[hvl,uD] at this
     rw[g2];exact this),QH]
    exact hj) (fun j hj=>⟨⟨cells[j]'(by rw[c2,g2];exact hj),by rw[kX];exact kL _⟩,iz _ _ _ _⟩) (fun _ i=>iz _ _ _ _) (hd d ee)
   rw[uD] at lH;refine⟨.value _,_,_,_,?_,.inl rfl,by rw[ee];exact lH,hk,by simp,fun k hk _=>(gn.alloc w _).block k hk⟩;unfold execOp;rw[ho];simp only[Sem.run_bind,c1,Result.andThen]
   rfl
  ·exact hk.elim
 ·exact hk.elim
theorem xq {z:Nat} {rows:List (List TC)} (hz:0<z) (nU: ∀r∈rows,r.length=z) {p:Nat} {tc:TC} (hp:rows.flatten[p]?=some tc):lW rows (p/z) (p % z)=some tc:=by
 have hfl:=aW nU
 have hlt:p<rows.length*z:=by rw[←hfl];exact(List.getElem?_eq_some_iff.1 hp).1
 have hi:p/z<rows.length:=Nat.div_lt_of_lt_mul (by rw[Nat.mul_comm];exact hlt);have hrl:=nU _ (p0 hi)
 have hf:p % z<(rows[p/z]).length:=by rw[hrl];exact Nat.mod_lt _ hz
 have h1:lW rows (p/z) (p % z)=some (rows[p/z][p % z]):=by simp[lW,aN hi,aN hf]
 have h2:=(kW nU h1).1;rw[sV p z] at h2;rw[h1,←h2,hp]
theorem Ht {Rd S:Nat→Prop} {m:Mode} {c:TC} (h:DM c=true):ah w Rd m S c (I3 c):=by
 cases c with
 |any=>cases h
 |sc v=>cases v<;>first|exact .sc _ _ _ trivial|cases h
 |sub z rows=>cases rows with
  |nil=>exact me (iM h)
  |cons _ _=>cases h
attribute [local semireducible] eK rG sX fits in
theorem BF (hT:ct C) {a:Act} (h:an F A w0 φ st a.tmps w) {o:Oper} {t:TypeId} {l c:Operand} (ho:o.op= .makeSlice t l c) {K:TS→Ev R} (hd: ∀d,o.dst=some d→d<a.tmps.size) (hk:(gm C st o K).holds cf lp Q):
 Dw C F A w0 φ st o a w K cf lp Q:=by
 unfold gm at hk;rw[ho] at hk;simp only at hk
 split at hk
 ·rename_i d e n n' ee he hl hc
  have hk2:(match(mT (C.tt e)&&eK n n'&&rG 0 n&&fits (sX n) (C.tt e).bytes) with|true=>K (lK d ⟨true,(C.tt e).size,List.replicate (sX n) (C.tt e).zero⟩ st)|false=> .fail:Ev R).holds cf lp Q:=hk;clear hk
  split at hk2
  ·rename_i hb
   simp only[cL] at hb;obtain⟨⟨⟨Cg,Pc⟩,h0⟩,hf⟩:=hb
   have Pc:n=n':=by simpa [eK] using Pc
   subst Pc
   have h0:0≤n:=by simpa [rG] using h0
   have hf:n.toNat*(C.tt e).bytes≤140737488355328∧n.toNat≤140737488355328:=by simpa [fits,sX] using hf
   obtain⟨hkn,hnp⟩:=nB Cg;obtain⟨i,zv,g1,g2,g2b,g3,g4⟩:=(hT e hkn).info;obtain⟨z1,z2,z3,_⟩:=g4 hnp;obtain⟨kl,hkl⟩:=nv (bM hT h 3 l) hl;obtain⟨kc,QI⟩:=nv (bM hT h 3 c) hc;have hpos:=(hT e hkn).pos
   have hzs:zv.cells.size=(C.tt e).size:=by rw[←nh,z1];simpa using z2
   have hby:(i.bytes:Int)*n≤281474976710656:=by
    have h1:=hf.1
    have e1:(i.bytes:Int)*n=((n.toNat*(C.tt e).bytes:Nat):Int):=by rw[g2b,Int.natCast_mul,Int.toNat_of_nonneg h0,Int.mul_comm]
    rw[e1];omega
   have hrun:=run_make (P:=C.P) w t e i zv (kH hT he).1 g1 g3 kl kc n n h0 (Int.le_refl _) hby aB
   have hw: ∀r∈List.replicate (sX n) (C.tt e).zero,r.length=(C.tt e).size:=fun r hr=>by rw[List.eq_of_mem_replicate hr];exact z2
   have hlen:(List.replicate (sX n) (C.tt e).zero).length=n.toNat:=by simp[sX]
   have hvl:(madeCells zv.cells (n.toNat*i.size)).toList.length=(List.replicate (sX n) (C.tt e).zero).length*(C.tt e).size:=by rw[hlen];simp[madeCells,g2]
   have hval: ∀{j:Nat} {v:Value},(madeCells zv.cells (n.toNat*i.size)).toList[j]?=some v→zv.cells[j % (C.tt e).size]?=some v:=fun {j v} hj=>by
    have hlt:j<n.toNat*i.size:=by have:=(List.getElem?_eq_some_iff.1 hj).1;simpa [madeCells] using this
    simp[madeCells,hlt] at hj;have hm:j % zv.cells.size<zv.cells.size:=Nat.mod_lt _ (by rw[hzs];exact hpos);rw[getElem!_pos zv.cells _ hm] at hj;rw[←hj,←hzs,kL hm]
   have p:eH w φ st st (bK (if true=true then .deep else .snap) (List.replicate (sX n) (C.tt e).zero).flatten (madeCells zv.cells (n.toNat*i.size)).toList) (fun _ _=>False) (fun _=>False):=by
    refine⟨fun j it hj=> ?_,fun _ _ _ hk=>hk.elim,fun _ hk=>hk.elim,fun _ _ _ _ _ hk=>hk.elim,bN.refl _⟩;obtain⟨tc,v,h1,h2,rfl⟩:=fu hj;have Gq:=xq hpos hw h1
    have Mj:(C.tt e).zero[j % (C.tt e).size]?=some tc:=by
     unfold lW at Gq
     cases hrow:(List.replicate (sX n) (C.tt e).zero)[j/(C.tt e).size]? with
     |none=>rw[hrow] at Gq;cases Gq
     |some row=>
      rw[hrow] at Gq;rw[List.eq_of_mem_replicate (c7 hrow)] at Gq;exact Gq
    have hv:=hval h2;rw[←Cj,z1,eF,Mj] at hv;simp only[e9,aE] at hv;subst hv;exact Ht (List.all_eq_true.1 z3 tc (c7 Mj))
   have lH:=tN (w':=w.alloc (.cells (madeCells zv.cells (n.toNat*i.size)) e)) (d:=d) h h p hpos hw hvl (c:=n.toNat) (by rw[hlen];exact bH _) (by simp only[maxLen];omega) (gn.alloc w _) dK (fun j v hj=>by
    rw[kX];simpa using hj) (fun j hj=>⟨⟨_,by rw[kX];exact kL (by rw[size_madeCells,g2];exact hj)⟩,iz _ _ _ _⟩) (fun _ i=>iz _ _ _ _) (hd d ee)
   rw[hlen] at lH;refine⟨.value _,_,_,_,?_,.inl rfl,by rw[ee];exact lH,hk2,by simp,fun k hk _=>(gn.alloc w _).block k hk⟩;unfold execOp;rw[ho];simp only[hkl,QI,Sem.run_bind,hrun,Result.andThen]
   rfl
  ·exact hk2.elim
 ·exact hk.elim
end Go.T
namespace Go.T
variable {F : Nat → Prop} {A : Arg} {w0 w w' : World} {φ φ' : Fp} {st st' sta bD gf : TS} {tm r9 : Array Value} {C : eZ}
variable {R : Type} {cf : Cf} {lp : Lp} {Q : R → Prop}
theorem Ax (w:World) (arr:Array Value) (t:TypeId) (fr:Nat×Nat) (j:Nat):(w.alloc (.cells arr t fr)).cell? ⟨w.heap.size,j,none⟩=arr[j]?:=by
 unfold World.cell?;simp only[heap_alloc_new]
 rfl
theorem CU (w:World) (arr:Array Value) (t:TypeId) (fr:Nat×Nat) (j:Nat) (h:j<fr.1):(w.alloc (.cells arr t fr)).frozen? ⟨w.heap.size,j,none⟩=false:=by
 unfold World.frozen?;simp only[heap_alloc_new];obtain⟨a,b⟩:=fr;simp only at h ⊢;simp;omega
attribute [local semireducible] rN in
theorem ye (s:ByteArray):rN s=s.data.toList.map fun b=>[TC.sc (.int .u8 b.toNat)]:=rfl
theorem D1 (s:ByteArray):(rN s).flatten=s.data.toList.map fun b=>TC.sc (.int .u8 b.toNat):=by
 rw[ye]
 induction s.data.toList with
 |nil=>rfl
 |cons b r ih=>simp only[List.map_cons,pZ,ih];rfl
theorem gE (s:ByteArray):(rN s).length=s.size:=by rw[ye,dG,nh];rfl
theorem vW (s:ByteArray): ∀r∈rN s,r.length=1:=fun r hr=>by
 rw[ye] at hr;obtain⟨_,_,rfl⟩:=List.mem_map.1 hr
 rfl
theorem Ay (s:ByteArray) (M:Mode) (st:TS):eH w φ st st (bK M (rN s).flatten (byteCells s)) (fun _ _=>False) (fun _=>False):=by
 refine⟨fun j it hj=> ?_,fun _ _ _ hk=>hk.elim,fun _ hk=>hk.elim,fun _ _ _ _ _ hk=>hk.elim,bN.refl _⟩;obtain⟨tc,v,h1,h2,rfl⟩:=fu hj;rw[D1,eF] at h1;unfold byteCells at h2;rw[eF] at h2
 cases hb:s.data.toList[j]? with
 |none=>rw[hb] at h1;cases h1
 |some b=>
  rw[hb] at h1 h2;simp only[e9,aE] at h1 h2;subst h1 h2;exact .sc _ _ _ trivial
attribute [local semireducible] fits in
theorem E6 {n b:Nat} (h:fits n b=true):n*b≤140737488355328∧n≤140737488355328:=sW h
theorem Hu (hT:ct C) {a:Act} (h:an F A w0 φ st a.tmps w) {o:Oper} {src dst:TypeId} {x:Operand} (ho:o.op= .convert src dst x) {K:TS→Ev R} (hd: ∀d,o.dst=some d→d<a.tmps.size) (hk:(gm C st o K).holds cf lp Q):Dw C F A w0 φ st o a w K cf lp Q:=by
 have uH:=hk;unfold gm at hk;rw[ho] at hk;simp only at hk
 split at hk
 ·rename_i et hdt hst
  split at hk
  ·rename_i d s ee hu hs
   have hv:=Bp (bM hT h src x) hs;have hrun:=run_bytes_of_string (P:=C.P) w src dst et s (xY hT hst) (xZ hT hdt).1 (Bw hT hu);have hge:=grownCap_ge w s.size 0 et
   have hsz:(bytesRow s (grownCap w s.size 0 et)).size=grownCap w s.size 0 et:=by
    have:s.data.size=s.size:=rfl;simp[bytesRow,this];omega
   have hk2:(match fits s.size 1 with|true=>K (lK d ⟨true,1,rN s⟩ st)|false=> .fail:Ev R).holds cf lp Q:=hk;clear hk
   split at hk2
   ·rename_i hfit
    have hbig:s.size≤maxLen:=by
     have:s.size*1≤140737488355328∧s.size≤140737488355328:=E6 hfit;simp only[maxLen];omega
    have lH:=tN (w':=w.drew.alloc (.cells (bytesRow s (grownCap w s.size 0 et)) et ((bytesRow s (grownCap w s.size 0 et)).size,(bytesRow s (grownCap w s.size 0 et)).size+1))) (d:=d) (dp:=true) (z:=1) h h (Ay s _ st)
     Nat.one_pos (vW s) (by rw[byteCells_length,gE,Nat.mul_one]) (c:=grownCap w s.size 0 et) (by rw[gE];exact hge) (grownCap_le_maxLen w s.size 0 et hbig) ((gn.drew w).trans (gn.alloc _ _)) dK
     (fun j v hj=>by
       have hj0:=hj
       have hjl:j<s.size:=by have:=(List.getElem?_eq_some_iff.1 hj).1;rwa [byteCells_length] at this
       show(w.drew.alloc _).cell? ⟨w.drew.heap.size,j,none⟩=_;rw[Ax];unfold bytesRow;rw[Array.getElem?_append_left (by rw[Array.size_map];exact hjl)];unfold byteCells at hj0
       simpa using hj0)
     (fun j hj=>by
       rw[Nat.mul_one] at hj;show(∃x,(w.drew.alloc _).cell? ⟨w.drew.heap.size,j,none⟩=_)∧(w.drew.alloc _).frozen? ⟨w.drew.heap.size,j,none⟩=_
       exact⟨⟨_,by rw[Ax];exact kL (by rw[hsz];exact hj)⟩,CU _ _ _ _ _ (by simp only[hsz];exact hj)⟩) (fun Gj=>absurd Gj aB) (hd d ee)
    rw[gE] at lH;refine⟨.value _,_,_,_,?_,.inl rfl,by rw[ee];exact lH,hk2,by simp,fun k hk _=>((gn.drew w).trans (gn.alloc _ _)).block k hk⟩;unfold execOp;rw[ho];simp only[hv,Sem.run_bind,hrun,Result.andThen]
    rfl
   ·exact hk2.elim
  ·exact hk.elim
 ·exact E3 hT h hd hk
theorem yf {Rd S:Nat→Prop} {m:Mode} {z:Nat} {rows:List (List TC)} {v:Value} (hr:ah w Rd m S (.sub z rows) v) {tx e':TypeId} (hk:C.P.underlying tx=some (.slice e')) {size:Nat} (hsz:size=z) {vs:List Value} (hl:vs.length=rows.length*z)
 (hcell: ∀ad n c,v= .slice (some ad) n c→ ∀(j:Nat) (x:Value),vs[j]?=some x→w.cell? (ad.add j)=some x) (h1: ∀x∈vs,x.oneCell'=true):Src C.P size tx v rows.length vs w:=by
 subst hsz
 cases hr with
 |sub _ _ _ _ Ad c u T k hn=>
  cases Ad with
  |none=>
   have hne:rows=[]:=Classical.byContradiction fun hne=>by obtain⟨ad,h⟩:=k.addr hne;cases h
   subst hne;have:vs=[]:=rL (by simpa using hl);subst this;exact Src.ofNil w hk c
  |some ad=>exact Src.ofSlice w hk ad _ c vs hl (hcell ad _ _ rfl) h1
theorem ah.vals {Rd S:Nat→Prop} {m:Mode} {z:Nat} {rows:List (List TC)} {v:Value} (hr:ah w Rd m S (.sub z rows) v): ∃vals:List Value,vals.length=rows.length*z∧(∀r∈rows,r.length=z)∧0<z∧
 (∀ad n c,v= .slice (some ad) n c→ ∀(j:Nat) (x:Value),vals[j]?=some x→w.cell? (ad.add j)=some x)∧ ∀(p:Nat) (tc:TC) (x:Value),rows.flatten[p]?=some tc→vals[p]?=some x→ ∃T,ah w Rd m.nx T tc x:=by
 cases hr with
 |sub _ _ _ _ Ad c u T k hn=>
  have hz:=k.z0;have hfl:=aW k.width;refine⟨(List.range (rows.length*z)).map fun p=>u (p/z) (p % z),by simp,k.width,hz,?_,fun p tc x h1 h2=> ?_⟩
  ·intro ad n c' e j x hx
   cases e
   have hlt:j<rows.length*z:=by have:=(List.getElem?_eq_some_iff.1 hx).1;simpa using this
   simp[hlt] at hx;subst hx;obtain⟨tc,JU⟩: ∃tc,rows.flatten[j]?=some tc:=⟨_,aN (by rw[hfl];exact hlt)⟩;have:=k.cell ad rfl _ _ tc (xq hz k.width JU);rw[sV j z] at this;exact this
  ·have hlt:p<rows.length*z:=by have:=(List.getElem?_eq_some_iff.1 h2).1;simpa using this
   simp[hlt] at h2;subst h2;exact⟨_,hn _ _ tc (xq hz k.width h1)⟩
theorem Az (hT:ct C) {t t' ty e:TypeId} {P:Program} (hP:P=C.P) (ht:P.underlying t=some (.slice e)) (Cg:mT (C.tt e)=true) (h0:an F A w0 φ st tm w) (h1:an F A w0 φ bD tm w) {d:Nat} (hd:d<tm.size) {dp:Bool} {z:Nat} (hz:z=(C.tt e).size)
 {rows ay:List (List TC)} {qU oN:List Value} {X1 X2:Nat→Nat→Prop} {Z1 Z2:Nat→Prop} (p1:eH w φ st sta (bK (if dp then .deep else .snap) rows.flatten qU) X1 Z1) (p2:eH w φ sta bD (bK (if dp then .deep else .snap) ay.flatten oN) X2 Z2)
 (hw1: ∀r∈rows,r.length=z) (Cc: ∀r∈ay,r.length=z) (wB:qU.length=rows.length*z) (sN:oN.length=ay.length*z) {Ad:Option Addr} {c:Nat} (hc:rows.length≤c) (JT:c≤maxLen) {x:Value} (hs:Src P z t' x ay.length oN w)
 (hA:(Ad=none∧rows=[]∧c=0)∨ ∃ad,Ad=some ad∧ad.spot=none∧(∃o,aj st.ob o∧ ¬aj sta.ob o∧φ.S o ad.block)∧(∀(j:Nat) (v:Value),qU[j]?=some v→w.cell? (ad.add j)=some v)∧
   (∀j,j<c*z→(∃x,w.cell? ⟨ad.block,ad.off+j,none⟩=some x)∧w.frozen? ⟨ad.block,ad.off+j,none⟩=false)∧(∀i k,X1 i k→k≠ad.block)∧(∀k,Z1 k→k≠ad.block)∧(1<z→ ∀i,w.frozen? ⟨ad.block,i,none⟩=false))
 (hf:fits (rows.length+ay.length) (C.tt e).bytes=true):
 ∃v w',(Builtin.append_ #[t,t'] ty #[.slice Ad rows.length c,x]).run P w= .ok v w'∧Rel F A w0 (lK d ⟨dp,z,rows++ay⟩ bD) (tm.setIfInBounds d v) w'∧w.heap.size≤w'.heap.size∧ ∀k,k<w.heap.size→(∀ad,Ad=some ad→k≠ad.block)→w'.heap[k]?=w.heap[k]?:=by
 subst hP;obtain⟨QJ,P0⟩:=E6 hf;obtain⟨hkn,hnp⟩:=nB Cg;obtain⟨i,zv,g1,g2,g2b,g3,g4⟩:=(hT e hkn).info;obtain⟨z1,z2,z3,_⟩:=g4 hnp;have hpos:=(hT e hkn).pos
 have hzs:zv.cells.size=(C.tt e).size:=by rw[←nh,z1];simpa using z2
 have Mj:0<z:=by omega
 have isz:i.size=z:=by rw[g2,hz]
 have p:=p1.app h0 p2;have LK:=aW hw1;have Nn:=aW Cc;rw[←mV (by rw[LK,wB]),←EE] at p;have No: ∀r∈rows++ay,r.length=z:=fun r hr=>(List.mem_append.1 hr).elim (hw1 r) (Cc r)
 have LL:(qU++oN).length=(rows++ay).length*z:=by rw[cM,cM,jE,wB,sN]
 have hs':Src C.P i.size t' x ay.length oN w:=by rw[isz];exact hs
 have big:rows.length+ay.length≤maxLen:=by simp only[maxLen];omega
 have grow:c<rows.length+ay.length→(∃olds:List Value,olds=qU∧(Builtin.firstCells i.size rows.length (.slice Ad rows.length c)).run C.P w.drew= .ok olds.toArray w.drew)→
  ∃v w',(Builtin.append_ #[t,t'] ty #[.slice Ad rows.length c,x]).run C.P w= .ok v w'∧Rel F A w0 (lK d ⟨dp,z,rows++ay⟩ bD) (tm.setIfInBounds d v) w'∧w.heap.size≤w'.heap.size∧ ∀k,k<w.heap.size→(∀ad,Ad=some ad→k≠ad.block)→w'.heap[k]?=w.heap[k]?:=fun hg ⟨olds,ho,KA⟩=>by
  rw[ho] at KA;have hr:=run_append_grow_src (P:=C.P) w t t' ty e i zv ht g1 g3 Ad rows.length c qU KA x ay.length oN hs' hg (by simp only[maxLen] at big;omega) (growslice_fits hg (by rw[g2b];exact QJ));have hge:=grownCap_ge w (rows.length+ay.length) c e;have QL:=grownCap_le_maxLen w (rows.length+ay.length) c e big
  have hsize:((qU++oN).toArray++Builtin.zeroCells zv.cells (grownCap w (rows.length+ay.length) c e-(rows.length+ay.length))).size=grownCap w (rows.length+ay.length) c e*z:=by
   rw[Array.size_append,size_zeroCells,List.size_toArray,LL,hzs,←hz,cM,←jE]
   congr 1;omega
  have lH:=tN (w':=w.drew.alloc (.cells ((qU++oN).toArray++Builtin.zeroCells zv.cells (grownCap w (rows.length+ay.length) c e-(rows.length+ay.length))) e)) (d:=d) h0 h1 p Mj No LL
   (c:=grownCap w (rows.length+ay.length) c e) (by rw[cM];exact hge) QL ((gn.drew w).trans (gn.alloc _ _)) dK
   (fun j v hj=>by
     have hlt:=(List.getElem?_eq_some_iff.1 hj).1;have e1:=kX w.drew ((qU++oN).toArray++Builtin.zeroCells zv.cells (grownCap w (rows.length+ay.length) c e-(rows.length+ay.length))) e j;refine e1.trans ?_;rw[Array.getElem?_append_left (by simpa using hlt)]
     simpa using hj)
   (fun j hj=>⟨⟨_,(kX w.drew _ e j).trans (kL (by rw[hsize];exact hj))⟩,iz w.drew _ e j⟩) (fun _ i=>iz w.drew _ e i) hd
  rw[cM] at lH;exact⟨_,_,hr,lH,by simp,fun k hk _=>((gn.drew w).trans (gn.alloc _ _)).block k hk⟩
 rcases hA with⟨rfl,rfl,rfl⟩|⟨ad,rfl,j9,Pd,hcell,hall,QM,QN,zo⟩
 ·by_cases hn:ay.length=0
  ·have LG:ay=[]:=rL hn
   subst LG;have KD:oN=[]:=rL (by simpa using sN);subst KD;exact⟨_,w,run_append_nothing w t t' ty e i ht g1 none _ _ (bH _) x hs',FT h1 Mj hd,bH _,fun _ _ _=>rfl⟩
  ·refine grow sP ⟨_,rfl,?_⟩
   have KD:qU=[]:=rL (by simpa using wB);subst KD;exact run_firstCells_none w.drew i.size 0 0 0
 ·have QO: ∀i k,i<ay.length*z→X2 i k→k≠ad.block:=fun i k hi hk e=>by
   subst e;obtain⟨o,o1,o2,o3⟩:=Pd;obtain⟨o',q1,q2,q3⟩:=(p2.src i _ (by rw[dj (by rw[Nn,sN]),Nn];exact hi) hk).2;have:=h0.sep.apart o o' _ o1 (p1.sub.dom q1) o3 q3;subst this;exact o2 q1
  have LM: ∀k,Z2 k→k≠ad.block:=fun k hk e=>by
   subst e;obtain⟨o,o1,o2,o3⟩:=Pd;obtain⟨o',q1,q2,q3⟩:=p2.srcZ _ hk;have:=h0.sep.apart o o' _ o1 (p1.sub.dom q1) o3 q3;subst this;exact o2 q1
  by_cases hroom:rows.length+ay.length≤c
  ·have inb: ∀j,j<oN.length→rows.length*z+j<c*z:=fun j hj=>by
    have:rows.length*z+ay.length*z≤c*z:=by rw[←jE];exact iD _ hroom
    omega
   have had:(⟨ad.block,ad.off,none⟩:Addr)=ad:=by cases ad;simp_all
   have hr:=run_append_room_src (P:=C.P) w t t' ty e i ht g1 ad.block ad.off rows.length c x ay.length oN hs' hroom
    (fun j hj=>by obtain⟨⟨y,hy⟩,_⟩:=hall _ (inb j hj);rw[isz,lP,hy];rfl) (fun j hj=>by obtain⟨_,hy⟩:=hall _ (inb j hj);rw[isz,lP];exact hy)
   rw[had,isz] at hr
   have LN: ∃o,aj st.ob o∧ ¬aj bD.ob o∧φ.S o ad.block:=let ⟨o,o1,o2,o3⟩:=Pd;⟨o,o1,fun hd=>o2 (p2.sub.dom hd),o3⟩
   have fr:=h0.free p.sub LN;obtain⟨s1,s2,s3,s4⟩:=fe ad.block oN (ad.off+rows.length*z) w
   have Np: ∀j,j<c*z→(∃x,(w.setCells ad.block (ad.off+rows.length*z) oN).cell? ⟨ad.block,ad.off+j,none⟩=some x)∧(w.setCells ad.block (ad.off+rows.length*z) oN).frozen? ⟨ad.block,ad.off+j,none⟩=false:=fun j hj=>by
    obtain⟨⟨y,hy⟩,hz⟩:=hall j hj;exact⟨Option.isSome_iff_exists.1 (World.isSome_setCells _ _ _ w _ (by rw[hy];rfl)),by rw[World.frozen?_setCells];exact hz⟩
   have hcl: ∀{i k:Nat},i<(rows++ay).length*z→(if i<(bK (if dp=true then Mode.deep else .snap) rows.flatten qU).length then X1 i k else X2 (i-(bK (if dp=true then Mode.deep else .snap) rows.flatten qU).length) k)→k≠ad.block:=fun {i k} hi hk=>by
    rw[dj (by rw[LK,wB]),LK] at hk
    by_cases hlt:i<rows.length*z
    ·rw[aO hlt] at hk;exact QM i k hk
    ·rw[aD hlt] at hk;exact QO _ k (by rw[cM,jE] at hi;omega) hk
   have lH:=Hq (w':=w.setCells ad.block (ad.off+rows.length*z) oN) (d:=d) h0 h1 p Mj No LL (ad:=ad) (c:=c) (by rw[cM];exact hroom) JT j9 (h0.frm.setCells fr.new) (by rw[s4];exact bH _)
    (G:=fun k=>k=ad.block) (fun k hk hn=>cm _ _ _ _ hk hn) (fun k hk=>by subst hk;exact LN) (fun k hk=>by
      have:k≠ad.block:=hk.elim (QN k) (LM k)
      exact⟨this,this⟩) (fun i k hi hk=>⟨hcl hi hk,hcl hi hk⟩) (.inr LN) (fun j v hj=>by
      rw[ko j j9]
      by_cases hlt:j<rows.length*z
      ·rw[World.cell?_setCells_out _ _ _ _ _ (fun _ _=>by simp only;omega),←ko j j9]
       rw[e8 aB] at hj;exact hcell j v hj
      ·rw[fU aB,wB] at hj
       have Nq:=(List.getElem?_eq_some_iff.1 hj).1
       have:=World.cell?_setCells_in ad.block oN (ad.off+rows.length*z) w (fun j' hj'=>by
        obtain⟨⟨y,hy⟩,_⟩:=hall _ (inb j' hj');rw[lP,hy];rfl) (j-rows.length*z) Nq
       rw[show ad.off+rows.length*z+(j-rows.length*z)=ad.off+j by omega] at this;rw[this];rw[aN Nq] at hj
       exact hj) Np (fun Gj i=>by rw[World.frozen?_setCells];exact zo Gj i) hd
   rw[cM] at lH;exact⟨_,_,hr,lH,by rw[s4];exact bH _,fun k hk hn=>cm _ _ _ _ hk (hn ad rfl)⟩
  ·refine grow aB ⟨qU,rfl,?_⟩
   exact run_firstCells_some w.drew i.size rows.length ad rows.length c qU (by rw[isz];exact wB) (by simpa using hcell)
end Go.T
namespace Go.T
structure yg where
 tc:TC
 val:Value
 own:Nat→Prop
def yg.ok (w:World) (t:yg):Prop:=ah w (fun _=>False) .deep t.own t.tc t.val
def yg.apart (a b:yg):Prop:= ∀k,a.own k→ ¬b.own k
def Jh (w:World) (b off:Nat) (L:List Value):Prop:= ∀k y,L[k]?=some y→w.cell? ⟨b,off+k,none⟩=some y
def MD (w:World) (b off n:Nat):Prop:= ∀j,j<n→w.frozen? ⟨b,off+j,none⟩=false
theorem ah.Ov {w:World} {R R' S:Nat→Prop} {c:TC} {v:Value} (h:ah w R .deep S c v):ah w R' .deep S c v:=by
 generalize hm:Mode.deep=m at h
 induction h with
 |any _ _ _ h=>exact .any _ _ _ h
 |sc _ _ _ h=>exact .sc _ _ _ h
 |sub m S z rows A c u T h hn ih=>
  subst hm;exact .sub _ _ z rows A c u T {h with read:=fun hm=>by cases hm} fun i f tc ht=>ih i f tc ht rfl
structure sw (w:World) (S:Nat→Prop) (z:Nat) (rows:List (List TC)) (v:Value) (A:Option Addr) (c:Nat) (bq:List yg):Prop where
 val:v= .slice A rows.length c
 le:rows.length≤c
 cap:c≤maxLen
 z0:0<z
 width: ∀r∈rows,r.length=z
 tcs:rows.flatten=bq.map (·.tc)
 ok: ∀t∈bq,t.ok w
 gU:bq.Pairwise yg.apart
 sub: ∀t∈bq,∀k,t.own k→S k∧ ∀ad,A=some ad→k≠ad.block
 none:A=none→c=0
 row: ∀ad,A=some ad→S ad.block∧ad.spot= .none∧(∃sp,Jh w ad.block ad.off (bq.map (·.val)++sp)∧(bq.map (·.val)++sp).length=c*z)∧MD w ad.block ad.off (c*z)∧(1<z→ ∀i,w.frozen? ⟨ad.block,i,.none⟩=false)
theorem ah.opened {w:World} {R S:Nat→Prop} {z:Nat} {rows:List (List TC)} {v:Value} (h:ah w R .deep S (.sub z rows) v): ∃A c bq,sw w S z rows v A c bq:=by
 cases h with
 |sub _ _ _ _ A c u T k hn=>
  have hz:=k.z0;have hfl:=aW k.width;have Gq: ∀p tc,rows.flatten[p]?=some tc→lW rows (p/z) (p % z)=some tc:=fun p tc h=>xq hz k.width h;refine⟨A,c,(List.range (rows.length*z)).map fun p=>⟨rows.flatten.getD p default,u (p/z) (p % z),T (p/z) (p % z)⟩,rfl,k.len,k.cap,hz,k.width,?_,?_,?_,?_,(k.own dK).1,?_⟩
  ·apply List.ext_getElem
   ·simp[hfl]
   ·intro p h1 h2
    simp only[List.getElem_map,List.getElem_range,xC,aN h1];rfl
  ·intro t ht
   obtain⟨p,hp,rfl⟩:=List.mem_map.1 ht;have hp:=List.mem_range.1 hp
   have hs:rows.flatten[p]?=some (rows.flatten.getD p default):=by
    rw[xC,aN aB];rfl
   exact(hn _ _ _ (Gq p _ hs)).Ov
  ·rw[List.pairwise_map]
   refine(List.nodup_range (n:=rows.length*z)).imp_of_mem ?_;intro a b ha hb hab k' h1 h2;have:=(k.gU rfl _ _ _ h1).2.2 _ _ h2
   apply hab
   rw[←sV a z,←sV b z,this.1,this.2]
  ·intro t ht k' hk
   obtain⟨p,hp,rfl⟩:=List.mem_map.1 ht;exact⟨(k.gU rfl _ _ _ hk).1,(k.gU rfl _ _ _ hk).2.1⟩
  ·intro ad ha
   obtain⟨hS,hs,hc⟩:=(k.own dK).2 ad ha;refine⟨hS,hs,⟨(List.range (c*z-rows.length*z)).map fun j=>(w.cell? ⟨ad.block,ad.off+(rows.length*z+j),.none⟩).getD default,?_,?_⟩,fun j hj=>(hc j hj).2,fun h1 i=>k.soft dK h1 ad ha i⟩
   ·intro j y hj
    by_cases hl:j<rows.length*z
    ·rw[e8 (by simpa using hl)] at hj
     simp[hl] at hj;subst hj
     have O6:rows.flatten[j]?=some (rows.flatten.getD j default):=by
      rw[xC,aN aB];rfl
     have:=k.cell ad ha _ _ _ (Gq j _ O6);rw[sV j z] at this;obtain⟨b0,o0,s0⟩:=ad
     cases hs
     rwa [Addr.add_lit] at this
    ·rw[fU (by simpa using hl)] at hj
     have hlt:=(List.getElem?_eq_some_iff.1 hj).1;simp at hj hlt
     obtain⟨q1,rfl⟩:=by simpa [hlt] using hj
     obtain⟨x,hx⟩:=(hc j aB).1;rw[show rows.length*z+(j-rows.length*z)=j by omega,hx];rfl
   ·have:=iD z k.len
    simp;omega
theorem sw.rep {w:World} {S:Nat→Prop} {z:Nat} {rows:List (List TC)} {v:Value} {A:Option Addr} {c:Nat} {bq:List yg} (h:sw w S z rows v A c bq) {R:Nat→Prop}:ah w R .deep S (.sub z rows) v:=by
 rw[h.val];have hfl:=aW h.width
 have Nr:bq.length=rows.length*z:=by have:=congrArg List.length h.tcs;rw[hfl,dG] at this;exact this.symm
 have oM: ∀{i f:Nat} {tc:TC},lW rows i f=some tc→ ∃t,bq[i*z+f]?=some t∧t.tc=tc∧f<z∧i<rows.length:=fun {i f tc} ht=>by
  obtain⟨h1,h2,h3⟩:=kW h.width ht;rw[h.tcs,eF] at h1
  cases hq:bq[i*z+f]? with
  |none=>rw[hq] at h1;cases h1
  |some t=>rw[hq] at h1;exact⟨t,rfl,by simpa using h1,h2,h3⟩
 have Pf: ∀{i f i' f':Nat},f<z→f'<z→i*z+f=i'*z+f'→i=i'∧f=f':=fun {i f i' f'} h1 h2 e=>by
  have e1:(i*z+f)/z=i:=by rw[Nat.mul_comm,Nat.mul_add_div h.z0,Nat.div_eq_of_lt h1,jF]
  have e2:(i'*z+f')/z=i':=by rw[Nat.mul_comm,Nat.mul_add_div h.z0,Nat.div_eq_of_lt h2,jF]
  have:i=i':=by rw[←e1,e,e2]
  subst this;exact⟨rfl,by omega⟩
 refine .sub _ _ z rows A c (fun i f=>(bq[i*z+f]?.map (·.val)).getD default) (fun i f k=>f<z∧ ∃t,bq[i*z+f]?=some t∧t.own k) ⟨h.le,h.cap,h.z0,h.width,?_,?_,fun hm=>(by cases hm),fun _=>⟨h.none,?_⟩,?_,?_⟩ ?_
 ·intro hne
  cases hA:A with
  |none=>
   have h1:=h.none hA;have h2:=h.le;rw[h1] at h2;exact absurd (rL aB) hne
  |some ad=>exact⟨ad,rfl⟩
 ·intro ad ha i f tc ht
  obtain⟨t,h1,rfl,h2,h3⟩:=oM ht;obtain⟨_,hs,⟨sp,hr,_⟩,_⟩:=h.row ad ha;have:=hr (i*z+f) t.val (by rw[e8 (by rw[dG];exact(List.getElem?_eq_some_iff.1 h1).1),eF,h1];rfl);obtain⟨b0,o0,s0⟩:=ad
  cases hs
  rw[Addr.add_lit,h1];exact this
 ·intro ad ha
  obtain⟨hS,hs,⟨sp,hr,hl⟩,hf,_⟩:=h.row ad ha;refine⟨hS,hs,fun j hj=>⟨⟨_,hr j _ (aN (by rw[hl];exact hj))⟩,hf j hj⟩⟩
 ·intro _ h1 ad ha i
  exact(h.row ad ha).2.2.2.2 h1 i
 ·rintro _ i f k ⟨hf,t,ht,hk⟩
  have hm:=c7 ht;refine⟨(h.sub t hm k hk).1,(h.sub t hm k hk).2,fun i' f'=> ?_⟩;rintro⟨hf',t',ht',hk'⟩
  by_cases e:i*z+f=i'*z+f'
  ·have:=Pf hf hf' e
   exact⟨this.1.symm,this.2.symm⟩
  ·have hp:=List.pairwise_iff_getElem.1 h.gU
   obtain⟨l1,e1⟩:=List.getElem?_eq_some_iff.1 ht;obtain⟨l2,e2⟩:=List.getElem?_eq_some_iff.1 ht';rcases Nat.lt_or_gt_of_ne e with hlt|hlt
   ·exact absurd hk' (by have:=hp _ _ l1 l2 hlt;rw[e1,e2] at this;exact this k hk)
   ·exact absurd hk (by have:=hp _ _ l2 l1 hlt;rw[e1,e2] at this;exact this k hk')
 ·intro i f tc ht
  obtain⟨t,h1,rfl,h2,h3⟩:=oM ht;have:=h.ok t (c7 h1)
  have e:(bq[i*z+f]?.map (·.val)).getD default=t.val:=by rw[h1];rfl
  show ah w R .deep _ t.tc ((bq[i*z+f]?.map (·.val)).getD default);rw[e];exact ah.mono (ah.Ov this) fun k hk=>⟨h2,t,h1,hk⟩
theorem Jh.put {w:World} {b off:Nat} {L us:List Value} (h:Jh w b off L) {p:Nat} (hp:p+us.length≤L.length):Jh (w.setCells b (off+p) us) b off (L.take p++us++L.drop (p+us.length)):=by
 intro k y hk
 have hs: ∀j,j<us.length→(w.cell? ⟨b,off+p+j,none⟩).isSome=true:=fun j hj=>by
  rw[lP,h (p+j) _ (aN aB)];rfl
 by_cases h1:k<p
 ·rw[rK,e8 (by rw[gW];omega),vQ,aO h1] at hk
  rw[World.cell?_setCells_out b us _ _ _ (fun _ _=> .inl (by show off+k<off+p;omega))];exact h k y hk
 ·by_cases h2:k<p+us.length
  ·rw[rK,fU (by rw[gW];omega),e8 (by rw[gW];omega),gW,Nat.min_eq_left aB] at hk
   have hl:k-p<us.length:=by omega
   have:=World.cell?_setCells_in b us (off+p) w hs (k-p) hl;rw[show off+p+(k-p)=off+k by omega] at this;rw[this,←hk,aN hl]
  ·rw[fU (by rw[cM,gW];omega),iC,cM,gW,Nat.min_eq_left aB] at hk
   rw[World.cell?_setCells_out b us _ _ _ (fun _ _=> .inr (by show off+p+us.length≤off+k;omega))];exact h k y (by rw[←hk];congr 1;omega)
theorem EP {w:World} {a:Addr} {y:Value} (h:w.cell? a=some y):a.block<w.heap.size:=by
 unfold World.cell? at h
 split at h
 ·rename_i hh;exact(Array.getElem?_eq_some_iff.1 hh).1
 ·cases h
end Go.T
namespace Go.T
variable {F : Nat → Prop} {A : Arg} {w0 w w' : World} {φ φ' φ1 : Fp} {st st' sta bD : TS} {tm r9 : Array Value} {C : eZ}
theorem ov {z:Nat}: ∀{rows:List (List TC)},(∀r∈rows,r.length=z)→ ∀i,(rows.take i).flatten=rows.flatten.take (i*z)
 |[],_,i=>by simp
 |r::rs,hw,0=>by simp
 |r::rs,hw,i+1=>by
  have hr:=hw r (.head _);rw[List.take_succ_cons,pZ,pZ,ov (fun r hr=>hw r (.tail _ hr)) i,xG,List.take_append,hr];rw[J6 (by omega:r.length≤i*z+z),show i*z+z-z=i*z by omega]
theorem oy {z:Nat}: ∀{rows:List (List TC)},(∀r∈rows,r.length=z)→ ∀i,(rows.drop i).flatten=rows.flatten.drop (i*z)
 |[],_,i=>by simp
 |r::rs,hw,0=>by simp
 |r::rs,hw,i+1=>by
  have hr:=hw r (.head _);rw[List.drop_succ_cons,pZ,oy (fun r hr=>hw r (.tail _ hr)) i,xG,List.drop_append,hr];rw[vP (by omega:r.length≤i*z+z),lO,show i*z+z-z=i*z by omega]
def yg.out (t:yg):yg:=⟨.any,t.val,fun _=>False⟩
theorem vY {z:Nat}: ∀n,(List.replicate n (List.replicate z TC.any)).flatten=List.replicate (n*z) TC.any
 |0=>by simp
 |n+1=>by
  rw[List.replicate_succ,pZ,vY n,xG,Nat.add_comm,List.replicate_append_replicate]
theorem Ji (l:List yg):(l.map yg.out).map (·.tc)=List.replicate l.length .any:=by
 induction l with
 |nil=>rfl
 |cons a l ih=>rw[List.map_cons,List.map_cons,ih,dH,List.replicate_succ];rfl
theorem Hv (l:List yg):(l.map yg.out).map (·.val)=l.map (·.val):=by
 rw[List.map_map];rfl
attribute [local semireducible] dL cF in
theorem sw.move {S:Nat→Prop} {z:Nat} {rows:List (List TC)} {v:Value} {Ad:Option Addr} {c:Nat} {bq:List yg} (o:sw w S z rows v Ad c bq) {l h:Int} (h0:0≤l) (h1:l≤h) (h2:h≤rows.length):
 ∃Ns itm:List yg,sw w (fun k=>S k∧ ¬ ∃t∈itm,t.own k) z (dL z rows l h) v Ad c Ns∧(dL z rows l h).length=rows.length∧(cF rows l h).flatten=itm.map (·.tc)∧itm.map (·.val)=((bq.map (·.val)).take (h.toNat*z)).drop (l.toNat*z)∧
  (∀t∈itm,t.ok w∧ ∀k,t.own k→S k∧ ∀ad,Ad=some ad→k≠ad.block)∧itm.Pairwise yg.apart∧(∀r∈cF rows l h,r.length=z):=by
 obtain⟨a,ha⟩: ∃a,a=l.toNat:=⟨_,rfl⟩;obtain⟨b,hb⟩: ∃b,b=h.toNat:=⟨_,rfl⟩
 have hab:a≤b:=by omega
 have Gp:b≤rows.length:=by omega
 have lt:=o.width
 have li:bq.length=rows.length*z:=by
  have:=congrArg List.length o.tcs;rw[aW o.width,dG] at this;exact this.symm
 have e1:=iD z hab;have e2:=iD z Gp;obtain⟨i1,hi1⟩: ∃i1,i1=bq.take (a*z):=⟨_,rfl⟩;obtain⟨i2,hi2⟩: ∃i2,i2=(bq.take (b*z)).drop (a*z):=⟨_,rfl⟩;obtain⟨i3,KE⟩: ∃i3,i3=bq.drop (b*z):=⟨_,rfl⟩
 have hsplit:bq=i1++i2++i3:=by
  rw[hi1,hi2,KE];have q1:=EF (b*z) bq;have q2:=EF (a*z) (bq.take (b*z));rw[List.take_take,Nat.min_eq_left e1] at q2;rw[q2,q1]
 have l1:i1.length=a*z:=by rw[hi1,gW];omega
 have l2:i2.length=(b-a)*z:=by rw[hi2,oQ,gW,Nat.sub_mul];omega
 have hd:=o.gU;rw[hsplit] at hd;obtain⟨d12,d3,d123⟩:=List.pairwise_append.1 hd;obtain⟨d1,d2,dc⟩:=List.pairwise_append.1 d12
 have m1: ∀t∈i1,t∈bq:=fun t ht=>by rw[hsplit];exact dz _ (dz _ ht)
 have m2: ∀t∈i2,t∈bq:=fun t ht=>by rw[hsplit];exact dz _ (fW _ ht)
 have m3: ∀t∈i3,t∈bq:=fun t ht=>by rw[hsplit];exact fW _ ht
 have hv:(i1++i2.map yg.out++i3).map (·.val)=bq.map (·.val):=by
  rw[hsplit];simp only[xD,Hv]
 have hlen:(dL z rows l h).length=rows.length:=by
  unfold dL;rw[←ha,←hb];simp only[cM,gW,List.length_replicate,oQ];omega
 have hfl:(dL z rows l h).flatten=(i1++i2.map yg.out++i3).map (·.tc):=by
  unfold dL;rw[←ha,←hb,EE,EE,ov lt,oy lt,vY,xD,xD,Ji,l2,o.tcs,hi1,KE,Ck,Ac]
 have anyA: ∀t∈i2.map yg.out,∀k,¬t.own k:=fun t ht k hk=>by
  obtain⟨t0,_,rfl⟩:=List.mem_map.1 ht;exact hk
 refine⟨i1++i2.map yg.out++i3,i2,⟨?_,by rw[hlen];exact o.le,o.cap,o.z0,fun r hr=> ?_,hfl,fun t ht=> ?_,?_,fun t ht k hk=> ?_,o.none,fun ad e=> ?_⟩,hlen,?_,?_,fun t ht=>⟨o.ok t (m2 t ht),fun k hk=>o.sub t (m2 t ht) k hk⟩,d2,fun r hr=> ?_⟩
 ·rw[hlen];exact o.val
 ·unfold dL at hr
  rcases List.mem_append.1 hr with hr|hr
  ·rcases List.mem_append.1 hr with hr|hr
   ·exact lt r (vR hr)
   ·rw[List.eq_of_mem_replicate hr,List.length_replicate]
  ·exact lt r (xE hr)
 ·rcases List.mem_append.1 ht with ht|ht
  ·rcases List.mem_append.1 ht with ht|ht
   ·exact o.ok t (m1 t ht)
   ·obtain⟨t0,h0,rfl⟩:=List.mem_map.1 ht
    have:=o.ok t0 (m2 t0 h0);exact .any _ _ _ ⟨jr this,ah.cells this⟩
  ·exact o.ok t (m3 t ht)
 ·refine List.pairwise_append.2 ⟨List.pairwise_append.2 ⟨d1,?_,fun x hx y hy k _ hk=>anyA y hy k hk⟩,d3,fun x hx y hy=> ?_⟩
  ·rw[List.pairwise_map]
   exact d2.imp fun _ k hk=>hk.elim
  ·rcases List.mem_append.1 hx with hx|hx
   ·exact d123 x (dz _ hx) y hy
   ·exact fun k hk=>(anyA x hx k hk).elim
 ·rcases List.mem_append.1 ht with ht|ht
  ·rcases List.mem_append.1 ht with ht|ht
   ·exact⟨⟨(o.sub t (m1 t ht) k hk).1,fun⟨t',ht',hk'⟩=>dc t ht t' ht' k hk hk'⟩,(o.sub t (m1 t ht) k hk).2⟩
   ·exact(anyA t ht k hk).elim
  ·exact⟨⟨(o.sub t (m3 t ht) k hk).1,fun⟨t',ht',hk'⟩=>d123 t' (fW _ ht') t ht k hk' hk⟩,(o.sub t (m3 t ht) k hk).2⟩
 ·obtain⟨r1,r2,r3,r4⟩:=o.row ad e
  refine⟨⟨r1,fun⟨t,ht,hk⟩=>(o.sub t (m2 t ht) _ hk).2 ad e rfl⟩,r2,?_,r4⟩;rw[hv];exact r3
 ·unfold cF
  rw[←ha,←hb,oy (fun r hr=>lt r (vR hr)),ov lt,o.tcs,hi2,Ac,Ck]
 ·rw[←ha,←hb,hi2,Ac,Ck]
 ·unfold cF at hr
  exact lt r (vR (xE hr))
theorem an.ME (h:an F A w0 φ st tm w) {o g:Nat} {z:Nat} {rows:List (List TC)} (hb:aa o st.ob=some ⟨true,z,rows⟩) {l hh:Int} (h0:0≤l) (h1:l≤hh) (h2:hh≤rows.length) (hg:g≠0) (LO:g≠o):
 ∃φ2,an F A w0 φ2 (si g o ⟨true,z,rows⟩ l hh st) tm w∧φ2.β=φ.β∧(∀d,d≠g→φ2.V d=φ.V d)∧(∀d k,d≠g→φ2.S d k→φ.S d k)∧
  ∃vs X,vs.length=(cF rows l hh).length*z∧(∀r∈cF rows l hh,r.length=z)∧(∀vX,oU z rows.length l hh (φ.V o) vX→ ∀ad n c,vX= .slice (some ad) n c→ ∀(j:Nat) (x:Value),vs[j]?=some x→w.cell? (ad.add j)=some x)∧
   ∀sta:TS,aj sta.ob g→eH w φ2 sta (T.fD g sta) (bK .deep (cF rows l hh).flatten vs) X (fun _=>False):=by
 have hin:aj st.ob o:=⟨_,hb⟩;have hO:ah w φ.I .deep (φ.S o) (.sub z rows) (φ.V o):=h.obj o _ hb;obtain⟨Ad,c,bq,op⟩:=hO.opened;obtain⟨Ns,itm,op',e1,e2,e3,e4,e5,e6⟩:=op.move h0 h1 h2;have hS: ∀t∈itm,∀k,t.own k→φ.S o k:=fun t ht k hk=>((e4 t ht).2 k hk).1
 have w1:=h.jQ (w':=w) (b':=⟨true,z,dL z rows l hh⟩) (X:=fun k=>φ.S o k∧ ¬ ∃t∈itm,t.own k) hb rfl e1 op'.rep h.frm (bH _) (fun _ _ _=>rfl)
  (fun k hk=>h.sep.fresh o k hin hk.1) (fun k hk=>h.sep.read o k hin hk.1) (fun k d hk hne hd hs=>hne (h.sep.apart d o k hd hin hs hk.1)) (fun b cs vL hw hk=>(h.sep.box b cs vL hw).2.1 o hin hk.1)
 have gM: ∀d,aj (T.jQ o ⟨true,z,dL z rows l hh⟩ st).ob d→aj st.ob d:=fun d hd=>by
  have:aj (fP o ⟨true,z,dL z rows l hh⟩ st.ob) d:=hd;rw[dA] at this;exact this.elim (fun e=>e▸hin) id
 have w2:=w1.p7 (o:=g) (b:=⟨true,1,[]⟩) (X:=fun k=> ∃t∈itm,t.own k) (v:= .slice none 0 0) hg (me (Nat.lt_succ_self 0)) (fun k ⟨t,ht,hk⟩=>h.sep.fresh o k hin (hS t ht k hk)) (fun k ⟨t,ht,hk⟩=>h.sep.read o k hin (hS t ht k hk))
  (fun k d ⟨t,ht,hk⟩ hne hd hs=>by
    by_cases e:d=o
    ·subst e
     have hs:(if d=d then φ.S d k∧ ¬ ∃t∈itm,t.own k else φ.S d k):=hs;rw[aO rfl] at hs;exact hs.2 ⟨t,ht,hk⟩
    ·rw[j5 e] at hs
     exact e (h.sep.apart d o k (gM d hd) hin hs (hS t ht k hk)))
  (fun b cs vL hw ⟨t,ht,hk⟩=>by
    obtain⟨cs0,hc0,_⟩:=cP _ b cs vL
    exact(h.sep.box b cs0 hc0 hw).2.1 o hin (hS t ht _ hk))
 have lits:bq.length=rows.length*z:=by
  have:=congrArg List.length op.tcs;rw[aW op.width,dG] at this;exact this.symm
 have litm:itm.length=(cF rows l hh).length*z:=by
  have:=congrArg List.length e2;rw[aW e6,dG] at this;exact this.symm
 refine⟨_,w2,rfl,fun d hd=> ?_,fun d k hd hs=> ?_,itm.map (·.val),fun i k=> ∃t,itm[i]?=some t∧t.own k,by rw[dG];exact litm,e6,fun vX hc ad n c' ev j x hj=> ?_,fun sta hgd=>⟨fun i it hi=> ?_,fun i k hi hk=>⟨id,g,hgd,fun hd=>(dJ.1 hd).1 rfl,?_⟩,fun k hk=>hk.elim,fun i j k hi hj hk hk'=> ?_,bN.kill sta g⟩⟩
 ·show(if d=g then _ else if d=o then φ.V o else φ.V d)=φ.V d
  rw[aD hd]
  split
  ·subst_vars;rfl
  ·rfl
 ·rw[j5 hd] at hs
  by_cases e:d=o
  ·subst e
   have hs:(if d=d then φ.S d k∧ ¬ ∃t∈itm,t.own k else φ.S d k):=hs;rw[aO rfl] at hs;exact hs.1
  ·rw[j5 e] at hs;exact hs
 ·obtain⟨c1,c2,c3,A0,A',c0,f1,f2,f3,f4,f5⟩:=hc
  rw[op.val] at f1
  cases f1
  rw[ev] at f2
  cases f2
  obtain⟨ad0,hA⟩: ∃ad0,Ad=some ad0:=by
   cases hA:Ad with
   |none=>have:=f4 hA;cases this
   |some ad0=>exact⟨ad0,rfl⟩
  obtain⟨_,hsp,⟨sp,hr,hrl⟩,_⟩:=op.row ad0 hA;rw[e3] at hj;have hjl:=(List.getElem?_eq_some_iff.1 hj).1;rw[oQ,gW,dG,lits] at hjl;rw[iC,vQ] at hj
  split at hj
  ·have hbz:hh.toNat*z≤rows.length*z:=iD z aB
   have hx:=hr _ x (by rw[e8 (by rw[dG,lits];exact dD L0 hbz)];exact hj);have hle:=op.le;have hz:=op.z0
   have hne:c≠l.toNat:=fun e=>by
    have:hh.toNat≤l.toNat:=by omega
    have:=iD z this;omega
   have:=f3 hne;rw[hA] at this;simp only[e9,aE] at this;obtain⟨b0,o0,s0⟩:=ad0
   cases hsp
   rw[this,Addr.add_add,Addr.add_lit];rw[←lP] at hx;rw[show o0+(l.toNat*z+j)=o0+l.toNat*z+j by omega];exact hx
  ·cases hj
 ·obtain⟨tc,v,t1,t2,rfl⟩:=fu hi
  rw[e2,eF] at t1;rw[eF] at t2
  cases hq:itm[i]? with
  |none=>rw[hq] at t1;cases t1
  |some t=>
   rw[hq] at t1 t2;simp only[e9,aE] at t1 t2;subst t1 t2;exact ah.mono (ah.Ov (e4 t (c7 hq)).1) fun k hk=>⟨t,rfl,hk⟩
 ·obtain⟨t,ht,hk⟩:=hk
  show(if g=g then ∃t∈itm,t.own k else _);rw[aO rfl];exact⟨t,c7 ht,hk⟩
 ·obtain⟨t,ht,hk⟩:=hk
  obtain⟨t',ht',hk'⟩:=hk';obtain⟨l1,q1⟩:=List.getElem?_eq_some_iff.1 ht;obtain⟨l2,q2⟩:=List.getElem?_eq_some_iff.1 ht';have hp:=List.pairwise_iff_getElem.1 e5;rcases Nat.lt_trichotomy i j with hlt|rfl|hlt
  ·exact absurd hk' (by have:=hp _ _ l1 l2 hlt;rw[q1,q2] at this;exact this k hk)
  ·rfl
  ·exact absurd hk (by have:=hp _ _ l2 l1 hlt;rw[q1,q2] at this;exact this k hk')
end Go.T
namespace Go.T
variable {F : Nat → Prop} {A : Arg} {w0 w w' : World} {φ φ' : Fp} {st st' sta bD gf : TS} {tm r9 : Array Value} {C : eZ}
variable {R : Type} {cf : Cf} {lp : Lp} {Q : R → Prop}
theorem AA {e:TypeId} {z:Nat} (h:uL C e z=true):mT (C.tt e)=true∧z=(C.tt e).size:=by
 unfold uL at h
 split at h
 ·exact⟨by assumption,cX h⟩
 ·cases h
attribute [local semireducible] cT in
theorem yh {rows:List (List TC)} (h:cT rows=true): ∀(p:Nat) (tc:TC),rows.flatten[p]?=some tc→ ∃v,tc= .sc v:=fun p tc hp=>by
 have hm:=c7 hp;obtain⟨r,hr,hc⟩:=List.mem_flatten.1 hm;have h1:=List.all_eq_true.1 h r hr;have h2:=List.all_eq_true.1 h1 tc hc
 cases tc with
 |any=>cases h2
 |sc v=>exact⟨v,rfl⟩
 |sub z rows=>cases h2
structure Le (w:World) (φ:Fp) (st sta:TS) (dp:Bool) (z:Nat) (rows:List (List TC)) (vS:Value) (M:Mode) (qU:List Value) (X1:Nat→Nat→Prop) (Z1:Nat→Prop) (Ad:Option Addr) (c:Nat):Prop where
 val:vS= .slice Ad rows.length c
 parts:eH w φ st sta (bK M rows.flatten qU) X1 Z1
 width: ∀r∈rows,r.length=z
 len:qU.length=rows.length*z
 le:rows.length≤c
 max:c≤maxLen
 at':(Ad=none∧rows=[]∧c=0)∨ ∃ad,Ad=some ad∧ad.spot=none∧(∃o,aj st.ob o∧ ¬aj sta.ob o∧φ.S o ad.block)∧(∀(j:Nat) (v:Value),qU[j]?=some v→w.cell? (ad.add j)=some v)∧
    (∀j,j<c*z→(∃x,w.cell? ⟨ad.block,ad.off+j,none⟩=some x)∧w.frozen? ⟨ad.block,ad.off+j,none⟩=false)∧(∀i k,X1 i k→k≠ad.block)∧(∀k,Z1 k→k≠ad.block)∧(1<z→ ∀i,w.frozen? ⟨ad.block,i,none⟩=false)
theorem tO (h:an F A w0 φ st tm w) {cs:CE} {vS:Value} (hc:bh st.ob w φ cs vS) {o:Option Nat} {z:Nat} {dp:Bool} {rows:List (List TC)} (hb:mU st cs=some (o,z,dp,rows)) {M:Mode} (hM:M= .snap∨M= .deep∧dp=true):
 0<z∧an F A w0 φ (fX o st) tm w∧ ∃qU X1 Z1 Ad c,Le w φ st (fX o st) dp z rows vS M qU X1 Z1 Ad c:=by
 unfold mU at hb
 split at hb
 ·cases hb
  obtain⟨rfl,hz⟩:=hc;exact⟨hz,h,[],_,_,none,0,rfl,eH.nil _,fun r hr=>(by cases hr),by simp,bH _,rM _,.inl ⟨rfl,rfl,rfl⟩⟩
 ·rename_i o' cut
  cases hl:aa o' st.ob with
  |none=>rw[hl] at hb;cases hb
  |some b=>
   obtain⟨d0,z0,gh⟩:=b;rw[hl] at hb
   cases hb
   obtain⟨b0,e0,pX⟩:=hc;rw[hl] at e0
   cases e0
   have hr:=fE.cut (h.obj o' _ hl) pX
   have hm:OB.m ⟨dp,z,gh⟩≠ .snap:=by unfold OB.m;split<;>simp
   obtain⟨qU,X1,Z1,l1,p1,a1⟩:=ah.parts h ⟨_,hl⟩ hr hm (M:=M) (hM.imp id fun⟨e1,e2⟩=>⟨e1,by rw[e2];rfl⟩);obtain⟨_,_,nU,hz,_⟩:=hr.vals;refine⟨hz,h.fD o',qU,X1,Z1,?_⟩
   cases hr with
   |sub _ _ _ _ Ad c u T k hn=>
    refine⟨Ad,c,rfl,p1,nU,l1,k.len,k.cap,?_⟩
    cases Ad with
    |none=>
     have hne:Co cut gh=[]:=Classical.byContradiction fun hne=>by obtain⟨ad,h⟩:=k.addr hne;cases h
     exact .inl ⟨rfl,hne,(k.own hm).1 rfl⟩
    |some ad=>
     obtain⟨hS,hs,hall⟩:=(k.own hm).2 ad rfl;obtain⟨q1,q2,q3⟩:=a1 ad _ _ rfl;exact .inr ⟨ad,rfl,hs,⟨o',⟨_,hl⟩,fun hd=>(dJ.1 hd).1 rfl,hS⟩,q1,hall,q2,q3,fun Gj=>k.soft hm Gj ad rfl⟩
 ·cases hb
theorem Jj (h:an F A w0 φ st tm w) {gV:TS} (hsub:bN st gV) {cx:CE} {vX:Value} (hc:bh gV.ob w φ cx vX) {tx e':TypeId} (hk:C.P.underlying tx=some (.slice e')) {z:Nat} {rows:List (List TC)} {bD:TS} {d1:Bool} (hab:gl cx st=some (.sub z rows,bD,d1))
 {M:Mode} (hM:M= .snap∨M= .deep∧d1=true):an F A w0 φ bD tm w∧ ∃oN X2 Z2,eH w φ st bD (bK M rows.flatten oN) X2 Z2∧(∀r∈rows,r.length=z)∧oN.length=rows.length*z∧Src C.P z tx vX rows.length oN w:=by
 unfold gl at hab
 split at hab
 ·cases hab
 ·cases hab
  obtain⟨rfl,hz⟩:=hc;exact⟨h,[],_,_,eH.nil _,fun r hr=>(by cases hr),by simp,Src.ofNil w hk 0⟩
 ·rename_i o cut
  cases hl:aa o st.ob with
  |none=>rw[hl] at hab;cases hab
  |some b=>
   obtain⟨d0,z0,gh⟩:=b;rw[hl] at hab
   cases hab
   obtain⟨b0,e0,pX⟩:=hc;rw[hsub.ob _ _ hl] at e0
   cases e0
   have hr:=fE.cut (h.obj o _ hl) pX
   have hm:OB.m ⟨d1,z,gh⟩≠ .snap:=by unfold OB.m;split<;>simp
   obtain⟨qU,X1,Z1,l1,p1,a1⟩:=ah.parts h ⟨_,hl⟩ hr hm (M:=M) (hM.imp id fun⟨e1,e2⟩=>⟨e1,by rw[e2];rfl⟩);obtain⟨_,_,nU,hz,_⟩:=hr.vals;refine⟨h.fD o,qU,X1,Z1,p1,nU,l1,yf hr hk rfl l1 (fun ad n c e=>(a1 ad n c e).1) fun y hy=> ?_⟩;obtain⟨j,hj,rfl⟩:=List.mem_iff_getElem.1 hy;exact jr (p1.ok j _ (fI (aN (by rw[aW nU,←l1];exact hj)) (aN hj)))
 ·rename_i l z0 gh
  cases hab
  have O7:M= .snap:=hM.elim id fun⟨_,e⟩=>by cases e
  subst O7;have hr:=hc.2.1;obtain⟨vs,l1,nU,hz,hcell,m9⟩:=hr.vals
  have hok: ∀(i:Nat) (it:It),(bK .snap rows.flatten vs)[i]?=some it→it.1= .snap∧ah w (fun k=>φ.I k∨False) .snap uF it.2.1 it.2.2:=fun i it hi=>by
   obtain⟨tc,v,h1,h2,rfl⟩:=fu hi;obtain⟨T,hT⟩:=m9 i tc v h1 h2;exact⟨rfl,hT.gP fun k hk=>hk.elim .inl fun⟨d,hd,_⟩=>by cases hd⟩
  refine⟨h,vs,fun _ _=>False,fun _=>False,⟨fun i it hi=> ?_,fun _ _ _ hk=>hk.elim,fun _ hk=>hk.elim,fun _ _ _ _ _ hk=>hk.elim,bN.refl _⟩,nU,l1,yf hr hk rfl l1 hcell fun y hy=> ?_⟩
  ·obtain⟨e1,e2⟩:=hok i it hi
   rw[e1];exact e2
  ·obtain⟨j,hj,rfl⟩:=List.mem_iff_getElem.1 hy
   exact jr (hok j _ (fI (aN (by rw[aW nU,←l1];exact hj)) (aN hj))).2
 ·cases hab
theorem FV (h:an F A w0 φ st tm w) {cx:CE} {vX:Value} (hc:bh st.ob w φ cx vX) {tx e':TypeId} (hk:C.P.underlying tx=some (.slice e')) {z:Nat} {rows:List (List TC)} (hr:fQ st cx=some (z,rows)) (hsc:cT rows=true) (M:Mode) (sta:TS):
 ∃oN,eH w φ sta sta (bK M rows.flatten oN) (fun _ _=>False) (fun _=>False)∧(∀r∈rows,r.length=z)∧oN.length=rows.length*z∧Src C.P z tx vX rows.length oN w:=by
 obtain⟨m9,_⟩:=iF h hc hr;obtain⟨vs,l1,nU,hz,hcell,FA⟩:=m9.vals
 have hok: ∀(M:Mode) (i:Nat) (it:It),(bK M rows.flatten vs)[i]?=some it→ ∃v,it=(M,.sc v,v)∧wE v:=fun M i it hi=>by
  obtain⟨tc,v,h1,h2,rfl⟩:=fu hi;obtain⟨T,hT⟩:=FA i tc v h1 h2;obtain⟨v',rfl⟩:=yh hsc i tc h1
  cases hT with
  |sc _ _ _ hs=>exact⟨_,rfl,hs⟩
 refine⟨vs,⟨fun i it hi=> ?_,fun _ _ _ hk=>hk.elim,fun _ hk=>hk.elim,fun _ _ _ _ _ hk=>hk.elim,bN.refl _⟩,nU,l1,yf m9 hk rfl l1 hcell fun y hy=> ?_⟩
 ·obtain⟨v,rfl,hs⟩:=hok M i it hi
  exact .sc _ _ _ hs
 ·obtain⟨j,hj,rfl⟩:=List.mem_iff_getElem.1 hy
  obtain⟨v,e1,hs⟩:=hok .deep j _ (fI (aN (by rw[aW nU,←l1];exact hj)) (aN hj))
  have:vs[j]=v:=by have:=congrArg (fun it:It=>it.2.2) e1;exact this
  rw[this]
  cases v<;>first|rfl|cases hs
theorem vZ {g o p:Nat} {b:OB} {l h:Int} (h1:p≠g) (h2:p≠o):aa p (si g o b l h st).ob=aa p st.ob:=by
 show aa p (fP g _ (gY g (fP o _ st.ob)))=_;rw[bX,aD h1,dh,aD h1,bX,aD h2]
theorem yj {g o:Nat} {b:OB} {l h:Int}:aj (si g o b l h st).ob g:=by
 refine⟨⟨true,1,[]⟩,?_⟩;show aa g (fP g _ (gY g (fP o _ st.ob)))=_;rw[bX,aO rfl]
theorem D2 (hT:ct C) {a:Act} (h:an F A w0 φ st a.tmps w) {o:Oper} {s x:Operand} {t t':TypeId} (ho:o.op= .call {callee:= .builtin .append,args:= #[s,x],argTypes:= #[t,t']}) {K:TS→Ev R} (hd: ∀d,o.dst=some d→d<a.tmps.size) {d:Nat} (ee:o.dst=some d)
 {e:TypeId} (he:mS C t=some e) {cs cx:CE} (hcs:lJ (iO C st t s)=some cs) {oo:Option Nat} {z:Nat} {dp:Bool} {rows:List (List TC)} (hb:mU st cs=some (oo,z,dp,rows)) (hsz:uL C e z=true) {e2:TypeId} (Mk:C.P.underlying t'=some (.slice e2)) (IU:bh st.ob w φ cs (a.eval s)) (JW:bh st.ob w φ cx (a.eval x))
 {ay:List (List TC)} {bD:TS} (JX:DE d oo dp cx st=some (z,ay,bD)) (hfit:fits (rows.length+ay.length) (C.tt e).bytes=true) (hk:(K (lK d ⟨dp,z,rows++ay⟩ bD)).holds cf lp Q):Dw C F A w0 φ st o a w K cf lp Q:=by
 obtain⟨Cg,hz⟩:=AA hsz;unfold DE at JX
 split at JX
 ·rename_i o' l hh
  split at JX
  ·rename_i z0 gh hl KF
   simp only[aE,oS] at JX;obtain⟨rfl,rfl,rfl⟩:=JX;rw[Bool.or_eq_false_iff] at KF;obtain⟨IS,Og⟩:=KF
   have LO:jf d 1 0≠o':=fun e=>by rw[e] at Og;simp at Og
   have QS:jf d 1 0≠0:=by unfold jf;omega
   have Ml: ∀p,oo=some p→p≠o'∧p≠jf d 1 0:=fun p e=>by
    rw[e] at IS;simp only[Bool.or_eq_false_iff] at IS;exact⟨iN IS.1,iN IS.2⟩
   obtain⟨b0,hb0,pX⟩:=JW;rw[hl] at hb0
   cases hb0
   have pX:oU z0 gh.length l hh (φ.V o') (a.eval x):=pX;obtain⟨φ2,h2,eβ,eV,eS,oN,X2,sN,Cc,hcell,LP⟩:=h.ME (g:=jf d 1 0) hl pX.1 pX.2.1 pX.2.2.1 QS LO
   have KG:bh (si (jf d 1 0) o' ⟨true,z0,gh⟩ l hh st).ob w φ2 cs (a.eval s)∧mU (si (jf d 1 0) o' ⟨true,z0,gh⟩ l hh st) cs=some (oo,z0,true,rows):=by
    unfold mU at hb ⊢
    split at hb
    ·cases hb
     exact⟨IU,rfl⟩
    ·rename_i p cut
     obtain⟨bp,P1,QT⟩:=IU;rw[P1] at hb;obtain⟨dq,zq,rq⟩:=bp;simp only[aE,oS] at hb;obtain⟨rfl,rfl,rfl,rfl⟩:=hb;obtain⟨n1,n2⟩:=Ml p rfl;have hlk:=vZ (st:=st) (b:=⟨true,zq,gh⟩) (l:=l) (h:=hh) n2 n1;rw[P1] at hlk;refine⟨⟨_,hlk,?_⟩,?_⟩
     ·rw[eV p n2];exact QT
     ·simp only[hlk]
    ·cases hb
   obtain⟨_,hka,qU,X1,Z1,Ad,c,hB⟩:=tO h2 KG.1 KG.2 (M:= .deep) (.inr ⟨rfl,rfl⟩)
   have Nt:aj (fX oo (si (jf d 1 0) o' ⟨true,z0,gh⟩ l hh st)).ob (jf d 1 0):=by
    cases oo with
    |none=>exact yj
    |some p=>exact dJ.2 ⟨fun e=>(Ml p rfl).2 e.symm,yj⟩
   have p2:=LP _ Nt
   have hsrc:Src C.P z0 t' (a.eval x) (cF gh l hh).length oN w:=by
    refine yf (fE.cut (cut:=some (l,hh)) (h.obj o' _ hl) pX) Mk rfl sN (fun ad n c e=>hcell _ pX ad n c e) fun y hy=> ?_;obtain⟨j,hj,rfl⟩:=List.mem_iff_getElem.1 hy;exact jr (p2.ok j _ (fI (aN (by rw[aW Cc,←sN];exact hj)) (aN hj)))
   obtain⟨v,w',hrun,lH,hsize,hframe⟩:=Az (ty:=o.type) hT rfl (kH hT he).1 Cg h2 (hka.fD (jf d 1 0)) (hd d ee) (dp:=true) hz hB.parts p2 hB.width Cc hB.len sN hB.le hB.max hsrc hB.at' hfit;refine⟨.value v,v,w',_,?_,.inl rfl,by rw[ee];exact lH,hk,hsize,fun k hk JV=>hframe k hk fun ad zp e=>JV ?_⟩
   ·rw[jJ ho]
    simp only[builtin,Sem.run_bind]
    have:(#[s,x].map a.eval)= #[a.eval s,a.eval x]:=by simp
    rw[this,hB.val,hrun]
    rfl
   ·rcases hB.at' with⟨e0,_⟩|⟨ad',e0,_,⟨o2,o21,o22,o23⟩,_⟩
    ·rw[zp] at e0;cases e0
    ·rw[zp] at e0
     cases e0
     cases oo with
     |none=>exact absurd o21 o22
     |some p=>
      have:o2=p:=Classical.byContradiction fun hne=>o22 (dJ.2 ⟨hne,o21⟩);subst this;obtain⟨n1,n2⟩:=Ml o2 rfl
      have g1: ∃q,lJ (iO C st t s)=some (.ref o2 q):=by
       unfold mU at hb
       split at hb
       ·cases hb
       ·rename_i p cut
        split at hb
        ·simp only[aE,oS] at hb
         obtain⟨rfl,_⟩:=hb;exact⟨_,hcs⟩
        ·cases hb
       ·cases hb
      obtain⟨q,g1⟩:=g1
      have g2:aj st.ob o2:=by
       obtain⟨b2,hb2⟩:=o21;rw[vZ n2 n1] at hb2;exact⟨b2,hb2⟩
      refine .inr ⟨o2,?_,g2,by rw[e];exact eS o2 _ n2 o23⟩;unfold writes;rw[ho];simp only;refine List.mem_map.2 ⟨o2,?_,rfl⟩
      revert g1
      cases iO C st t s with
      |v tup es=>
       unfold lJ
       split
       ·rename_i e0 e1
        intro g1
        cases g1
        simp only[TE.v.injEq] at e1;obtain⟨rfl,rfl⟩:=e1;exact .head _
       ·intro g1;cases g1
       ·intro g1;cases g1
      |_=>intro g1;simp[lJ] at g1
  ·cases JX
 ·cases JX
theorem Jk (h:an F A w0 φ st tm w) {cx:CE} {vX:Value} (hc:bh st.ob w φ cx vX) {tx e':TypeId} (hk:C.P.underlying tx=some (.slice e')) {z:Nat} {rows:List (List TC)} (hr:GG st cx=some (z,rows)) (sta:TS):
 ∃oN,eH w φ sta sta (bK .snap rows.flatten oN) (fun _ _=>False) (fun _=>False)∧(∀r∈rows,r.length=z)∧oN.length=rows.length*z∧Src C.P z tx vX rows.length oN w:=by
 unfold GG at hr
 split at hr
 ·rename_i o' cut
  split at hr
  ·rename_i z0 gh hl
   cases hr
   obtain⟨b0,hb0,pX⟩:=hc;rw[hl] at hb0
   cases hb0
   have m9:=fE.cut (h.obj o' _ hl) pX;obtain⟨vs,l1,nU,hz,hcell,FA⟩:=m9.vals
   have hok: ∀(i:Nat) (it:It),(bK .snap (Co cut gh).flatten vs)[i]?=some it→it.1= .snap∧ah w (fun k=>φ.I k∨False) .snap uF it.2.1 it.2.2:=fun i it hi=>by
    obtain⟨tc,v,t1,t2,rfl⟩:=fu hi;obtain⟨T,hT⟩:=FA i tc v t1 t2;exact⟨rfl,hT.gP fun k hk=> .inl hk⟩
   refine⟨vs,⟨fun i it hi=> ?_,fun _ _ _ hk=>hk.elim,fun _ hk=>hk.elim,fun _ _ _ _ _ hk=>hk.elim,bN.refl _⟩,nU,l1,yf m9 hk rfl l1 hcell fun y hy=> ?_⟩
   ·obtain⟨e1,e2⟩:=hok i it hi
    rw[e1];exact e2.mono fun k hk=>hk.elim
   ·obtain⟨j,hj,rfl⟩:=List.mem_iff_getElem.1 hy
    exact jr (hok j _ (fI (aN (by rw[aW nU,←l1];exact hj)) (aN hj))).2
  ·cases hr
 ·cases hr
theorem FW (hT:ct C) {a:Act} (h:an F A w0 φ st a.tmps w) {o:Oper} {args:Array Operand} {ts:Array TypeId} (ho:o.op= .call {callee:= .builtin .append,args,argTypes:=ts}) {K:TS→Ev R} (hd: ∀d,o.dst=some d→d<a.tmps.size) (hk:(gm C st o K).holds cf lp Q):
 Dw C F A w0 φ st o a w K cf lp Q:=by
 unfold gm at hk;rw[ho] at hk;simp only at hk
 split at hk
 ·rename_i d s x t t' ee h1 h2
  have e1:args= #[s,x]:=by cases args;simp at h1;subst h1;rfl
  have e2:ts= #[t,t']:=by cases ts;simp at h2;subst h2;rfl
  subst e1 e2;have Pg:=bM hT h t s;have Mh:=bM hT h t' x
  have fin: ∀{dp:Bool} {z:Nat} {e:TypeId} {rows ay:List (List TC)} {sta bD:TS} {qU oN:List Value} {X1 X2:Nat→Nat→Prop} {Z1 Z2:Nat→Prop} {Ad:Option Addr} {c:Nat} {cs:CE} {oo:Option Nat},
   mS C t=some e→lJ (iO C st t s)=some cs→mU st cs=some (oo,z,(match dp with|true=>true|false=>false),rows)∨True→uL C e z=true→Le w φ st sta dp z rows (a.eval s) (if dp then .deep else .snap) qU X1 Z1 Ad c→(∀ad,Ad=some ad→ ∃o',lJ (iO C st t s)=some (.ref o' none)∨(∃q,lJ (iO C st t s)=some (.ref o' q))∧True)→
   (∀ad,Ad=some ad→ ∃o' q,lJ (iO C st t s)=some (.ref o' q)∧aj st.ob o'∧φ.S o' ad.block)→
   an F A w0 φ bD a.tmps w→eH w φ sta bD (bK (if dp then .deep else .snap) ay.flatten oN) X2 Z2→(∀r∈ay,r.length=z)→oN.length=ay.length*z→Src C.P z t' (a.eval x) ay.length oN w→fits (rows.length+ay.length) (C.tt e).bytes=true→
   (K (lK d ⟨dp,z,rows++ay⟩ bD)).holds cf lp Q→Dw C F A w0 φ st o a w K cf lp Q:=by
   intro dp z e rows ay sta bD qU oN X1 X2 Z1 Z2 Ad c cs oo he hcs _ hsz hb _ hown Ci p2 Cc sN hsrc hfit hk;obtain⟨Cg,hz⟩:=AA hsz;obtain⟨v,w',hrun,lH,hsize,hframe⟩:=Az (ty:=o.type) hT rfl (kH hT he).1 Cg h Ci (hd d ee) hz hb.parts p2 hb.width Cc hb.len sN hb.le hb.max hsrc hb.at' hfit;refine⟨.value v,v,w',_,?_,.inl rfl,by rw[ee];exact lH,hk,hsize,fun k hk JV=>hframe k hk fun ad zp e=>JV ?_⟩
   ·rw[jJ ho]
    simp only[builtin,Sem.run_bind]
    have:(#[s,x].map a.eval)= #[a.eval s,a.eval x]:=by simp
    rw[this,hb.val,hrun]
    rfl
   ·obtain⟨o',q,g1,g2,g3⟩:=hown ad zp
    refine .inr ⟨o',?_,g2,by rw[e];exact g3⟩;unfold writes;rw[ho];simp only;refine List.mem_map.2 ⟨o',?_,rfl⟩
    revert g1
    cases iO C st t s with
    |v tup es=>
     unfold lJ
     split
     ·rename_i e0 e1
      intro g1
      cases g1
      simp only[TE.v.injEq] at e1;obtain⟨rfl,rfl⟩:=e1;exact .head _
     ·intro g1;cases g1
     ·intro g1;cases g1
    |_=>intro g1;simp[lJ] at g1
  unfold EI at hk
  split at hk
  ·rename_i e cs cx he hcs Ph
   obtain⟨_,IU⟩:=lX Pg hcs;obtain⟨_,JW⟩:=lX Mh Ph
   have hown: ∀{oo:Option Nat} {z:Nat} {dp dp':Bool} {rows:List (List TC)} {M:Mode} {qU:List Value} {X1:Nat→Nat→Prop} {Z1:Nat→Prop} {Ad:Option Addr} {c:Nat},mU st cs=some (oo,z,dp,rows)→Le w φ st (fX oo st) dp' z rows (a.eval s) M qU X1 Z1 Ad c→
    ∀ad,Ad=some ad→ ∃o' q,lJ (iO C st t s)=some (.ref o' q)∧aj st.ob o'∧φ.S o' ad.block:=fun {oo z dp dp' rows M qU X1 Z1 Ad c} hb hB ad zp=>by
    unfold mU at hb
    split at hb
    ·cases hb
     rcases hB.at' with⟨e0,_⟩|⟨ad',e0,_,⟨o',o1,o2,o3⟩,_⟩
     ·rw[zp] at e0;cases e0
     ·exact absurd o1 o2
    ·rename_i o' cut
     cases hl:aa o' st.ob with
     |none=>rw[hl] at hb;cases hb
     |some b=>
      obtain⟨d0,z0,gh⟩:=b;rw[hl] at hb
      cases hb
      rcases hB.at' with⟨e0,_⟩|⟨ad',e0,_,⟨o2,o21,o22,o23⟩,_⟩
      ·rw[zp] at e0;cases e0
      ·rw[zp] at e0
       cases e0
       have:o2=o':=Classical.byContradiction fun hne=>o22 (dJ.2 ⟨hne,o21⟩);subst this;exact⟨o2,cut,hcs,o21,o23⟩
    ·cases hb
   split at hk
   ·rename_i oo z dp rows hb Pj
    split at hk
    ·rename_i b hsz hz1
     have hk2:(match fits (rows.length+b.size) (C.tt e).bytes with|true=>K (lK d ⟨dp,z,rows++rN b⟩ (fX oo st))|false=> .fail:Ev R).holds cf lp Q:=hk;clear hk
     split at hk2
     ·rename_i hfit
      have hz1:=cX hz1;subst hz1;obtain⟨hz,hka,qU,X1,Z1,Ad,c,hB⟩:=tO h IU hb (M:=if dp then .deep else .snap) (by cases dp<;>simp);have hv:=Bn JW
      exact fin (oo:=oo) he hcs (.inr trivial) hsz hB (fun ad zp=>let ⟨o',q,g,_⟩:=hown hb hB ad zp;⟨o',.inr ⟨⟨q,g⟩,trivial⟩⟩) (hown hb hB) hka (Ay b _ _) (vW b) (by rw[byteCells_length,gE,Nat.mul_one])
       (by rw[hv,gE];exact Src.ofString w (xY hT Pj) b) (by rw[gE];exact hfit) hk2
     ·exact hk2.elim
    ·exact hk.elim
   ·rename_i oo z dp rows e2 hb Gm
    have Mk:=(xZ hT Gm).1
    split at hk
    ·exact hk.elim
    ·rename_i hsz
     split at hk
     ·split at hk
      ·rename_i z' ay hr
       split at hk
       ·rename_i vN
        have vN:=cX vN;subst vN;have hk2:(match(cT ay&&fits (rows.length+ay.length) (C.tt e).bytes) with|true=>K (lK d ⟨dp,z,rows++ay⟩ (fX oo st))|false=> .fail:Ev R).holds cf lp Q:=hk;clear hk
        split at hk2
        ·rename_i hfit
         simp only[cL] at hfit;obtain⟨hz,hka,qU,X1,Z1,Ad,c,hB⟩:=tO h IU hb (M:=if dp then .deep else .snap) (by cases dp<;>simp);obtain⟨oN,p2,Cc,sN,hsrc⟩:=FV h JW Mk hr hfit.1 (if dp then .deep else .snap) (fX oo st);exact fin (oo:=oo) he hcs (.inr trivial) hsz hB (fun ad zp=>let ⟨o',q,g,_⟩:=hown hb hB ad zp;⟨o',.inr ⟨⟨q,g⟩,trivial⟩⟩) (hown hb hB) hka p2 Cc sN hsrc hfit.2 hk2
        ·exact hk2.elim
       ·exact hk.elim
      ·exact hk.elim
     ·split at hk
      ·rename_i z' ay bD JX
       split at hk
       ·rename_i vN
        have vN:=cX vN;subst vN;have hk2:(match fits (rows.length+ay.length) (C.tt e).bytes with|true=>K (lK d ⟨dp,z,rows++ay⟩ bD)|false=> .fail:Ev R).holds cf lp Q:=hk;clear hk
        split at hk2
        ·rename_i hfit
         exact D2 hT h ho hd ee he hcs hb hsz Mk IU JW JX hfit hk2
        ·exact hk2.elim
       ·exact hk.elim
      split at hk
      ·rename_i z' ay QU
       split at hk
       ·rename_i vN
        have vN:=cX vN;subst vN;have hk2:(match fits (rows.length+ay.length) (C.tt e).bytes with|true=>K (lK d ⟨false,z,rows++ay⟩ (fX oo st))|false=> .fail:Ev R).holds cf lp Q:=hk;clear hk
        split at hk2
        ·rename_i hfit
         obtain⟨hz,hka,qU,X1,Z1,Ad,c,hB⟩:=tO h IU hb (M:= .snap) (.inl rfl);obtain⟨oN,p2,Cc,sN,hsrc⟩:=Jk h JW Mk QU (fX oo st);exact fin (oo:=oo) (dp:=false) he hcs (.inr trivial) hsz ⟨hB.val,hB.parts,hB.width,hB.len,hB.le,hB.max,hB.at'⟩ (fun ad zp=>let ⟨o',q,g,_⟩:=hown hb hB ad zp;⟨o',.inr ⟨⟨q,g⟩,trivial⟩⟩) (hown hb hB) hka p2 Cc sN hsrc hfit hk2
        ·exact hk2.elim
       ·exact hk.elim
      split at hk
      ·rename_i z' ay bD d1 hab
       split at hk
       ·rename_i vN
        have vN:=cX vN;subst vN;have hk2:(match fits (rows.length+ay.length) (C.tt e).bytes with|true=>K (lK d ⟨dp&&d1,z,rows++ay⟩ bD)|false=> .fail:Ev R).holds cf lp Q:=hk;clear hk
        split at hk2
        ·rename_i hfit
         obtain⟨hz,hka,qU,X1,Z1,Ad,c,hB⟩:=tO h IU hb (M:=if(dp&&d1) then .deep else .snap) (by cases dp<;>cases d1<;>simp);obtain⟨Ci,oN,X2,Z2,p2,Cc,sN,hsrc⟩:=Jj hka hB.parts.sub JW Mk hab (M:=if(dp&&d1) then .deep else .snap) (by cases dp<;>cases d1<;>simp);exact fin (oo:=oo) (dp:=dp&&d1) he hcs (.inr trivial) hsz ⟨hB.val,hB.parts,hB.width,hB.len,hB.le,hB.max,hB.at'⟩ (fun ad zp=>let ⟨o',q,g,_⟩:=hown hb hB ad zp;⟨o',.inr ⟨⟨q,g⟩,trivial⟩⟩) (hown hb hB) Ci p2 Cc sN hsrc hfit hk2
        ·exact hk2.elim
       ·exact hk.elim
      ·exact hk.elim
   ·exact hk.elim
  ·exact hk.elim
 ·exact hk.elim
end Go.T
namespace Go.T
variable {F : Nat → Prop} {A : Arg} {w0 w w' : World} {φ φ' φ1 : Fp} {st st' sta bD : TS} {tm r9 : Array Value} {C : eZ}
variable {R : Type} {cf : Cf} {lp : Lp} {Q : R → Prop}
theorem v7 {P:Program} {e:TypeId} {z:Nat} {i:TypeInfo} (h:P.info? e=some i) (hz:i.size=z) (w:World):(sizeOf e).run P w= .ok z w:=by
 simp[sizeOf,typeInfo,h,hz]
theorem Jl {R S:Nat→Prop} {m:Mode} {z:Nat} {rows:List (List TC)} {v:Value} (h:ah w R m S (.sub z rows) v): ∃A c,v= .slice A rows.length c∧(rows≠[]→ ∃ad,A=some ad):=by
 cases h with
 |sub _ _ _ _ A c u T k hn=>exact⟨A,c,rfl,k.addr⟩
def Hw (v:Value):yg:=⟨.sc v,v,fun _=>False⟩
attribute [local semireducible] gj in
theorem mh (rows ay:List (List TC)):gj rows ay=ay.take rows.length++rows.drop ay.length:=rfl
theorem Jm (hT:ct C) {a:Act} (h:an F A w0 φ st a.tmps w) {o:Oper} {args:Array Operand} {ts:Array TypeId} (ho:o.op= .call {callee:= .builtin .copy,args,argTypes:=ts}) {K:TS→Ev R} (hd: ∀d,o.dst=some d→d<a.tmps.size) (hk:(gm C st o K).holds cf lp Q):
 Dw C F A w0 φ st o a w K cf lp Q:=by
 unfold gm at hk;rw[ho] at hk;simp only at hk
 split at hk
 ·rename_i s x t t' h1 h2
  have e1:args= #[s,x]:=by cases args;simp at h1;subst h1;rfl
  have e2:ts= #[t,t']:=by cases ts;simp at h2;subst h2;rfl
  subst e1 e2;have Pg:=bM hT h t s;have Mh:=bM hT h t' x;unfold Kb at hk
  split at hk
  ·rename_i e r cx he hcs Ph
   obtain⟨A6,IU⟩:=lX Pg hcs;obtain⟨_,JW⟩:=lX Mh Ph
   split at hk
   ·rename_i z rows z' ay hl hr Cg
    split at hk
    ·rename_i vN
     simp only[cL] at vN;have hz1:=cX vN.1;have QW:=cX vN.2;subst hz1
     have hk2:(match cT ay with
      |true=>(match o.dst with
       |some d=>K ((jQ r ⟨true,z,gj rows ay⟩ st).set d (one (.sc (.int .i64 (Int.ofNat (ni ay.length rows.length))))))
       |none=>K (jQ r ⟨true,z,gj rows ay⟩ st))
      |false=> .fail:Ev R).holds cf lp Q:=hk
     clear hk
     split at hk2
     ·rename_i hsc
      have hin:aj st.ob r:=⟨_,hl⟩;obtain⟨b0,hb0,KD⟩:=IU;rw[hl] at hb0
      cases hb0
      have KD:a.eval s=φ.V r:=KD;have hO:ah w φ.I .deep (φ.S r) (.sub z rows) (φ.V r):=h.obj r _ hl;obtain⟨Ad,c,bq,op⟩:=hO.opened;obtain⟨m9,_⟩:=iF h JW hr;obtain⟨vs,l1,nU,hz,hcell,FA⟩:=m9.vals;obtain⟨A',c',hxval,QY⟩:=Jl m9;obtain⟨hkn,hnp⟩:=nB Cg;obtain⟨i,zv,g1,g2,_⟩:=(hT e hkn).info
      have isz:i.size=z:=by rw[g2,QW]
      have hU:=(kH hT he).1
      have lits:bq.length=rows.length*z:=by
       have:=congrArg List.length op.tcs;rw[aW op.width,dG] at this;exact this.symm
      obtain⟨us,IC⟩: ∃us,us=vs.take (rows.length*z):=⟨_,rfl⟩
      have lus:us.length=ni ay.length rows.length*z:=by
       rw[IC,gW,l1];rcases Nat.le_total ay.length rows.length with hle|hle
       ·have:=iD z hle
        rw[show ni ay.length rows.length=ay.length from Nat.min_eq_left hle];omega
       ·have:=iD z hle
        rw[show ni ay.length rows.length=rows.length from Nat.min_eq_right hle];omega
      have usS: ∀v∈vs,wE v:=fun v hv=>by
       obtain⟨j,hj,rfl⟩:=List.mem_iff_getElem.1 hv;obtain⟨tc,JU⟩: ∃tc,ay.flatten[j]?=some tc:=⟨_,aN (by rw[aW nU,←l1];exact hj)⟩;obtain⟨T,hT⟩:=FA j tc _ JU (aN hj);obtain⟨v',rfl⟩:=yh hsc j tc JU
       cases hT with
       |sc _ _ _ hs=>exact hs
      have tcV:ay.flatten=vs.map .sc:=by
       apply List.ext_getElem
       ·rw[aW nU,dG,l1]
       ·intro j h1 h2
        rw[List.getElem_map];have JU:ay.flatten[j]?=some ay.flatten[j]:=aN h1
        have hj':j<vs.length:=by rw[dG] at h2;exact h2
        have hvs:vs[j]?=some vs[j]:=aN hj';obtain⟨T,hT⟩:=FA j _ _ JU hvs;obtain⟨v',EA⟩:=yh hsc j _ JU;rw[EA] at hT ⊢
        cases hT with
        |sc _ _ _ hs=>rfl
      have one1: ∀v∈us,v.oneCell'=true:=fun v hv=>by
       have:=usS v (by rw[IC] at hv;exact vR hv)
       cases v<;>first|rfl|cases this
      have IE: ∀W:World,(∀x,W.cell? x=w.cell? x)→(Builtin.firstCells z (ni ay.length rows.length) (.slice A' ay.length c')).run C.P W= .ok us.toArray W:=fun W hW=>by
       by_cases hne:ay=[]
       ·have h0:us=[]:=rL (by rw[lus,hne];simp)
        subst h0;subst hne
        cases A' with
        |none=>simp[Builtin.firstCells]
        |some ad=>exact run_firstCells_some W z _ ad _ c' [] dK (fun j v hj=>by simp at hj)
       ·obtain⟨ad,rfl⟩:=QY hne
        refine run_firstCells_some W z _ ad _ c' us lus fun j v hj=> ?_;rw[hW];refine hcell ad _ _ hxval j v ?_;rw[IC,vQ] at hj
        split at hj
        ·exact hj
        ·cases hj
      have JY:(gj rows ay).length=rows.length:=by
       rw[mh,cM,gW,oQ];omega
      have fin: ∀w',(Builtin.copy_ #[t,t'] o.type #[a.eval s,a.eval x]).run C.P w= .ok (goInt (ni ay.length rows.length)) w'→an F A w0 (φ.add r (φ.S r) (φ.V r)) (jQ r ⟨true,z,gj rows ay⟩ st) a.tmps w'→w.heap.size≤w'.heap.size→(∀k,k<w.heap.size→ ¬φ.S r k→w'.heap[k]?=w.heap[k]?)→Dw C F A w0 φ st o a w K cf lp Q:=fun w' hrun lH hsz hfr=>by
       have run:(execOp a.eval o).run C.P w= .ok (.value (goInt (ni ay.length rows.length))) w':=by
        rw[jJ ho];simp only[builtin,Sem.run_bind]
        have:(#[s,x].map a.eval)= #[a.eval s,a.eval x]:=by simp
        rw[this,hrun]
        rfl
       have wr: ∀k,k<w.heap.size→ ¬Wr st φ (writes C st o) k→w'.heap[k]?=w.heap[k]?:=fun k hk hn=>hfr k hk fun hS=>hn (.inr ⟨r,by
        unfold writes;rw[ho];simp only;refine List.mem_map.2 ⟨r,?_,rfl⟩
        revert hcs
        cases iO C st t s with
        |v tup es=>
         unfold lJ
         split
         ·rename_i e0 e1
          intro g1
          cases g1
          simp only[TE.v.injEq] at e1;obtain⟨rfl,rfl⟩:=e1;exact .head _
         ·intro g1;cases g1
         ·intro g1;cases g1
        |_=>intro g1;simp[lJ] at g1,hin,hS⟩)
       cases ee:o.dst with
       |none=>
        rw[ee] at hk2;exact⟨_,goInt (ni ay.length rows.length),w',_,run,.inl rfl,by rw[ee];exact⟨_,lH⟩,hk2,hsz,wr⟩
       |some d=>
        rw[ee] at hk2;refine⟨_,goInt (ni ay.length rows.length),w',_,run,.inl rfl,?_,hk2,hsz,wr⟩;rw[ee];exact⟨_,lH.zC (v:=goInt (ni ay.length rows.length)) (hd d ee) ⟨_,rfl,_,rfl,rfl,rfl,trivial⟩⟩
      have hX:=fun k hk=>h.sep.fresh r k hin hk
      cases zp:Ad with
      |none=>
       have hc0:=op.none zp;have hle:=op.le;have LG:rows=[]:=rL aB
       have JZ:gj rows ay=rows:=by rw[mh,LG];simp
       refine fin w ?_ ?_ (bH _) fun _ _ _=>rfl
       ·rw[KD,op.val,zp,hxval]
        simp only[Builtin.copy_,Builtin.lenOf];simp[run_underlying hU,v7 g1 isz,IE w fun _=>rfl]
       ·refine h.jQ hl rfl JY ?_ h.frm (bH _) (fun _ _ _=>rfl) hX (fun k hk=>h.sep.read r k hin hk) (fun k d hk hne hd hs=>hne (h.sep.apart d r k hd hin hs hk)) (fun b cs vL hw hk=>(h.sep.box b cs vL hw).2.1 r hin hk)
        show ah w φ.I .deep (φ.S r) (.sub z (gj rows ay)) (φ.V r);rw[JZ];exact hO
      |some ad=>
       obtain⟨Nu,hsp,⟨sp,Ci,Nv⟩,hfz,P2⟩:=op.row ad zp;obtain⟨b,off,spot⟩:=ad
       cases hsp
       simp only at Ci Nv hfz P2 Nu;have hle:=op.le;have elc:=iD z hle
       have lmin:us.length≤rows.length*z:=by rw[lus];exact iD z (Nat.min_le_right _ _)
       have lL:(bq.map (·.val)++sp).length=c*z:=Nv;have hst:=run_storeCells_cells (P:=C.P) b off us 0 w (fun j hj=>by rw[jF,Ci j _ (aN aB)];rfl) (fun j hj=>by rw[jF];exact hfz j aB) one1;rw[jF] at hst;have r2:=Ci.put (p:=0) (us:=us) aB;rw[jF,List.take_zero,lO,eJ] at r2
       have hnew:sw (w.setCells b off us) (φ.S r) z (gj rows ay) (φ.V r) Ad c (us.map Hw++bq.drop (ay.length*z)):=by
        have KH:(us.map Hw++bq.drop (ay.length*z)).map (·.val)=us++(bq.map (·.val)).drop (ay.length*z):=by
         rw[xD,List.map_map,Ac]
         congr 1
         have:((fun t:yg=>t.val)∘Hw)=id:=rfl;rw[this,List.map_id]
        have KI:(bq.map (·.val)++sp).drop us.length=(bq.map (·.val)).drop (ay.length*z)++sp:=by
         rcases Nat.le_total ay.length rows.length with hq|hq
         ·have:=iD z hq
          rw[lus,show ni ay.length rows.length=ay.length from Nat.min_eq_left hq,List.drop_append_of_le_length (by rw[dG];omega)]
         ·have:=iD z hq
          rw[lus,show ni ay.length rows.length=rows.length from Nat.min_eq_right hq,List.drop_append_of_le_length (by rw[dG];omega),vP (by rw[dG];omega),vP (by rw[dG];omega)]
        refine⟨by rw[JY];exact op.val,by rw[JY];exact op.le,op.cap,op.z0,fun q hq=> ?_,?_,fun t ht=> ?_,?_,fun t ht k hk=> ?_,op.none,fun ad e=> ?_⟩
        ·rw[mh] at hq
         rcases List.mem_append.1 hq with hq|hq
         ·exact nU q (vR hq)
         ·exact op.width q (xE hq)
        ·rw[mh,EE,ov nU,oy op.width,op.tcs,tcV,←Ck,←IC,xD,List.map_map,Ac]
         rfl
        ·rcases List.mem_append.1 ht with ht|ht
         ·obtain⟨v,hv,rfl⟩:=List.mem_map.1 ht
          exact .sc _ _ _ (usS v (by rw[IC] at hv;exact vR hv))
         ·have hm:=xE ht
          refine(op.ok t hm).move (fun k hk=>hk.elim) fun _ k hk=> ?_;have hs:=op.sub t hm k hk;exact cm _ _ _ _ (hX k hs.1).1 (hs.2 _ zp)
        ·refine List.pairwise_append.2 ⟨?_,(op.gU.sublist (List.drop_sublist _ _)),fun x hx y hy k hk=> ?_⟩
         ·rw[List.pairwise_map]
          exact List.pairwise_of_forall fun _ _ k hk=>hk.elim
         ·obtain⟨v,hv,rfl⟩:=List.mem_map.1 hx
          exact hk.elim
        ·rcases List.mem_append.1 ht with ht|ht
         ·obtain⟨v,hv,rfl⟩:=List.mem_map.1 ht
          exact hk.elim
         ·exact op.sub t (xE ht) k hk
        ·rw[zp] at e
         cases e
         refine⟨Nu,rfl,⟨sp,?_,?_⟩,fun j hj=> ?_,fun hz1 j=> ?_⟩
         ·rw[KH,rK,←KI];exact r2
         ·rw[KH,rK,←KI,cM,oQ];omega
         ·rw[show(w.setCells b off us).frozen? ⟨b,off+j,none⟩=w.frozen? ⟨b,off+j,none⟩ from World.frozen?_setCells b us off w _];exact hfz j hj
         ·rw[show(w.setCells b off us).frozen? ⟨b,j,none⟩=w.frozen? ⟨b,j,none⟩ from World.frozen?_setCells b us off w _];exact P2 hz1 j
       have hsz:=(fe b us off w).2.2.2;refine fin (w.setCells b off us) ?_ ?_ (by rw[hsz];exact bH _) fun k hk hn=>cm _ _ _ _ hk fun e=>hn (by rw[e];exact Nu)
       ·rw[KD,op.val,zp,hxval]
        simp only[Builtin.copy_,Builtin.lenOf];simp[run_underlying hU,v7 g1 isz,IE w fun _=>rfl,hst]
       ·refine h.jQ hl rfl JY hnew.rep (h.frm.setCells (hX b Nu).2) (by rw[hsz];exact bH _) (fun k hk hn=>cm _ _ _ _ hk fun e=>hn (by rw[e];exact Nu)) (fun k hk=>by rw[hsz];exact hX k hk) (fun k hk=>h.sep.read r k hin hk) (fun k d hk hne hd hs=>hne (h.sep.apart d r k hd hin hs hk)) (fun b' cs vL hw hk=>(h.sep.box b' cs vL hw).2.1 r hin hk)
     ·exact hk2.elim
    ·exact hk.elim
   ·exact hk.elim
  ·exact hk.elim
 ·exact hk.elim
end Go.T
