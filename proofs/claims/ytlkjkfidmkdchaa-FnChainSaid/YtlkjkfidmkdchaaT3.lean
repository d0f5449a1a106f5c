import Derived.Test.YtlkjkfidmkdchaaT2
import Derived.Deep.AppendSrc
import Derived.Deep.MidRow
import Derived.Deep.Upon
import Derived.Laws.MakeOwn
import Derived.Laws.IdiomStrings
import Derived.Laws.IdiomCopy
set_option linter.all false
namespace Go.T
variable {F : Nat → Prop} {A : Arg} {w0 w w' : World} {φ φ' : Fp} {st st' cG lR : TS} {tm AK : Array Value} {C : jC}
theorem oE: ∀(W:List (Nat×OB)) (ob:List (Nat×OB)) (d:Nat),aa d (iy W ob)=match aa d W with|some b=>some b|none=>aa d ob
 |[],ob,d=>rfl
 |(i,b)::r,ob,d=>by
  simp only[iy,dD,aa,oE r ob d]
  by_cases h:d=i
  ·subst h;simp
  ·rw[aF h,beq_false (Ne.symm h)]
theorem JF {α:Type}: ∀{W:List (Nat×α)} {d:Nat},d∈oZ W↔ ∃b,aa d W=some b
 |[],d=>by simp[oZ,aa]
 |(i,b)::r,d=>by
  simp only[oZ,cw,JF (W:=r),aa]
  by_cases h:d=i
  ·subst h;simp
  ·rw[beq_false (Ne.symm h)];simp[h]
theorem Dj {α:Type} {W:List (Nat×α)} {d:Nat} (h:d∉oZ W):aa d W=none:=by
 cases hd:aa d W with
 |none=>rfl
 |some b=>exact absurd (JF.2 ⟨b,hd⟩) h
theorem AU {a l:List Nat} (h:qy a l=true): ∃x,x∈a∧x∈l:=by
 induction a with
 |nil=>cases h
 |cons y r ih=>
  simp only[qy] at h
  cases h1:jc y l with
  |true=>exact⟨y,.head _,iz.1 h1⟩
  |false=>rw[h1] at h;obtain⟨x,a,b⟩:=ih h;exact⟨x,.tail _ a,b⟩
def Fp.wr (φ:Fp) (W:List (Nat×OB)) (X:Nat→Nat→Prop) (Z:Nat→Prop):Fp:=
 {φ with I:=fun k=>φ.I k∨Z k,S:=fun d k=>match aa d W with|some _=>X d k|none=>φ.S d k}
theorem IC {W:List (Nat×OB)} {X:Nat→Nat→Prop} {Z:Nat→Prop} {d k:Nat} (h:aa d W=none):(φ.wr W X Z).S d k=φ.S d k:=by
 unfold Fp.wr;simp only[h]
theorem MC {W:List (Nat×OB)} {X:Nat→Nat→Prop} {Z:Nat→Prop} {d k:Nat} {b:OB} (h:aa d W=some b):(φ.wr W X Z).S d k=X d k:=by
 unfold Fp.wr;simp only[h]
theorem aH.wrote (h:aH F A w0 φ st tm w) (W:List (Nat×OB)) (X:Nat→Nat→Prop) (Z G:Nat→Prop)
 (hf:BO F w0 w') (hsz:w.heap.size≤w'.heap.size) (hw: ∀k,k<w.heap.size→ ¬G k→w'.heap[k]?=w.heap[k]?)
 (gF: ∀k,G k→w0.heap.size≤k∨F k) (gI: ∀k,G k→ ¬φ.I k) (gS: ∀k o,G k→aA st.ob o→aa o W=none→ ¬φ.S o k) (gB: ∀b cs,aa b st.bx=some cs→ ¬G (φ.β b).block)
 (hW: ∀o b',aa o W=some b'→ ∃b,aa o st.ob=some b∧b'.z=b.z∧b'.rows.length=b.rows.length∧ai w' (fun k=>φ.I k∨Z k) b'.m (X o) (.sub b'.z b'.rows) (φ.V o)∧
   ∀k,X o k→k<w'.heap.size∧(w0.heap.size≤k∨F k)∧ ¬φ.I k∧ ¬Z k∧(∀d,aA st.ob d→aa d W=none→ ¬φ.S d k)∧(∀d b,aa d W=some b→X d k→d=o)∧ ∀b cs,aa b st.bx=some cs→u0 b=true→(φ.β b).block≠k)
 (hZ: ∀k,Z k→k<w'.heap.size∧(w0.heap.size≤k∨F k∨A.sh k)∧(∀d,aA st.ob d→aa d W=none→ ¬φ.S d k)∧ ∀b cs,aa b st.bx=some cs→u0 b=true→(φ.β b).block≠k):
 aH F A w0 (φ.wr W X Z) (qj W st) tm w':=by
 have mS: ∀d,aA (iy W st.ob) d↔aA st.ob d:=fun d=>by
  unfold aA;rw[oE]
  cases hd:aa d W with
  |none=>rfl
  |some b=>obtain⟨b0,h0,_⟩:=hW d b hd;exact⟨fun _=>⟨b0,h0⟩,fun _=>⟨b,rfl⟩⟩
 have gA: ∀k,G k→ ¬A.all k:=fun k hg ha=>by
  have:=h.sep.kk k ha;rcases gF k hg with h3|h3
  ·omega
  ·exact this.2 h3
 have stI: ∀k,φ.I k→w'.heap[k]?=w.heap[k]?:=fun k hk=>hw k (h.sep.ro k hk).1 fun hg=>gI k hg hk
 have stS: ∀d k,aa d W=none→d=0∨aA st.ob d→φ.S d k→w'.heap[k]?=w.heap[k]?:=fun d k hn hd hk=>hw k (h.sep.lt h.frm.size hd hk) fun hg=>by
  rcases hd with rfl|hd
  ·rw[h.sep.arg] at hk;exact gA k hg hk
  ·exact gS k d hg hd hn hk
 have w0n:aa 0 W=none:=by
  cases h0:aa 0 W with
  |none=>rfl
  |some b=>obtain⟨b0,h1,_⟩:=hW 0 b h0;exact absurd rfl (h.sep.nz 0 ⟨b0,h1⟩)
 have stR: ∀ds k,(∀d∈ds,aa d W=none)→(∀d∈ds,d=0∨aA st.ob d)→rd φ ds k→rd (φ.wr W X Z) ds k∧w'.heap[k]?=w.heap[k]?:=fun ds k hn hd hk=>by
  rcases hk with hk|⟨d,hm,hk⟩
  ·exact⟨.inl (.inl hk),stI k hk⟩
  ·exact⟨.inr ⟨d,hm,by rw[IC (hn d hm)];exact hk⟩,stS d k (hn d hm) (hd d hm) hk⟩
 have stV: ∀p b1 ad n c i f tc u,aa p W=none→aa p st.ob=some b1→φ.V p= .slice (some ad) n c→sW b1.rows i f=some tc→w.cell? (ad.add (i*b1.z+f))=some u→w'.cell? (ad.add (i*b1.z+f))=some u:=by
  intro p b1 ad n c i f tc u hne hp hv ht hcell;have hO:=h.obj p b1 hp;unfold kz at hO;rw[hv] at hO
  have hS:φ.S p ad.block:=by
   cases hO with
   |sub _ _ _ _ _ _ u T k hn=>exact(k.own (by unfold OB.m;split<;>simp)).2 ad rfl|>.1
  rw[dS (w:=w)]
  ·exact hcell
  ·rw[bH];exact stS p _ hne (.inr ⟨b1,hp⟩) hS
 have cbox: ∀p cs,aa p st.bx=some cs→w'.heap[(φ.β p).block]?=w.heap[(φ.β p).block]?:=fun p cs hp=>hw _ (h.sep.spot p cs hp).2.1 (gB p cs hp)
 have look1: ∀{d b},aa d st.ob=some b→ ∃b',aa d (iy W st.ob)=some b'∧b'.z=b.z∧b'.rows.length=b.rows.length∧(aa d W=none→b'=b):=fun {d b} hb=>by
  rw[oE]
  cases hd:aa d W with
  |none=>exact⟨b,hb,rfl,rfl,fun _=>rfl⟩
  |some b'=>
   obtain⟨b0,h0,h1,h2,_⟩:=hW d b' hd;rw[hb] at h0;cases h0;exact⟨b',rfl,h1,h2,fun e=>by cases e⟩
 have obj: ∀o b,aa o (iy W st.ob)=some b→kz w' (φ.wr W X Z) o b:=fun o b ho=>by
  rw[oE] at ho;unfold kz
  cases hd:aa o W with
  |none=>
   rw[hd] at ho;refine(ai.mono ((h.obj o b ho).move (fun k hk=>⟨.inl hk,stI k hk⟩) fun _ k hk=>stS o k hd (.inr ⟨b,ho⟩) hk) fun k hk=> ?_);rw[IC hd];exact hk
  |some b'=>
   rw[hd] at ho
   cases ho
   obtain⟨b0,h0,h1,h2,h3,_⟩:=hW o _ hd;refine ai.mono h3 fun k hk=> ?_;rw[MC hd];exact hk
 have hce: ∀e v,cq st.ob w φ e v→cq (iy W st.ob) w' (φ.wr W X Z) (zz (oZ W) e) v:=fun e v he=>by
  cases e with
  |ref p cut=>
   obtain⟨b1,h1,h2⟩:=he;obtain⟨b',g1,g2,g3,_⟩:=look1 h1;refine⟨b',g1,?_⟩
   cases cut with
   |none=>exact h2
   |some q=>obtain⟨l,r⟩:=q;simp only at h2 ⊢;rw[g2,g3];exact h2
  |snap ds loc z rows=>
   simp only[zz]
   cases hd:qy ds (oZ W) with
   |true=>trivial
   |false=>
    have hn: ∀d∈ds,aa d W=none:=fun d hm=>Dj (oc hd hm);obtain⟨h1,h2,h3⟩:=he;refine⟨fun d hm=>(h1 d hm).imp id (mS d).2,h2.move (fun k hk=>stR ds k hn h1 hk) (fun hm=>absurd rfl hm),fun p i f hl=> ?_⟩;obtain⟨a1,b1,a2,a3,a4,ad,n,c,a5,a6⟩:=h3 p i f hl;obtain⟨b',g1,_,_,g4⟩:=look1 a2;have:=g4 (hn p a1);subst this;exact⟨a1,_,g1,a3,a4,ad,n,c,a5,stV p _ ad n c _ _ _ _ (hn p a1) a2 a5 a4 a6⟩
  |_=>exact he
 have Eh: ∀e v,(∀t es,e≠ .v t es)→bP st.ob w φ e v→bP (iy W st.ob) w' (φ.wr W X Z) (vU (oZ W) e) v:=fun e v hv he=>by
  cases e with
  |v t es=>exact absurd rfl (hv t es)
  |ep ds cells=>
   simp only[vU]
   cases hd:qy ds (oZ W) with
   |true=>trivial
   |false=>
    have hn: ∀d∈ds,aa d W=none:=fun d hm=>Dj (oc hd hm);obtain⟨h1,ad,h2,hr,h3⟩:=he;refine⟨fun d hm=>(h1 d hm).imp id (mS d).2,ad,h2,fun hc=>(stR ds _ hn h1 (hr hc)).1,fun j tc hj=> ?_⟩;obtain⟨u,h4,h5⟩:=h3 j tc hj
    have hc:cells≠[]:=fun e=>by rw[e] at hj;simp at hj
    exact⟨u,by rw[dS (w:=w) (by rw[bH];exact(stR ds _ hn h1 (hr hc)).2)];exact h4,h5.move (fun k hk=>stR ds k hn h1 hk) (fun hm=>absurd rfl hm)⟩
  |er p path i f=>
   obtain⟨b1,h1,h2,ad,n,c,h3,h4⟩:=he;obtain⟨b',g1,g2,g3,g4⟩:=look1 h1
   cases path with
   |none=>exact⟨b',g1,h2,ad,n,c,h3,by simp only at h4 ⊢;rw[g2];exact h4⟩
   |some q=>
    obtain⟨i0,f0⟩:=q;simp only[vU]
    cases hd:jc p (oZ W) with
    |true=>trivial
    |false=>
     have hn:=Dj (cV.1 hd);have:=g4 hn;subst this;obtain⟨a1,z1,nE,a2,ad1,n1,c1,a3,a4⟩:=h4;exact⟨_,g1,h2,ad,n,c,h3,a1,z1,nE,a2,ad1,n1,c1,stV p _ ad n c _ _ _ _ hn h1 h3 a2 a3,a4⟩
  |_=>exact he
 have hsep: ∀bx',(∀b cs',aa b bx'=some cs'→ ∃cs,aa b st.bx=some cs∧cs'.length=cs.length)→Sep F A w0 w' (φ.wr W X Z) bx' (iy W st.ob):=fun bx' Ej=>by
  have hs:=h.sep.boxes Ej
  exact {
   arg:=by
    funext k
    rw[IC w0n,h.sep.arg]
   nz:=fun d hd=>h.sep.nz d ((mS d).1 hd)
   apart:=fun d d' k h1 h2 h3 h4=>by
    have i1:=(mS d).1 h1;have i2:=(mS d').1 h2
    cases e1:aa d W with
    |some b=>
     rw[MC e1] at h3;obtain⟨_,_,_,_,_,hx⟩:=hW d b e1;obtain⟨_,_,_,_,x5,x6,_⟩:=hx k h3
     cases e2:aa d' W with
     |some b'=>rw[MC e2] at h4;exact(x6 d' b' e2 h4).symm
     |none=>rw[IC e2] at h4;exact absurd h4 (x5 d' i2 e2)
    |none=>
     rw[IC e1] at h3
     cases e2:aa d' W with
     |some b'=>
      rw[MC e2] at h4;obtain⟨_,_,_,_,_,hx⟩:=hW d' b' e2;exact absurd h3 ((hx k h4).2.2.2.2.1 d i1 e1)
     |none=>rw[IC e2] at h4;exact h.sep.apart d d' k i1 i2 h3 h4
   read:=fun d k hd hk=>by
    have hd:=(mS d).1 hd
    cases e1:aa d W with
    |some b=>
     rw[MC e1] at hk;obtain⟨_,_,_,_,_,hx⟩:=hW d b e1;obtain⟨_,_,x3,x4,_⟩:=hx k hk;exact fun hi=>hi.elim x3 x4
    |none=>
     rw[IC e1] at hk;exact fun hi=>hi.elim (h.sep.read d k hd hk) fun hz=>(hZ k hz).2.2.1 d hd e1 hk
   fresh:=fun d k hd hk=>by
    have hd:=(mS d).1 hd
    cases e1:aa d W with
    |some b=>
     rw[MC e1] at hk;obtain⟨_,_,_,_,_,hx⟩:=hW d b e1;exact⟨(hx k hk).1,(hx k hk).2.1⟩
    |none=>
     rw[IC e1] at hk;exact⟨gu (h.sep.fresh d k hd hk).1 hsz,(h.sep.fresh d k hd hk).2⟩
   ro:=fun k hk=>hk.elim (fun hk=>⟨gu (h.sep.ro k hk).1 hsz,(h.sep.ro k hk).2⟩) fun hz=>⟨(hZ k hz).1,(hZ k hz).2.1⟩
   kk:=h.sep.kk
   box:=fun p cs hp Aj=>by
    obtain⟨cs0,c1,_⟩:=Ej p cs hp;obtain⟨a1,a2,a3,a4⟩:=hs.box p cs hp Aj;refine⟨fun hi=>hi.elim a1 fun hz=>(hZ _ hz).2.2.2 p cs0 c1 Aj rfl,fun d hd hk=> ?_,a3,a4⟩;have hd:=(mS d).1 hd
    cases e1:aa d W with
    |some b=>
     rw[MC e1] at hk;obtain⟨_,_,_,_,_,hx⟩:=hW d b e1;exact(hx _ hk).2.2.2.2.2.2 p cs0 c1 Aj rfl
    |none=>rw[IC e1] at hk;exact a2 d hd hk
   spot:=fun p cs hp=>⟨(hs.spot p cs hp).1,gu (hs.spot p cs hp).2.1 hsz,(hs.spot p cs hp).2.2⟩
   soft:=fun p cs j hp Aj hj=>by
    obtain⟨cs0,c1,c2⟩:=Ej p cs hp;rw[je (w:=w) (by rw[bH];exact cbox p cs0 c1)]
    exact h.sep.soft p cs0 j c1 Aj ax}
 have Ej: ∀b cs,aa b st.bx=some cs→ ∀j,j<cs.length→w'.cell? ((φ.β b).add j)=w.cell? ((φ.β b).add j):=fun p cs hp j _=>dS (by rw[bH];exact cbox p cs hp)
 cases W with
 |nil=>
  have:=h.AR (f:=id) (g:=id) (k:=id) (φ':=φ.wr [] X Z) rfl rfl (fun e v he=> ?_) (fun e v hv he=> ?_) Ej obj (by rw[Dg];exact hsep st.bx fun b cs hb=>⟨cs,hb,rfl⟩) hf
  ·rw[rD] at this;exact this
  ·have:=hce e v he
   have e1:zz (oZ ([]:List (Nat×OB))) e=e:=by
    cases e with
    |snap ds l z rows=>simp only[zz];cases hd:qy ds (oZ ([]:List (Nat×OB))) with
     |true=>obtain⟨x,_,hx⟩:=AU hd;cases hx
     |false=>rfl
    |_=>rfl
   rw[e1] at this;exact this
  ·have:=Eh e v hv he
   have e1:vU (oZ ([]:List (Nat×OB))) e=e:=by
    cases e with
    |ep ds cells=>simp only[vU];cases hd:qy ds (oZ ([]:List (Nat×OB))) with
     |true=>obtain⟨x,_,hx⟩:=AU hd;cases hx
     |false=>rfl
    |er p path i f=>cases path<;>rfl
    |_=>rfl
   rw[e1] at this;exact this
 |cons a r=>exact h.AR (f:=zz (oZ (a::r))) (g:=vU (oZ (a::r))) (k:=iy (a::r)) rfl rfl hce Eh Ej obj (hsep _ (eR _)) hf
end Go.T
namespace Go.T
variable {F : Nat → Prop} {A : Arg} {w0 w w' : World} {φ φ' : Fp} {st st' cG lR : TS} {tm AK : Array Value} {C : jC}
variable {R : Type} {cf : Cf} {lp : Lp} {Q : R → Prop}
theorem QE {ob:List (Nat×OB)} {e:CE} {v:Value} (h:cq ob w φ e v) (hg:e≠ .gone) (hb: ∀o b,aa o ob=some b→kz w φ o b):v.oneCell'=true:=by
 cases e with
 |sc x=>obtain⟨rfl,h⟩:=h;cases v<;>first|rfl|cases h
 |nil z=>obtain⟨rfl,_⟩:=h;rfl
 |ref o cut=>
  obtain⟨b,h1,h2⟩:=h;have:=kz.cut (hb o b h1) h2
  cases this;rfl
 |snap ds l z rows=>have:=h.2.1;cases this;rfl
 |gone=>exact absurd rfl hg
theorem nT {Rd S:Nat→Prop} {m:Mode} {c:TC} {v:Value} (h:ai w Rd m S c v):v.oneCell'=true:=by
 cases h with
 |any _ _ _ h=>exact h.1
 |sc _ _ _ h=>cases v<;>first|rfl|cases h
 |sub=>rfl
theorem jh (b:Nat): ∀(vs:List Value) (o:Nat) (w:World),(w.setCells b o vs).os=w.os∧(w.setCells b o vs).tape=w.tape∧(w.setCells b o vs).output=w.output∧(w.setCells b o vs).heap.size=w.heap.size
 |[],_,_=>⟨rfl,rfl,rfl,rfl⟩
 |v::r,o,w=>by
  obtain⟨h1,h2,h3,h4⟩:=jh b r (o+1) (w.setCell ⟨b,o,none⟩ v);refine⟨h1,h2,h3,?_⟩;rw[World.setCells,h4];simp[World.setCell]
theorem dV (b o:Nat) (vs:List Value) (w:World) {k:Nat} (hk:k<w.heap.size) (hne:k≠b):(w.setCells b o vs).heap[k]?=w.heap[k]?:=World.heap_setCells_other w b o vs hk hne
theorem BO.setCells {b o:Nat} {vs:List Value} (h:BO F w0 w) (hb:w0.heap.size≤b∨F b):BO F w0 (w.setCells b o vs):=by
 obtain⟨h1,h2,h3,h4⟩:=jh b vs o w;refine⟨h1.trans h.os,h2.trans h.tape,h3.trans h.output,by rw[h4];exact h.size,fun k hk hF=> ?_⟩;rw[dV b o vs w (gu hk h.size) (fun e=>by subst e;rcases hb with hb|hb;omega;exact hF hb)];exact h.block k hk hF
def c6 (M:Mode):List TC→List Value→List It
 |c::cs,v::vs=>(M,c,v)::c6 M cs vs
 |_,_=>[]
theorem kf {M:Mode}: ∀{cs:List TC} {vs:List Value} {i:Nat} {it:It},(c6 M cs vs)[i]?=some it→ ∃c v,cs[i]?=some c∧vs[i]?=some v∧it=(M,c,v)
 |[],_,_,_,h=>by simp[c6] at h
 |_::_,[],_,_,h=>by simp[c6] at h
 |c::cs,v::vs,0,it,h=>by simp only[c6,cZ,aU] at h;exact⟨c,v,rfl,rfl,h.symm⟩
 |c::cs,v::vs,i+1,it,h=>by
  simp only[c6,oV] at h;obtain⟨c',v',h1,h2,h3⟩:=kf h;exact⟨c',v',by simpa using h1,by simpa using h2,h3⟩
theorem kO {M:Mode}: ∀{cs:List TC} {vs:List Value} {i:Nat} {c:TC} {v:Value},cs[i]?=some c→vs[i]?=some v→(c6 M cs vs)[i]?=some (M,c,v)
 |[],_,_,_,_,h,_=>by simp at h
 |_::_,[],_,_,_,_,h=>by simp at h
 |c0::cs,v0::vs,0,c,v,h1,h2=>by
  simp only[cZ,aU] at h1 h2;subst h1 h2
  rfl
 |c0::cs,v0::vs,i+1,c,v,h1,h2=>by
  simp only[c6,oV] at h1 h2 ⊢;exact kO h1 h2
theorem fR {M:Mode}: ∀{cs:List TC} {vs:List Value},cs.length=vs.length→(c6 M cs vs).length=cs.length
 |[],[],_=>rfl
 |[],_::_,h=>by cases h
 |_::_,[],h=>by cases h
 |c::cs,v::vs,h=>by simp only[c6,ez];rw[fR (cs:=cs) (vs:=vs) (by simpa using h)]
theorem uJ {M:Mode}: ∀{cs cs':List TC} {vs vs':List Value},cs.length=vs.length→c6 M (cs++cs') (vs++vs')=c6 M cs vs++c6 M cs' vs'
 |[],_,[],_,_=>rfl
 |[],_,_::_,_,h=>by cases h
 |_::_,_,[],_,h=>by cases h
 |c::cs,cs',v::vs,vs',h=>by
  simp only[wV,c6];rw[uJ (cs:=cs) (vs:=vs) (by simpa using h)]
structure jD (w:World) (φ:Fp) (st st':TS) (cc:List It) (X:Nat→Nat→Prop) (Z:Nat→Prop):Prop where
 ok: ∀(i:Nat) (it:It),cc[i]?=some it→ai w (fun k=>φ.I k∨Z k) it.1 (X i) it.2.1 it.2.2
 src: ∀(i k:Nat),i<cc.length→X i k→ ¬Z k∧ ∃o,aA st.ob o∧ ¬aA st'.ob o∧φ.S o k
 srcZ: ∀k,Z k→ ∃o,aA st.ob o∧ ¬aA st'.ob o∧φ.S o k
 apart: ∀(i j k:Nat),i<cc.length→j<cc.length→X i k→X j k→i=j
 sub:dg st' st
theorem jD.nil (st:TS):jD w φ st st [] (fun _ _=>False) (fun _=>False):=⟨fun i it h=>by simp at h,fun i k h=>by simp at h,fun k h=>h.elim,fun i j k h=>by simp at h,dg.refl _⟩
theorem jg.parts (h:aH F A w0 φ st tm w) {cc:List It} {os:List Nat} (t:jg w φ st st' cc os): ∃X Z,jD w φ st st' cc X Z:=by
 obtain⟨I,X,hb,hn⟩:=t.Sq h
 have dom: ∀i it o,cc[i]?=some it→os[i]?=some o→o≠0→aA st.ob o∧ ¬aA st'.ob o:=fun i it o hi ho h0=>by
  rcases t.at' i it o hi ho with⟨e,_⟩|⟨hd,hd',_⟩
  ·exact absurd e h0
  ·exact⟨hd,hd'⟩
 have own_S: ∀{m v S k},GN m v S k→S k:=fun {m v S k} hk=>by
  cases m with
  |snap=>exact hk.elim
  |top=>exact hk.1
  |deep=>exact hk
 refine⟨fun i k=> ∃(it:It) (o:Nat),cc[i]?=some it∧os[i]?=some o∧o≠0∧GN it.1 it.2.2 (φ.S o) k,
  fun k=> ∃(i:Nat) (it:It) (o:Nat),cc[i]?=some it∧os[i]?=some o∧o≠0∧φ.S o k∧ ¬GN it.1 it.2.2 (φ.S o) k,⟨fun i it hi=> ?_,fun i k hi hk=> ?_,fun k hk=> ?_,fun i j k hi hj hk hk'=> ?_,t.sub⟩⟩
 ·obtain⟨o,ho⟩: ∃o,os[i]?=some o:=⟨_,aZ (by rw[t.len];exact(List.getElem?_eq_some_iff.1 hi).1)⟩
  rcases t.at' i it o hi ho with⟨e,hc⟩|⟨hd,hn,m',hm,Y9,hc⟩
  ·exact(hc.mo fun k hk=> .inl hk).mono fun k hk=>hk.elim
  ·have h0:=h.sep.nz o hd
   exact(hc.out hm Y9 (fun k hk=> .inl hk) fun k hk hno=> .inr ⟨i,it,o,hi,ho,h0,hk,hno⟩).mono fun k hk=>⟨it,o,hi,ho,h0,hk⟩
 ·obtain⟨it,o,h1,h2,h0,hk⟩:=hk
  obtain⟨hd,hd'⟩:=dom i it o h1 h2 h0;refine⟨?_,o,hd,hd',own_S hk⟩;rintro⟨i',it',o',g1,g2,g0,g3,g4⟩;have:=h.sep.apart o o' k hd (dom i' it' o' g1 g2 g0).1 (own_S hk) g3;subst this;have:=t.inj i i' o h2 g2 h0;subst this;rw[h1] at g1
  cases g1
  exact g4 hk
 ·obtain⟨i,it,o,h1,h2,h0,hk,_⟩:=hk
  obtain⟨hd,hd'⟩:=dom i it o h1 h2 h0;exact⟨o,hd,hd',hk⟩
 ·obtain⟨it,o,h1,h2,h0,hk⟩:=hk
  obtain⟨it',o',g1,g2,g0,hk'⟩:=hk';have:=h.sep.apart o o' k (dom i it o h1 h2 h0).1 (dom j it' o' g1 g2 g0).1 (own_S hk) (own_S hk');subst this;exact t.inj i j o h2 g2 h0
theorem jD.app (h:aH F A w0 φ st tm w) {a b:List It} {Xa Xb:Nat→Nat→Prop} {Za Zb:Nat→Prop} (p:jD w φ st cG a Xa Za) (q:jD w φ cG lR b Xb Zb):
 jD w φ st lR (a++b) (fun i k=>if i<a.length then Xa i k else Xb (i-a.length) k) (fun k=>Za k∨Zb k):=by
 have cross: ∀k,(∃o,aA st.ob o∧ ¬aA cG.ob o∧φ.S o k)→(∃o,aA cG.ob o∧ ¬aA lR.ob o∧φ.S o k)→False:=fun k ⟨o,a1,a2,a3⟩ ⟨o',b1,b2,b3⟩=>by
  have:=h.sep.apart o o' k a1 (p.sub.dom b1) a3 b3;subst this;exact a2 b1
 have upa: ∀{k},(∃o,aA st.ob o∧ ¬aA cG.ob o∧φ.S o k)→ ∃o,aA st.ob o∧ ¬aA lR.ob o∧φ.S o k:=fun⟨o,a1,a2,a3⟩=>⟨o,a1,fun hd=>a2 (q.sub.dom hd),a3⟩;have upb: ∀{k},(∃o,aA cG.ob o∧ ¬aA lR.ob o∧φ.S o k)→ ∃o,aA st.ob o∧ ¬aA lR.ob o∧φ.S o k:=fun⟨o,a1,a2,a3⟩=>⟨o,p.sub.dom a1,a2,a3⟩;refine⟨fun i it hi=> ?_,fun i k hi hk=> ?_,fun k hk=> ?_,fun i j k hi hj hk hk'=> ?_,q.sub.trans p.sub⟩
 ·by_cases hl:i<a.length
  ·rw[iR hl] at hi
   simp only[aP hl];exact(p.ok i it hi).mo fun k hk=>hk.imp id .inl
  ·rw[kr ax] at hi
   simp only[aF hl];exact(q.ok _ it hi).mo fun k hk=>hk.imp id .inr
 ·by_cases hl:i<a.length
  ·simp only[aP hl] at hk
   obtain⟨h1,h2⟩:=p.src i k hl hk;exact⟨fun hz=>hz.elim h1 fun hb=>cross k h2 (q.srcZ k hb),upa h2⟩
  ·simp only[aF hl] at hk
   obtain⟨h1,h2⟩:=q.src _ k (by simp at hi;omega) hk;exact⟨fun hz=>hz.elim (fun ha=>cross k (p.srcZ k ha) h2) h1,upb h2⟩
 ·exact hk.elim (fun h=>upa (p.srcZ k h)) fun h=>upb (q.srcZ k h)
 ·simp only[bX] at hi hj
  by_cases hl:i<a.length
  ·simp only[aP hl] at hk
   by_cases hl':j<a.length
   ·simp only[aP hl'] at hk';exact p.apart i j k hl hl' hk hk'
   ·simp only[aF hl'] at hk'
    exact(cross k (p.src i k hl hk).2 (q.src _ k ax hk').2).elim
  ·simp only[aF hl] at hk
   by_cases hl':j<a.length
   ·simp only[aP hl'] at hk'
    exact(cross k (p.src j k hl' hk').2 (q.src _ k ax hk).2).elim
   ·simp only[aF hl'] at hk'
    have:=q.apart _ _ k ax ax hk hk';omega
theorem zK {m9:TS} (M:Mode): ∀(cs:List CE) (st:TS) (vs:List Value) (ts:List TC) (st':TS) (d:Bool),aH F A w0 φ st tm w→dg st m9→vs.length=cs.length→(∀(j:Nat) (e:CE),cs[j]?=some e→ ∃v,vs[j]?=some v∧cq m9.ob w φ e v)→
 (M= .snap∨d=true∧M= .deep)→Gs cs st=some (ts,st',d)→aH F A w0 φ st' tm w∧ts.length=cs.length∧dg st' st∧ ∃os,jg w φ st st' (c6 M ts vs) os
 |[],st,vs,ts,st',d,h,hs,hl,hc,hM,ho=>by
  cases ho
  exact⟨h,rfl,dg.refl _,[],by cases vs<;>exact jg.nil _⟩
 |e::r,st,vs,ts,st',d,h,hs,hl,hc,hM,ho=>by
  simp only[Gs] at ho
  split at ho
  ·rename_i c cG d1 hab
   split at ho
   ·rename_i cs' lR d2 Ru
    cases ho
    cases vs with
    |nil=>cases hl
    |cons v vs=>
     obtain⟨v',Pm,hok⟩:=hc 0 e rfl;simp only[cZ,aU] at Pm;subst Pm;obtain⟨h1,Ei,ht⟩:=KQ h hs hok hab
     obtain⟨o,ht⟩:=ht M (by
      rcases hM with rfl|⟨hd,rfl⟩
      ·unfold N3;cases e<;>rfl
      ·simp only[c8] at hd
       have VF:=hd.1;subst VF
       cases e with
       |snap ds l z rows=>
        cases ds with
        |nil=>simp[mj] at hab
        |cons _ _=>simp[mj] at hab
       |gone=>simp[mj] at hab
       |_=>rfl)
     obtain⟨h2,AL,Zd,os,hts⟩:=zK M r cG vs cs' _ d2 h1 (Ei.trans hs) (by simpa using hl) (fun j e he=>by
      obtain⟨v',a1,a2⟩:=hc (j+1) e (by simpa using he)
      exact⟨v',by simpa using a1,a2⟩) (by
       rcases hM with hM|⟨hd,hM⟩
       ·exact .inl hM
       ·simp only[c8] at hd;exact .inr ⟨hd.2,hM⟩) Ru
     exact⟨h2,by simp[AL],Zd.trans Ei,o::os,(jg.one ht Ei).app h.sep.nz hts⟩
   ·cases ho
  ·cases ho
theorem rG {z:Nat}: ∀{rows:List (List TC)},(∀r∈rows,r.length=z)→ ∀{i f:Nat} {tc:TC},sW rows i f=some tc→rows.flatten[i*z+f]?=some tc∧f<z∧i<rows.length
 |[],_,i,f,tc,h=>by simp[sW] at h
 |r::rs,hw,0,f,tc,h=>by
  have hr:=hw r (.head _);simp only[sW,cZ,Option.bind_some] at h
  have hf:f<z:=by rw[←hr];exact(List.getElem?_eq_some_iff.1 h).1
  refine⟨?_,hf,by simp⟩;rw[rm,Nat.zero_mul,ic,iR ax];exact h
 |r::rs,hw,i+1,f,tc,h=>by
  have hr:=hw r (.head _)
  have h':sW rs i f=some tc:=by simpa [sW] using h
  obtain⟨h1,h2,h3⟩:=rG (fun r hr=>hw r (.tail _ hr)) h';refine⟨?_,h2,by simpa using h3⟩;rw[rm,kr (by rw[hr,nc];omega),hr,show(i+1)*z+f-z=i*z+f by rw[nc];omega];exact h1
theorem bL {z:Nat}: ∀{rows:List (List TC)},(∀r∈rows,r.length=z)→rows.flatten.length=rows.length*z
 |[],_=>by simp
 |r::rs,hw=>by
  rw[rm,bX,bL fun r hr=>hw r (.tail _ hr),hw r (.head _),ez,nc];omega
theorem jD.row (dp:Bool) {X:Nat→Nat→Prop} {Z:Nat→Prop} {z:Nat} {rows:List (List TC)} {vs:List Value} (p:jD w φ st st' (c6 (if dp then .deep else .snap) rows.flatten vs) X Z) (hz:0<z) (hw: ∀r∈rows,r.length=z)
 (hl:vs.length=rows.length*z) {ad:Addr} {c:Nat} (hc:rows.length≤c) (NR:c≤maxLen) (hs:ad.spot=none) (hnew: ∀i k,i<rows.length*z→X i k→k≠ad.block)
 (hmem: ∀k,(φ.I k∨Z k)→w'.heap[k]?=w.heap[k]?) (hmX: ∀i k,i<rows.length*z→X i k→w'.heap[k]?=w.heap[k]?)
 (hcell: ∀(j:Nat) (v:Value),vs[j]?=some v→w'.cell? (ad.add j)=some v) (hall: ∀j,j<c*z→(∃x,w'.cell? ⟨ad.block,ad.off+j,none⟩=some x)∧w'.frozen? ⟨ad.block,ad.off+j,none⟩=false) (Ip:1<z→ ∀i,w'.frozen? ⟨ad.block,i,none⟩=false):
 ai w' (fun k=>φ.I k∨Z k) (OB.m ⟨dp,z,rows⟩) (fun k=>k=ad.block∨ ∃i,i<rows.length*z∧X i k) (.sub z rows) (.slice (some ad) rows.length c):=by
 have hfl:=bL hw
 have hlen:(c6 (if dp then Mode.deep else .snap) rows.flatten vs).length=rows.length*z:=by rw[fR (by rw[hfl,hl]),hfl]
 have inj: ∀{i f i' f':Nat},f<z→f'<z→i*z+f=i'*z+f'→i=i'∧f=f':=fun {i f i' f'} h1 h2 e=>by
  have e1:(i*z+f)/z=i:=by rw[Nat.mul_comm,Nat.mul_add_div hz,Nat.div_eq_of_lt h1,oX]
  have e2:(i'*z+f')/z=i':=by rw[Nat.mul_comm,Nat.mul_add_div hz,Nat.div_eq_of_lt h2,oX]
  have:i=i':=by rw[←e1,e,e2]
  subst this;exact⟨rfl,by omega⟩
 refine .sub _ _ z rows (some ad) c (fun i f=>vs.getD (i*z+f) undef) (fun i f k=>f<z∧i<rows.length∧dp=true∧X (i*z+f) k) ⟨hc,NR,hz,hw,fun _=>⟨ad,rfl⟩,?_,?_,?_,fun _ Rt ad' e i=>(by cases e;exact Ip Rt i),?_⟩ ?_
 ·intro ad' e i f tc ht
  cases e
  obtain⟨h1,h2,h3⟩:=rG hw ht
  have hlt:i*z+f<vs.length:=by rw[hl,←hfl];exact(List.getElem?_eq_some_iff.1 h1).1
  rw[hcell _ _ (aZ hlt)];simp[List.getD,aZ hlt]
 ·intro hm
  exfalso
  revert hm
  unfold OB.m
  split<;>simp
 ·intro _
  refine⟨fun e=>(by cases e),fun ad' e=> ?_⟩
  cases e
  exact⟨.inl rfl,hs,hall⟩
 ·intro hm i f k hk
  obtain⟨h1,h2,h3,h4⟩:=hk;have hi:i*z+f<rows.length*z:=gu (Nat.add_lt_add_left h1 _) (by rw[←sL];exact jZ _ h2);refine⟨.inr ⟨_,hi,h4⟩,fun ad' e=>(by cases e;exact hnew _ k hi h4),fun i' f' hk'=> ?_⟩;obtain⟨g1,g2,g3,g4⟩:=hk';have hi':i'*z+f'<rows.length*z:=gu (Nat.add_lt_add_left g1 _) (by rw[←sL];exact jZ _ g2);exact inj g1 h1 (p.apart _ _ k (by rw[hlen];exact hi') (by rw[hlen];exact hi) g4 h4)
 ·intro i f tc ht
  obtain⟨h1,h2,h3⟩:=rG hw ht
  have hlt:i*z+f<vs.length:=by rw[hl,←hfl];exact(List.getElem?_eq_some_iff.1 h1).1
  have hv:vs[i*z+f]?=some (vs.getD (i*z+f) undef):=by simp[List.getD,aZ hlt]
  have:=p.ok _ _ (kO h1 hv);simp only at this
  cases dp with
  |true=>
   simp only[if_true] at this;refine(ai.move this (fun k hk=>⟨hk,hmem k hk⟩) fun _ k hk=>hmX _ k (by rw[←hl];exact hlt) hk).mono fun k hk=>⟨h2,h3,rfl,hk⟩
  |false=>
   simp only[yp,if_false] at this;exact(ai.move this (fun k hk=>⟨hk,hmem k hk⟩) fun hm=>absurd rfl hm).mU fun k hk=>hk
end Go.T
namespace Go.T
variable {F : Nat → Prop} {A : Arg} {w0 w w' : World} {φ φ' : Fp} {st st' cG lR : TS} {tm AK : Array Value} {C : jC}
variable {R : Type} {cf : Cf} {lp : Lp} {Q : R → Prop}
theorem aH.WV (h:aH F A w0 φ st tm w) (g:jE w w') {e:CE} {v:Value} (he:cq st.ob w φ e v):cq st.ob w' φ e v:=
 he.stay (fun k hk=>g.block k (h.sep.ro k hk).1) (fun d k hd hk=>g.block k (h.sep.lt h.frm.size hd hk)) fun o ho ad n c hv i v hc=>g.cell hc
theorem oF (w:World) (arr:Array Value) (t:TypeId) (j:Nat):(w.alloc (.cells arr t)).cell? ⟨w.heap.size,j,none⟩=arr[j]?:=by
 unfold World.cell?;simp only[heap_alloc_new]
 rfl
theorem iA (w:World) (arr:Array Value) (t:TypeId) (j:Nat):(w.alloc (.cells arr t)).frozen? ⟨w.heap.size,j,none⟩=false:=by
 unfold World.frozen?;simp only[heap_alloc_new];simp
theorem add_lit (b o j:Nat):(⟨b,o,none⟩:Addr).add j=⟨b,o+j,none⟩:=qL j rfl
theorem Ss (h:aH F A w0 φ st tm w) {d:Nat} (hw:u0 d=true) {cs:List CE} {arr:Array Value} {t:TypeId} (hc:Yt st.ob w φ cs arr):
 aH F A w0 (φ.box d ⟨w.heap.size,0,none⟩) (C6 d cs st) tm (w.alloc (.cells arr t)):=by
 have g:=jE.alloc w (.cells arr t);refine(h.BP g).C6 hw rfl eO (fun o ho hS=> ?_) (fun hI=> ?_) (.inl h.frm.size) (fun b' cs' hb' _ e=> ?_) (fun j e he=> ?_) fun j hj=> ?_
 ·have:=(h.sep.fresh o _ ho hS).1;simp at this
 ·have:=(h.sep.ro _ hI).1;simp at this
 ·have:=(h.sep.spot b' cs' hb').2.1;rw[e] at this;simp at this
 ·obtain⟨x,h1,h2,h3⟩:=hc.2 j e he
  exact⟨x,by rw[add_lit,oF,ic];exact h1,h2,h.WV g h3⟩
 ·rw[add_lit];exact iA _ _ _ _
theorem St (h0:aH F A w0 φ st tm w) (h:aH F A w0 φ st' tm w) {dp:Bool} {z:Nat} {rows:List (List TC)} {vs:List Value} {X:Nat→Nat→Prop} {Z G:Nat→Prop} {d:Nat}
 (p:jD w φ st st' (c6 (if dp then .deep else .snap) rows.flatten vs) X Z) (hz:0<z) (sw: ∀r∈rows,r.length=z) (hl:vs.length=rows.length*z) {ad:Addr} {c:Nat} (hc:rows.length≤c) (NR:c≤maxLen) (hs:ad.spot=none)
 (hf:BO F w0 w') (hsz:w.heap.size≤w'.heap.size) (hw: ∀k,k<w.heap.size→ ¬G k→w'.heap[k]?=w.heap[k]?) (hG: ∀k,G k→ ∃o,aA st.ob o∧ ¬aA st'.ob o∧φ.S o k)
 (hnZ: ∀k,Z k→ ¬G k∧k≠ad.block) (Ze: ∀i k,i<rows.length*z→X i k→ ¬G k∧k≠ad.block) (hb:(w.heap.size≤ad.block∧ad.block<w'.heap.size)∨ ∃o,aA st.ob o∧ ¬aA st'.ob o∧φ.S o ad.block)
 (hcell: ∀(j:Nat) (v:Value),vs[j]?=some v→w'.cell? (ad.add j)=some v) (hall: ∀j,j<c*z→(∃x,w'.cell? ⟨ad.block,ad.off+j,none⟩=some x)∧w'.frozen? ⟨ad.block,ad.off+j,none⟩=false) (Ip:1<z→ ∀i,w'.frozen? ⟨ad.block,i,none⟩=false) (hd:d<tm.size):
 Rel F A w0 (sE d ⟨dp,z,rows⟩ st') (tm.setIfInBounds d (.slice (some ad) rows.length c)) w':=by
 have kI: ∀{k},(∃o,aA st.ob o∧ ¬aA st'.ob o∧φ.S o k)→ ¬φ.I k:=fun⟨o,a1,a2,a3⟩=>h0.sep.read o _ a1 a3
 have kS: ∀{k},(∃o,aA st.ob o∧ ¬aA st'.ob o∧φ.S o k)→ ∀o',aA st'.ob o'→ ¬φ.S o' k:=fun⟨o,a1,a2,a3⟩ o' ho' hk=>by
  have:=h0.sep.apart o o' _ a1 (p.sub.dom ho') a3 hk;subst this;exact a2 ho'
 have kF: ∀{k},(∃o,aA st.ob o∧ ¬aA st'.ob o∧φ.S o k)→k<w.heap.size∧(w0.heap.size≤k∨F k):=fun⟨o,a1,a2,a3⟩=>h0.sep.fresh o _ a1 a3
 have kB: ∀{k},(∃o,aA st.ob o∧ ¬aA st'.ob o∧φ.S o k)→ ∀b cs,aa b st'.bx=some cs→(φ.β b).block≠k:=fun {k} ⟨o,a1,a2,a3⟩ b cs hb e=>by
  obtain⟨cs0,c0,_⟩:=p.sub.bx b cs hb
  cases Aj:u0 b with
  |true=>exact(h0.sep.box b cs0 c0 Aj).2.1 o a1 (by rw[e];exact a3)
  |false=>
   have h1:=h0.sep.kk _ ((h0.sep.spot b cs0 c0).2.2 Aj);rw[e] at h1;rcases (h0.sep.fresh o k a1 a3).2 with h3|h3
   ·omega
   ·exact h1.2 h3
 have h1:=h.wrote (w':=w') [] (fun _ _=>False) Z G hf hsz hw (fun k hk=>(kF (hG k hk)).2) (fun k hk=>kI (hG k hk)) (fun k o hk ho _=>kS (hG k hk) o ho) (fun b cs hb hk=>kB (hG _ hk) b cs hb rfl)
  (fun o b' hb'=>by simp[aa] at hb')
  (fun k hk=>⟨gu (kF (p.srcZ k hk)).1 hsz,(kF (p.srcZ k hk)).2.elim .inl fun hF=> .inr (.inl hF),fun o ho _=>kS (p.srcZ k hk) o ho,fun b cs hb _=>kB (p.srcZ k hk) b cs hb⟩)
 have hlen:(c6 (if dp then Mode.deep else .snap) rows.flatten vs).length=rows.length*z:=by rw[fR (by rw[bL sw,hl]),bL sw]
 have hrow:=p.row (w':=w') dp hz sw hl hc NR hs (fun i k hi hk=>(Ze i k hi hk).2)
  (fun k hk=>by
    rcases hk with hk|hk
    ·exact hw k (h0.sep.ro k hk).1 fun hg=>kI (hG k hg) hk
    ·exact hw k (kF (p.srcZ k hk)).1 (hnZ k hk).1)
  (fun i k hi hk=>hw k (kF (p.src i k (by rw[hlen];exact hi) hk).2).1 (Ze i k hi hk).1) hcell hall Ip
 have hbI: ¬φ.I ad.block:=fun hI=>by
  rcases hb with⟨hb,_⟩|hb
  ·have:=(h0.sep.ro _ hI).1;omega
  ·exact kI hb hI
 have h2:=h1.yw (o:=oR d 0 0) (b:=⟨dp,z,rows⟩) (by unfold oR;omega) hrow (fun k hk=>by
  rcases hk with rfl|⟨i,hi,hk⟩
  ·rcases hb with⟨b1,b2⟩|hb
   ·exact⟨b2,.inl (pY h0.frm.size b1)⟩
   ·exact⟨gu (kF hb).1 hsz,(kF hb).2⟩
  ·have:=kF (p.src i k (by rw[hlen];exact hi) hk).2
   exact⟨gu this.1 hsz,this.2⟩)
  (fun k hk hI=>by
    rcases hk with rfl|⟨i,hi,hk⟩
    ·rcases hI with hI|hI
     ·exact hbI hI
     ·exact(hnZ _ hI).2 rfl
    ·have hsr:=p.src i k (by rw[hlen];exact hi) hk
     rcases hI with hI|hI
     ·exact kI hsr.2 hI
     ·exact hsr.1 hI)
  (fun k o hk _ ho hS=>by
    have hS:φ.S o k:=hS;have ho:aA st'.ob o:=ho;rcases hk with rfl|⟨i,hi,hk⟩
    ·rcases hb with⟨b1,_⟩|hb
     ·have:=(h.sep.fresh o _ ho hS).1;omega
     ·exact kS hb o ho hS
    ·exact kS (p.src i k (by rw[hlen];exact hi) hk).2 o ho hS)
  (fun b cs hb' Aj hk=>by
    have hb':aa b st'.bx=some cs:=hb';rcases hk with e|⟨i,hi,hk⟩
    ·rcases hb with⟨b1,_⟩|hb
     ·have:=(h.sep.spot b cs hb').2.1
      have e:(φ.β b).block=ad.block:=e;omega
     ·exact kB hb b cs hb' e
    ·exact kB (p.src i _ (by rw[hlen];exact hi) hk).2 b cs hb' rfl)
 have h3:=h2.IB (d:=d) (e:=one (.ref (oR d 0 0) none)) (v:= .slice (some ad) rows.length c) hd (KF rfl ⟨⟨dp,z,rows⟩,by
  show aa _ (kX _ _ _)=_
  exact jw,by simp[Fp.add]⟩)
 exact⟨_,h3⟩
theorem QF (h:aH F A w0 φ st tm w) {dp:Bool} {z d:Nat} (hz:0<z) (hd:d<tm.size):Rel F A w0 (sE d ⟨dp,z,[]⟩ st) (tm.setIfInBounds d (.slice none 0 0)) w:=by
 have h2:=h.yw (o:=oR d 0 0) (b:=⟨dp,z,[]⟩) (X:=C2) (v:= .slice none 0 0) (by unfold oR;omega) (tf hz) (fun k hk=>hk.elim) (fun k hk=>hk.elim) (fun k o hk=>hk.elim) (fun b cs _ _ hk=>hk)
 exact⟨_,h2.IB (d:=d) (e:=one (.ref (oR d 0 0) none)) (v:= .slice none 0 0) hd (KF rfl ⟨⟨dp,z,[]⟩,by
  show aa _ (kX _ _ _)=_
  exact jw,by simp[Fp.add]⟩)⟩
theorem ai.parts (h:aH F A w0 φ st tm w) {o:Nat} (ho:aA st.ob o) {m M:Mode} {z:Nat} {rows:List (List TC)} {v:Value} (hr:ai w φ.I m (φ.S o) (.sub z rows) v) (hm:m≠ .snap) (hM:M= .snap∨M= .deep∧m= .deep):
 ∃vals X Z,vals.length=rows.length*z∧jD w φ st (ku o st) (c6 M rows.flatten vals) X Z∧ ∀ad n c,v= .slice (some ad) n c→(∀(j:Nat) (x:Value),vals[j]?=some x→w.cell? (ad.add j)=some x)∧(∀i k,X i k→k≠ad.block)∧ ∀k,Z k→k≠ad.block:=by
 cases hr with
 |sub _ _ _ _ Ad c u T k hn=>
  have hz:=k.z0;have sw:=k.width;have hsub:=dg.kill st o;have hfl:=bL sw
  have at_of: ∀{p:Nat} {tc:TC},rows.flatten[p]?=some tc→sW rows (p/z) (p % z)=some tc:=fun {p tc} hp=>by
   have hlt:p<rows.length*z:=by rw[←hfl];exact(List.getElem?_eq_some_iff.1 hp).1
   have hi:p/z<rows.length:=Nat.div_lt_of_lt_mul (by rw[Nat.mul_comm];exact hlt);have hrl:=sw _ (u7 hi)
   have hf:p % z<(rows[p/z]).length:=by rw[hrl];exact Nat.mod_lt _ hz
   have h1:sW rows (p/z) (p % z)=some (rows[p/z][p % z]):=by simp[sW,aZ hi,aZ hf]
   have h2:=(rG sw h1).1;rw[BD p z] at h2;rw[h1,←h2,hp]
  have mS:aA st.ob o∧ ¬aA (ku o st).ob o:=⟨ho,fun hd=>(ig.1 hd).1 rfl⟩
  let vals:List Value:=(List.range (rows.length*z)).map fun p=>u (p/z) (p % z)
  have hvl:vals.length=rows.length*z:=by simp[vals]
  have hval: ∀{p:Nat} {x:Value},vals[p]?=some x→p<rows.length*z∧x=u (p/z) (p % z):=fun {p x} hp=>by
   have hlt:p<rows.length*z:=by rw[←hvl];exact(List.getElem?_eq_some_iff.1 hp).1
   refine⟨hlt,?_⟩;simp[vals,hlt] at hp;exact hp.symm
  have hcl:(c6 M rows.flatten vals).length=rows.length*z:=by rw[fR (by rw[hfl,hvl]),hfl]
  have hmem: ∀ad n c',Value.slice Ad rows.length c= .slice (some ad) n c'→ ∀(j:Nat) (x:Value),vals[j]?=some x→w.cell? (ad.add j)=some x:=fun ad n c' e j x hx=>by
   cases e
   obtain⟨hlt,rfl⟩:=hval hx;obtain⟨tc,Rv⟩: ∃tc,rows.flatten[j]?=some tc:=⟨_,aZ (by rw[hfl];exact hlt)⟩;have:=k.cell ad rfl _ _ tc (at_of Rv);rw[BD j z] at this;exact this
  by_cases Km:M= .deep
  ·subst Km
   have LQ:m= .deep:=by
    rcases hM with e|⟨_,e⟩
    ·cases e
    ·exact e
   subst LQ;refine⟨vals,fun p b=>p<rows.length*z∧T (p/z) (p % z) b,fun _=>False,hvl,⟨fun i it hi=> ?_,fun i b hi hb=> ?_,fun b hb=>hb.elim,fun i j b hi hj hb hb'=> ?_,hsub⟩,fun ad n c' e=>⟨hmem ad n c' e,fun i b hb=> ?_,fun b hb=>hb.elim⟩⟩
   ·obtain⟨tc,x,h1,h2,rfl⟩:=kf hi
    obtain⟨hlt,rfl⟩:=hval h2;exact((hn _ _ tc (at_of h1)).mo fun b hb=> .inl hb).mono fun b hb=>⟨hlt,hb⟩
   ·exact⟨id,o,mS.1,mS.2,(k.lW rfl _ _ b hb.2).1⟩
   ·obtain⟨e1,e2⟩:=(k.lW rfl _ _ b hb.2).2.2 _ _ hb'.2
    rw[←BD i z,←BD j z,e1,e2]
   ·cases e
    exact(k.lW rfl _ _ b hb.2).2.1 ad rfl
  ·have hMs:M= .snap:=hM.elim id fun⟨e,_⟩=>absurd e Km
   subst hMs;refine⟨vals,fun _ _=>False,fun b=>m= .deep∧ ∃i f,T i f b,hvl,⟨fun i it hi=> ?_,fun i b hi hb=>hb.elim,fun b hb=> ?_,fun i j b hi hj hb=>hb.elim,hsub⟩,fun ad n c' e=>⟨hmem ad n c' e,fun i b hb=>hb.elim,fun b hb=> ?_⟩⟩
   ·obtain⟨tc,x,h1,h2,rfl⟩:=kf hi
    obtain⟨hlt,rfl⟩:=hval h2;exact(hn _ _ tc (at_of h1)).freeze (fun b hb=> .inl hb) fun hx b hb=> .inr ⟨qJ hx,_,_,hb⟩
   ·obtain⟨LQ,i,f,hb⟩:=hb
    exact⟨o,mS.1,mS.2,(k.lW LQ _ _ b hb).1⟩
   ·cases e
    obtain⟨LQ,i,f,hb⟩:=hb;exact(k.lW LQ _ _ b hb).2.1 ad rfl
end Go.T
namespace Go.T
variable {F : Nat → Prop} {A : Arg} {w0 w w' : World} {φ φ' : Fp} {st st' cG lR : TS} {tm AK : Array Value} {C : jC}
variable {R : Type} {cf : Cf} {lp : Lp} {Q : R → Prop}
def Wr (st:TS) (φ:Fp) (l:List Nat) (k:Nat):Prop:=(∃b cs,2*b+1∈l∧aa b st.bx=some cs∧u0 b=true∧k=(φ.β b).block)∨ ∃o,2*o∈l∧aA st.ob o∧φ.S o k
def NP (C:jC) (F:Nat→Prop) (A:Arg) (w0:World) (φ:Fp) (st:TS) (o:Oper) (a:Act) (w:World) (K:TS→Ev R) (cf:Cf) (lp:Lp) (Q:R→Prop):Prop:=
 ∃nx v w' st',(execOp a.eval o).run C.P w= .ok nx w'∧(nx= .value v∨nx= .skip∧v=undef)∧Rel F A w0 st' (a.put o.dst v).tmps w'∧(K st').holds cf lp Q∧w.heap.size≤w'.heap.size∧
  ∀k,k<w.heap.size→ ¬Wr st φ (writes C st o) k→w'.heap[k]?=w.heap[k]?
theorem vm {i:iT} (h:uH i=true):known i=true∧ ∀e,i.ti≠ .ptr e:=by
 unfold uH at h;unfold known
 split at h<;>first|cases h|skip
 rename_i h1 h2;exact⟨by split<;>first|rfl|(rename_i e;exact absurd e h1),fun e he=>h2 e he⟩
theorem PM (hT:ef C) {a:Act} (h:aH F A w0 φ st a.tmps w) {o:Oper} {K:TS→Ev R} (hd: ∀d,o.dst=some d→d<a.tmps.size) (hk:(Ju C st o K).holds cf lp Q):NP C F A w0 φ st o a w K cf lp Q:=by
 unfold Ju at hk
 cases iW:o.dst with
 |none=>rw[iW] at hk;exact hk.elim
 |some d=>
  rw[iW] at hk;obtain⟨v,e,h1,h2,h3,_⟩:=Mx hT h hk;exact⟨_,v,w,_,h1,.inl rfl,⟨φ,by rw[iW];exact h.IB (hd d iW) h2⟩,h3,bI _,fun _ _ _=>rfl⟩
theorem Su (hT:ef C) {a:Act} (h:aH F A w0 φ st a.tmps w) {o:Oper} {t:TypeId} (ho:o.op= .alloc t) {K:TS→Ev R} (hd: ∀d,o.dst=some d→d<a.tmps.size) (hk:(mm C st o K).holds cf lp Q):NP C F A w0 φ st o a w K cf lp Q:=by
 unfold mm at hk;rw[ho] at hk;simp only at hk
 split at hk
 ·rename_i d iW hp
  split at hk
  ·rename_i hw
   obtain⟨hkn,hnp⟩:=vm hp;obtain⟨i,z,h1,h2,h3,h4,h5⟩:=KM (w:=w) (φ:=φ) hT hkn hnp (ob:=st.ob)
   have hn:=(Ss h hw (t:=t) h4).IB (d:=d) (e:= .bp d 0) (v:= .pointer (some ⟨w.heap.size,0,none⟩)) (hd d iW) (by
    show _=Value.pointer (some (((φ.box d ⟨w.heap.size,0,none⟩).β d).add 0))
    rw[rF,Addr.add_zero'])
   refine⟨.value (.pointer (some ⟨w.heap.size,0,none⟩)),_,_,_,?_,.inl rfl,⟨_,by rw[iW];exact hn⟩,hk,by simp,fun k hk _=>(jE.alloc w _).block k hk⟩;unfold execOp;rw[ho];simp[Instr.alloc,zeroValue,typeInfo,h1,h3,newVar,newRow]
  ·exact hk.elim
 ·exact hk.elim
theorem WW (hT:ef C) {a:Act} (h:aH F A w0 φ st a.tmps w) {o:Oper} {t:TypeId} {x:Operand} (ho:o.op= .box t x) {K:TS→Ev R} (hd: ∀d,o.dst=some d→d<a.tmps.size) (hk:(mm C st o K).holds cf lp Q):NP C F A w0 φ st o a w K cf lp Q:=by
 unfold mm at hk;rw[ho] at hk;simp only at hk
 split at hk
 ·rename_i d cs iW hc
  split at hk
  ·rename_i hw
   have hcs:=pg (de hT h t x) hc
   have hn:=(Ss h hw (t:=t) (arr:=(a.eval x).cells) hcs).IB (d:=d) (e:= .bp d 0) (v:= .pointer (some ⟨w.heap.size,0,none⟩)) (hd d iW) (by
    show _=Value.pointer (some (((φ.box d ⟨w.heap.size,0,none⟩).β d).add 0))
    rw[rF,Addr.add_zero'])
   refine⟨.value (.pointer (some ⟨w.heap.size,0,none⟩)),_,_,_,?_,.inl rfl,⟨_,by rw[iW];exact hn⟩,hk,by simp,fun k hk _=>(jE.alloc w _).block k hk⟩;unfold execOp;rw[ho];simp[Instr.box,newVar,newRow]
  ·exact hk.elim
 ·exact hk.elim
theorem B2 {P:Program} {tt:TypeId→iT} {t:TypeId} (h:zG P tt t) {ad:Addr} (hs:ad.spot=none) {v:Value} (hv:v.cells.size=(tt t).size) (h1: ∀x∈v.cells.toList,x.oneCell'=true)
 (hc: ∀j,j<v.cells.size→(w.cell? (ad.add j)).isSome=true∧w.frozen? (ad.add j)=false):(Instr.storeAt t (.pointer (some ad)) v).run P w= .ok () (w.setCells ad.block ad.off v.cells.toList):=by
 obtain⟨i,z,g1,g2,_⟩:=h.info;have uY: ∀j,ad.add j=⟨ad.block,ad.off+j,none⟩:=fun j=>qL j hs;have hst:=run_storeCells_cells (P:=P) ad.block ad.off v.cells.toList 0 w (fun j hj=>by rw[oX,←uY];exact(hc j (by simpa using hj)).1) (fun j hj=>by rw[oX,←uY];exact(hc j (by simpa using hj)).2) h1
 have had:(⟨ad.block,ad.off,none⟩:Addr)=ad:=by cases ad;simp_all
 rw[had,oX] at hst;simp only[Instr.storeAt,Instr.sureAddr,storeVar,sizeOf,typeInfo,Sem.run_bind,Sem.run_pure,Result.andThen];simp[g1,g2,hv,hst]
theorem At: ∀{cs:List CE},F9 cs=false→ ∀e∈cs,e≠ .gone
 |[],_,e,he=>by cases he
 |c::r,h,e,he=>by
  cases c with
  |gone=>cases h
  |_=>
   rcases cw.1 he with rfl|he
   ·simp
   ·exact At (cs:=r) h e he
theorem zI.one {cs:List CE} {v:Value} (h:zI st.ob w φ cs v) (hb: ∀o b,aa o st.ob=some b→kz w φ o b) (hg:F9 cs=false): ∀x∈v.cells.toList,x.oneCell'=true:=by
 intro x hx;obtain⟨j,hj,rfl⟩:=List.mem_iff_getElem.1 hx
 have hj':j<cs.length:=by rw[←h.1];simpa using hj
 obtain⟨y,h1,_,h3⟩:=h.2 j _ (aZ hj')
 have hjv:j<v.cells.size:=by simpa using hj
 rw[qw hjv] at h1;simp only[aU] at h1;rw[Array.getElem_toList,h1];exact QE h3 (At hg _ (u7 hj')) hb
theorem PN {α:Type} {old cs:List α} {off j:Nat} {e:α} (h:(old.take off++cs++old.drop (off+cs.length))[j]?=some e) (hle:off+cs.length≤old.length):
 (off≤j∧j<off+cs.length∧cs[j-off]?=some e)∨((j<off∨off+cs.length≤j)∧old[j]?=some e):=by
 have hto:(old.take off).length=off:=by rw[dj];omega
 rw[oU] at h
 by_cases h1:j<off
 ·rw[iR ax,Bz,aP h1] at h
  exact .inr ⟨.inl h1,h⟩
 ·rw[kr ax,hto] at h
  by_cases h2:j<off+cs.length
  ·rw[iR ax] at h
   exact .inl ⟨by omega,h2,h⟩
  ·rw[kr ax,lY,show off+cs.length+(j-off-cs.length)=j by omega] at h
   exact .inr ⟨.inr ax,h⟩
theorem AV {α:Type} {old cs:List α} {off:Nat} (hle:off+cs.length≤old.length):(old.take off++cs++old.drop (off+cs.length)).length=old.length:=by
 simp only[bX,dj,gf];omega
theorem MD {a:Act} (hT:ef C) (h:aH F A w0 φ st a.tmps w) {o:Oper} {t:TypeId} {p x:Operand} (ho:o.op= .store t p x) (iW:o.dst=none) {cs:List CE} (hkn:known (C.tt t)=true) (hcs:zI st.ob w φ cs (a.eval x))
 (hsz:cs.length=(C.tt t).size) {b off:Nat} (hp:oy C st 0 p= .bp b off) {st':TS} (hs:Gv b off cs st=some st') {K:TS→Ev R} (hk:(K st').holds cf lp Q):NP C F A w0 φ st o a w K cf lp Q:=by
 unfold Gv at hs
 split at hs
 ·rename_i old hb
  split at hs
  ·rename_i hwg hle
   cases hs
   have hle:=ou hle;simp only[c8,u5] at hwg;obtain⟨hw,hg⟩:=hwg;have X8:=de hT h 0 p;rw[hp] at X8;have X8:a.eval p= .pointer (some ((φ.β b).add off)):=X8;have qE:=(h.sep.spot b old hb).1 hw;have uY: ∀j,(φ.β b).add j=⟨(φ.β b).block,(φ.β b).off+j,none⟩:=fun j=>qL j qE;obtain⟨bx1,bx2,bx3,bx4⟩:=h.sep.box b old hb hw;have Rw:(a.eval x).cells.size=cs.length:=hcs.1
   have hrun:=B2 (w:=w) (hT t hkn) (ad:=(φ.β b).add off) (yF off qE) (v:=a.eval x) (by rw[Rw,hsz]) (hcs.one h.obj hg) (fun j hj=>by
    rw[Addr.add_add]
    have hj:off+j<old.length:=by rw[Rw] at hj;omega
    obtain⟨v,c1,_⟩:=h.box b old hb (off+j) _ (aZ hj)
    exact⟨by rw[c1];rfl,h.sep.soft b old (off+j) hb hw hj⟩)
   rw[bH,uY off] at hrun;simp only at hrun;have Bv: ∀k,k<w.heap.size→k≠(φ.β b).block→(w.setCells (φ.β b).block ((φ.β b).off+off) (a.eval x).cells.toList).heap[k]?=w.heap[k]?:=fun k hk hne=>dV _ _ _ _ hk hne;have hlt:(φ.β b).block<w.heap.size:=(h.sep.spot b old hb).2.1
   have hnew:=h.C5 (w':=w.setCells (φ.β b).block ((φ.β b).off+off) (a.eval x).cells.toList) hb hw (AV hle) (h.frm.setCells bx3) (by rw[(jh _ _ _ _).2.2.2];exact bI _) Bv
    (fun j hj=>by rw[World.frozen?_setCells];exact h.sep.soft b old j hb hw (by rw[AV hle] at hj;exact hj))
    (fun j e he=>by
      rcases PN he hle with⟨l1,l2,l3⟩|⟨l1,l2⟩
      ·obtain⟨y,y1,y2,y3⟩:=hcs.2 _ e l3
       have hin:=World.cell?_setCells_in (φ.β b).block (a.eval x).cells.toList ((φ.β b).off+off) w (fun j' hj'=>by
        have hj':j'<cs.length:=by rw[←Rw];simpa using hj'
        obtain⟨v,c1,_⟩:=h.box b old hb (off+j') _ (aZ ax);rw[uY] at c1
        rw[show(φ.β b).off+off+j'=(φ.β b).off+(off+j') by omega,c1];rfl) (j-off) (by rw[rj,Rw];omega)
       refine⟨y,?_,y2,y3⟩;rw[uY,show(φ.β b).off+j=(φ.β b).off+off+(j-off) by omega,hin]
       have hjv:j-off<(a.eval x).cells.size:=by rw[Rw];omega
       rw[qw hjv] at y1;rw[Array.getElem_toList,←y1]
      ·obtain⟨v,c1,c2,c3⟩:=h.box b old hb j e l2
       refine⟨v,?_,c2,c3⟩;rw[World.cell?_setCells_out]
       ·exact c1
       ·intro _ _
        rw[uY,rj,Rw];simp only
        omega)
   refine⟨.skip,undef,_,_,?_,.inr ⟨rfl,rfl⟩,⟨φ,by rw[iW];exact hnew⟩,hk,by rw[(jh _ _ _ _).2.2.2];exact bI _,fun k hk VG=> ?_⟩
   ·unfold execOp
    rw[ho];simp only[Sem.run_bind,X8,uY,hrun,Result.andThen]
    rfl
   ·refine Bv k hk fun e=>VG (.inl ⟨b,old,?_,hb,hw,e⟩)
    unfold writes;rw[ho];simp only[hp];exact .head _
  ·cases hs
 ·cases hs
end Go.T
namespace Go.T
variable {F : Nat → Prop} {A : Arg} {w0 w w' : World} {φ φ' : Fp} {st st' cG lR : TS} {tm AK : Array Value} {C : jC}
variable {R : Type} {cf : Cf} {lp : Lp} {Q : R → Prop}
def nG (rows:List (List TC)) (i f:Nat) (cs:List TC):List (List TC):=match rows[i]? with
 |some r=>rows.set i (r.take f++cs++r.drop (f+cs.length))
 |none=>rows
attribute [local semireducible] setRow in
theorem pF (rows:List (List TC)) (i:Int) (f:Nat) (cs:List TC):setRow rows i f cs=nG rows i.toNat f cs:=rfl
theorem iC (rows:List (List TC)) (i f:Nat) (cs:List TC):(nG rows i f cs).length=rows.length:=by
 unfold nG;split<;>simp
theorem wk {rows:List (List TC)} {i f:Nat} {cs row:List TC} (hrow:rows[i]?=some row) (hf:f+cs.length≤row.length) {i' f':Nat} {tc:TC} (h:sW (nG rows i f cs) i' f'=some tc):
 (i'=i∧f≤f'∧f'<f+cs.length∧cs[f'-f]?=some tc)∨((i'≠i∨f'<f∨f+cs.length≤f')∧sW rows i' f'=some tc):=by
 unfold nG at h;simp only[hrow] at h
 by_cases hi:i'=i
 ·subst hi
  have hlt:=(List.getElem?_eq_some_iff.1 hrow).1;simp only[sW,List.getElem?_set_self hlt,Option.bind_some] at h;rcases PN h hf with⟨a,b,c⟩|⟨a,b⟩
  ·exact .inl ⟨rfl,a,b,c⟩
  ·exact .inr ⟨.inr a,by simp[sW,hrow,b]⟩
 ·simp only[sW,List.getElem?_set_ne (Ne.symm hi)] at h
  exact .inr ⟨.inl hi,h⟩
theorem B3 {z:Nat} {rows:List (List TC)} (hw: ∀r∈rows,r.length=z) {i f:Nat} {cs row:List TC} (hrow:rows[i]?=some row) (hf:f+cs.length≤row.length): ∀r∈nG rows i f cs,r.length=z:=by
 intro r hr;unfold nG at hr;simp only[hrow] at hr;rcases List.mem_or_eq_of_mem_set hr with hr|rfl
 ·exact hw r hr
 ·rw[AV hf];exact hw row (fC hrow)
theorem ai.mono' {w:World} {Rd S S':Nat→Prop} {m:Mode} {t:TC} {v:Value} (h:ai w Rd m S t v) (hS:m≠ .snap→ ∀b,S b→S' b):ai w Rd m S' t v:=by
 by_cases hm:m= .snap
 ·subst hm;exact h.mU fun _ h=>h
 ·exact h.mono (hS hm)
theorem ai.QG {w w':World} {Rd S:Nat→Prop} {t:TC} {v:Value} (h:ai w Rd .deep S t v) (hS: ∀b,S b→w'.heap[b]?=w.heap[b]?):ai w' Rd .deep S t v:=
 (((h.As rfl:ai w C2 .deep S t v).move (R':=C2) (fun _ h=>h.elim) fun _=>hS).As rfl:ai w' Rd .deep S t v)
theorem ai.put {Rd S:Nat→Prop} {m:Mode} {z n c:Nat} {rows:List (List TC)} {ad:Addr} (h:ai w Rd m S (.sub z rows) (.slice (some ad) n c)) (hm:m≠ .snap) {i f:Nat} {ts row:List TC} (hrow:rows[i]?=some row) (hf:f+ts.length≤row.length)
 {vs:List Value} (hl:vs.length=ts.length) (h1: ∀v∈vs,v.oneCell'=true) {X:Nat→Nat→Prop} (hX: ∀(j:Nat) (t:TC) (v:Value),ts[j]?=some t→vs[j]?=some v→ai w Rd m.nx (X j) t v)
 (Z7:m= .deep→ ∀j k,j<ts.length→X j k→ ¬S k∧ ∀j',j'<ts.length→X j' k→j'=j) (Z8: ∀k,Rd k→k<w.heap.size∧k≠ad.block) (hS: ∀k,S k→k<w.heap.size) (hXs: ∀j k,j<ts.length→X j k→k<w.heap.size):
 ad.spot=none∧S ad.block∧(∀j,j<vs.length→(w.cell? (ad.add (i*z+f+j))).isSome=true∧w.frozen? (ad.add (i*z+f+j))=false)∧
 ai (w.setCells ad.block (ad.off+(i*z+f)) vs) Rd m (fun k=>S k∨(m= .deep∧ ∃j,j<ts.length∧X j k)) (.sub z (nG rows i f ts)) (.slice (some ad) n c):=by
 cases h with
 |sub _ _ _ _ _ _ u T k hn=>
  have hlt:=(List.getElem?_eq_some_iff.1 hrow).1;have hrl:=k.width row (fC hrow);obtain⟨Wj,qE,hall⟩:=(k.own hm).2 ad rfl;have uY: ∀j,ad.add j=⟨ad.block,ad.off+j,none⟩:=fun j=>qL j qE
  have inb: ∀j,j<ts.length→i*z+f+j<c*z:=fun j hj=>by
   have:i*z+f+j<(i+1)*z:=by rw[nc];omega
   exact gu this (jZ _ (by have:=k.len;omega))
  have there: ∀j,j<vs.length→(w.cell? (ad.add (i*z+f+j))).isSome=true∧w.frozen? (ad.add (i*z+f+j))=false:=fun j hj=>by
   obtain⟨⟨x,hx⟩,hfz⟩:=hall (i*z+f+j) (inb j ax);rw[uY];exact⟨by rw[hx];rfl,hfz⟩
  have Bv: ∀b,b<w.heap.size→b≠ad.block→(w.setCells ad.block (ad.off+(i*z+f)) vs).heap[b]?=w.heap[b]?:=fun b hb hne=>dV _ _ _ _ hb hne;have hXb: ∀j b,j<ts.length→m= .deep→X j b→b≠ad.block:=fun j b hj LQ hb e=>(Z7 LQ j b hj hb).1 (by rw[e];exact Wj)
  have hin: ∀j (hj:j<vs.length),(w.setCells ad.block (ad.off+(i*z+f)) vs).cell? (ad.add (i*z+f+j))=some vs[j]:=fun j hj=>by
   have:=World.cell?_setCells_in ad.block vs (ad.off+(i*z+f)) w (fun j' hj'=>by
    have:=(there j' hj').1;rw[uY] at this
    rw[show ad.off+(i*z+f)+j'=ad.off+(i*z+f+j') by omega];exact this) j hj
   rw[uY,show ad.off+(i*z+f+j)=ad.off+(i*z+f)+j by omega];exact this
  have hout: ∀p,(p<i*z+f∨i*z+f+vs.length≤p)→(w.setCells ad.block (ad.off+(i*z+f)) vs).cell? (ad.add p)=w.cell? (ad.add p):=fun p hp=>by
   refine World.cell?_setCells_out _ _ _ _ _ fun _ _=> ?_;rw[uY];simp only;omega
  refine⟨qE,Wj,there,?_⟩
  let inr:Nat→Nat→Prop:=fun i' f'=>i'=i∧f≤f'∧f'<f+ts.length
  have dec: ∀i' f',Decidable (inr i' f'):=fun _ _=>inferInstanceAs (Decidable (_∧_∧_))
  have key:=ai.sub (w:=w.setCells ad.block (ad.off+(i*z+f)) vs) (R:=Rd) m (fun b=>S b∨(m= .deep∧ ∃j,j<ts.length∧X j b)) z (nG rows i f ts) (some ad) c
   (fun i' f'=>if i'=i∧f≤f'∧f'<f+ts.length then vs.getD (f'-f) undef else u i' f') (fun i' f' b=>if i'=i∧f≤f'∧f'<f+ts.length then m= .deep∧X (f'-f) b else T i' f' b) ?_ ?_
  ·rw[iC] at key;exact key
  ·refine⟨by rw[iC];exact k.len,k.cap,k.z0,B3 k.width hrow hf,fun _=>⟨ad,rfl⟩,?_,fun e=>absurd e hm,fun _=>⟨fun e=>(by cases e),?_⟩,fun hm Rt ad' e i=>(by cases e;rw[World.frozen?_setCells];exact k.soft hm Rt ad rfl i),?_⟩
   ·intro ad' e i' f' tc ht
    cases e
    rcases wk hrow hf ht with⟨rfl,a,b,hc⟩|⟨hn',hc⟩
    ·rw[aP ⟨rfl,a,b⟩]
     have hj:f'-f<vs.length:=by omega
     have:=hin (f'-f) hj;rw[show i'*z+f+(f'-f)=i'*z+f' by omega] at this;rw[this];simp[List.getD,aZ hj]
    ·rw[aF ax]
     rw[hout]
     ·exact k.cell ad rfl i' f' tc hc
     ·obtain⟨_,hf',_⟩:=rG k.width hc
      by_cases hi:i'=i
      ·subst hi;omega
      ·rcases Nat.lt_or_gt_of_ne hi with hi|hi
       ·left
        have:i'*z+z≤i*z:=by rw[←sL];exact jZ _ hi
        omega
       ·right
        have:i*z+z≤i'*z:=by rw[←sL];exact jZ _ hi
        omega
   ·intro ad' e
    cases e
    refine⟨.inl Wj,qE,fun j hj=> ?_⟩;obtain⟨⟨x,hx⟩,hfz⟩:=hall j hj;refine⟨?_,by rw[World.frozen?_setCells];exact hfz⟩;have:=World.isSome_setCells ad.block vs (ad.off+(i*z+f)) w ⟨ad.block,ad.off+j,none⟩ (by rw[hx];rfl);exact Option.isSome_iff_exists.1 this
   ·intro LQ i' f' b hb
    by_cases hr:i'=i∧f≤f'∧f'<f+ts.length
    ·rw[aP hr] at hb
     have hj:f'-f<ts.length:=by omega
     refine⟨.inr ⟨LQ,_,hj,hb.2⟩,fun ad' e=>(by cases e;exact hXb _ b hj LQ hb.2),fun i2 f2 hb2=> ?_⟩
     by_cases F3:i2=i∧f≤f2∧f2<f+ts.length
     ·rw[aP F3] at hb2
      have:=(Z7 LQ _ b hj hb.2).2 _ ax hb2.2;omega
     ·rw[aF F3] at hb2
      exact absurd (k.lW LQ i2 f2 b hb2).1 (Z7 LQ _ b hj hb.2).1
    ·rw[aF hr] at hb
     obtain⟨d1,d2,d3⟩:=k.lW LQ i' f' b hb;refine⟨.inl d1,d2,fun i2 f2 hb2=> ?_⟩
     by_cases F3:i2=i∧f≤f2∧f2<f+ts.length
     ·rw[aP F3] at hb2
      exact absurd d1 (Z7 LQ _ b ax hb2.2).1
     ·rw[aF F3] at hb2
      exact d3 i2 f2 hb2
  ·intro i' f' tc ht
   rcases wk hrow hf ht with⟨rfl,a,b',hc⟩|⟨hn',hc⟩
   ·rw[aP ⟨rfl,a,b'⟩]
    have hj:f'-f<vs.length:=by omega
    have hx:=hX (f'-f) tc vs[f'-f] hc (aZ hj)
    have hv:vs.getD (f'-f) undef=vs[f'-f]:=by simp[List.getD,aZ hj]
    rw[hv];refine(ai.move hx (fun b hb=>⟨hb,Bv b (Z8 b hb).1 (Z8 b hb).2⟩) fun VH b hb=>Bv b (hXs _ b ax hb) (hXb _ b ax (qJ VH) hb)).mono' fun VH b hb=> ?_;rw[aP ⟨rfl,a,b'⟩];exact⟨qJ VH,hb⟩
   ·rw[aF ax]
    refine(ai.move (hn i' f' tc hc) (fun b hb=>⟨hb,Bv b (Z8 b hb).1 (Z8 b hb).2⟩) fun VH b hb=> ?_).mono fun b hb=>by rw[aF ax];exact hb
    obtain⟨d1,d2,_⟩:=k.lW (qJ VH) i' f' b hb;exact Bv b (hS b d1) (d2 ad rfl)
theorem ai.inner {Rd S:Nat→Prop} {z n c:Nat} {rows:List (List TC)} {ad:Addr} (h:ai w Rd .deep S (.sub z rows) (.slice (some ad) n c)) {i f:Nat} {tc:TC} (ht:sW rows i f=some tc):
 ∃V1 T0,w.cell? (ad.add (i*z+f))=some V1∧ai w Rd .deep T0 tc V1∧(∀k,T0 k→S k∧k≠ad.block)∧S ad.block∧
  ∀(w':World) (tc':TC) (T1:Nat→Prop),ai w' Rd .deep T1 tc' V1→(∀k,S k→ ¬T0 k→w'.heap[k]?=w.heap[k]?)→(∀k,T1 k→T0 k∨ ¬S k)→
   ai w' Rd .deep (fun k=>(S k∧ ¬T0 k)∨T1 k) (.sub z (nG rows i f [tc'])) (.slice (some ad) n c):=by
 cases h with
 |sub _ _ _ _ _ _ u T k hn=>
  obtain⟨row,hrow,hfr⟩: ∃row,rows[i]?=some row∧row[f]?=some tc:=by
   unfold sW at ht
   cases hr:rows[i]? with
   |none=>rw[hr] at ht;cases ht
   |some row=>rw[hr] at ht;exact⟨row,rfl,ht⟩
  have hf:f+1≤row.length:=(List.getElem?_eq_some_iff.1 hfr).1;obtain⟨Wj,qE,hall⟩:=(k.own eO).2 ad rfl;have Z9: ∀b,T i f b→S b∧b≠ad.block:=fun b hb=>⟨(k.lW rfl i f b hb).1,(k.lW rfl i f b hb).2.1 ad rfl⟩;refine⟨u i f,T i f,k.cell ad rfl i f tc ht,hn i f tc ht,Z9,Wj,fun w' tc' T1 h1 hsame hT1=> ?_⟩;have Ix:w'.heap[ad.block]?=w.heap[ad.block]?:=hsame _ Wj fun hb=>(Z9 _ hb).2 rfl;have key:=ai.sub (w:=w') (R:=Rd) .deep (fun b=>(S b∧ ¬T i f b)∨T1 b) z (nG rows i f [tc']) (some ad) c u (fun i' f' b=>if i'=i∧f'=f then T1 b else T i' f' b) ?_ ?_
  ·rw[iC] at key;exact key
  ·refine⟨by rw[iC];exact k.len,k.cap,k.z0,B3 k.width hrow hf,fun _=>⟨ad,rfl⟩,?_,fun e=>(by cases e),fun _=>⟨fun e=>(by cases e),?_⟩,fun hm Rt ad' e i=>(by cases e;rw[je (w:=w) (a:=⟨ad.block,i,none⟩) Ix];exact k.soft eO Rt ad rfl i),?_⟩
   ·intro ad' e i' f' t' ht'
    cases e
    rw[dS (w:=w) (by rw[bH];exact Ix)];rcases wk hrow hf ht' with⟨rfl,a,b,hc⟩|⟨_,hc⟩
    ·have:f'=f:=by simp at b;omega
     subst this;exact k.cell ad rfl _ _ tc ht
    ·exact k.cell ad rfl i' f' t' hc
   ·intro ad' e
    cases e
    refine⟨.inl ⟨Wj,fun hb=>(Z9 _ hb).2 rfl⟩,qE,fun j hj=> ?_⟩;obtain⟨⟨x,hx⟩,hfz⟩:=hall j hj;exact⟨⟨x,by rw[dS (w:=w) (by exact Ix)];exact hx⟩,by rw[je (w:=w) (by exact Ix)];exact hfz⟩
   ·intro _ i' f' b hb
    by_cases hr:i'=i∧f'=f
    ·rw[aP hr] at hb
     have hne:b≠ad.block:=fun e=>by
      subst e;rcases hT1 _ hb with h|h
      ·exact(Z9 _ h).2 rfl
      ·exact h Wj
     refine⟨.inr hb,fun ad' e=>(by cases e;exact hne),fun i2 f2 hb2=> ?_⟩
     by_cases F3:i2=i∧f2=f
     ·exact⟨F3.1.trans hr.1.symm,F3.2.trans hr.2.symm⟩
     ·rw[aF F3] at hb2
      rcases hT1 _ hb with h|h
      ·have:=(k.lW rfl i2 f2 b hb2).2.2 i f h
       exact absurd ⟨this.1.symm,this.2.symm⟩ F3
      ·exact absurd (k.lW rfl i2 f2 b hb2).1 h
    ·rw[aF hr] at hb
     obtain⟨d1,d2,d3⟩:=k.lW rfl i' f' b hb;refine⟨.inl ⟨d1,fun hb0=>hr (by have:=d3 i f hb0;exact⟨this.1.symm,this.2.symm⟩)⟩,d2,fun i2 f2 hb2=> ?_⟩
     by_cases F3:i2=i∧f2=f
     ·rw[aP F3] at hb2
      rcases hT1 _ hb2 with h|h
      ·have:=d3 i f h
       exact absurd ⟨this.1.symm,this.2.symm⟩ hr
      ·exact absurd d1 h
     ·rw[aF F3] at hb2
      exact d3 i2 f2 hb2
  ·intro i' f' t' ht'
   rcases wk hrow hf ht' with⟨rfl,a,b,hc⟩|⟨hn',hc⟩
   ·have:f'=f:=by simp at b;omega
    subst this;simp at hc;subst hc
    exact h1.mono fun b hb=>by rw[aP ⟨rfl,rfl⟩];exact hb
   ·have hr: ¬(i'=i∧f'=f):=by simp at hn';omega
    refine(ai.QG (hn i' f' t' hc) fun b hb=> ?_).mono fun b hb=>by rw[aF hr];exact hb
    obtain⟨d1,d2,d3⟩:=k.lW rfl i' f' b hb;exact hsame b d1 fun hb0=>hr (by have:=d3 i f hb0;exact⟨this.1.symm,this.2.symm⟩)
end Go.T
namespace Go.T
variable {F : Nat → Prop} {A : Arg} {w0 w w' : World} {φ φ' : Fp} {st st' cG lR : TS} {tm AK : Array Value} {C : jC}
variable {R : Type} {cf : Cf} {lp : Lp} {Q : R → Prop}
structure oS (F:Nat→Prop) (w0 w:World) (φ:Fp) (st:TS) (k:Nat):Prop where
 lt:k<w.heap.size
 new:w0.heap.size≤k∨F k
 I: ¬φ.I k
 S: ∀o,aA st.ob o→ ¬φ.S o k
 B: ∀b cs,aa b st.bx=some cs→(φ.β b).block≠k
theorem aH.kZ (h:aH F A w0 φ st tm w) {o k:Nat} (ho:aA st.ob o) (hk:φ.S o k) {b:Nat} {cs:List CE} (hb:aa b st.bx=some cs):(φ.β b).block≠k:=fun e=>by
 subst e
 cases Aj:u0 b with
 |true=>exact(h.sep.box b cs hb Aj).2.1 o ho hk
 |false=>
  have h1:=h.sep.kk _ ((h.sep.spot b cs hb).2.2 Aj);rcases (h.sep.fresh o _ ho hk).2 with h3|h3
  ·omega
  ·exact h1.2 h3
theorem aH.free (h:aH F A w0 φ st tm w) (hs:dg st' st) {k:Nat} (hk: ∃o,aA st.ob o∧ ¬aA st'.ob o∧φ.S o k):oS F w0 w φ st' k:=by
 obtain⟨o,a1,a2,a3⟩:=hk
 exact⟨(h.sep.fresh o k a1 a3).1,(h.sep.fresh o k a1 a3).2,h.sep.read o k a1 a3,fun o' ho' hk=>by
  have:=h.sep.apart o o' k a1 (hs.dom ho') a3 hk
  subst this;exact a2 ho',fun b cs hb=>by
  obtain⟨cs0,c0,_⟩:=hs.bx b cs hb
  exact h.kZ a1 a3 c0⟩
theorem ME (h:aH F A w0 φ st tm w) (h1:aH F A w0 φ cG tm w) {cc:List It} {X:Nat→Nat→Prop} {Zp:Nat→Prop} (p:jD w φ st cG cc X Zp) {r:Nat} {B b':OB} (hr:aa r cG.ob=some B) (hz:b'.z=B.z) (hl:b'.rows.length=B.rows.length)
 {Zt Xr:Nat→Prop} {gb off:Nat} {vs:List Value} (hg:φ.S r gb) (hXr: ∀k,Xr k→ ¬Zt k∧(φ.S r k∨ ∃j,j<cc.length∧X j k)) (hZt: ∀k,Zt k→Zp k∨φ.S r k)
 (hc:ai (w.setCells gb off vs) (fun k=>φ.I k∨Zt k) b'.m Xr (.sub b'.z b'.rows) (φ.V r)):Rel F A w0 (qj [(r,b')] cG) tm (w.setCells gb off vs):=by
 have hin:aA cG.ob r:=⟨_,hr⟩;have hsize:=(jh gb vs off w).2.2.2
 have lookW: ∀{o b},aa o [(r,b')]=some b→o=r∧b=b':=fun {o b} ho=>by
  simp only[aa] at ho
  cases hb:Nat.beq r o with
  |true=>rw[hb] at ho;cases ho;exact⟨(fk hb).symm,rfl⟩
  |false=>rw[hb] at ho;cases ho
 have neW: ∀{o},aa o [(r,b')]=none→o≠r:=fun {o} ho e=>by subst e;simp[aa] at ho
 have frS: ∀{k},φ.S r k→k<w.heap.size∧(w0.heap.size≤k∨F k)∧ ¬φ.I k∧(∀d,aA cG.ob d→aa d [(r,b')]=none→ ¬φ.S d k)∧ ∀b cs,aa b cG.bx=some cs→(φ.β b).block≠k:=fun {k} hk=>
  ⟨(h1.sep.fresh r k hin hk).1,(h1.sep.fresh r k hin hk).2,h1.sep.read r k hin hk,fun d hd hn hk'=>neW hn (h1.sep.apart d r k hd hin hk' hk),fun b cs hb=>h1.kZ hin hk hb⟩
 refine⟨_,h1.wrote (w':=w.setCells gb off vs) [(r,b')] (fun _ k=>Xr k) Zt (fun k=>k=gb) (h1.frm.setCells (frS hg).2.1) (by rw[hsize];exact bI _) (fun k hk hn=>dV _ _ _ _ hk hn)
  (fun k e=>by subst e;exact(frS hg).2.1) (fun k e=>by subst e;exact(frS hg).2.2.1) (fun k o e ho hn=>by subst e;exact(frS hg).2.2.2.1 o ho hn) (fun b cs hb e=>(frS hg).2.2.2.2 b cs hb e) (fun o b ho=> ?_) (fun k hk=> ?_)⟩
 ·obtain⟨rfl,rfl⟩:=lookW ho
  refine⟨B,hr,hz,hl,hc,fun k hk=> ?_⟩;obtain⟨x1,x2⟩:=hXr k hk;rcases x2 with x2|⟨j,hj,x2⟩
  ·obtain⟨f1,f2,f3,f4,f5⟩:=frS x2
   exact⟨by rw[hsize];exact f1,f2,f3,x1,f4,fun d b hb _=>(lookW hb).1,fun b cs hb _=>f5 b cs hb⟩
  ·have fr:=h.free p.sub (p.src j k hj x2).2
   exact⟨by rw[hsize];exact fr.lt,fr.new,fr.I,x1,fun d hd _=>fr.S d hd,fun d b hb _=>(lookW hb).1,fun b cs hb _=>fr.B b cs hb⟩
 ·rcases hZt k hk with hz|hz
  ·have fr:=h.free p.sub (p.srcZ k hz)
   exact⟨by rw[hsize];exact fr.lt,fr.new.elim .inl fun hF=> .inr (.inl hF),fun d hd _=>fr.S d hd,fun b cs hb _=>fr.B b cs hb⟩
  ·obtain⟨f1,f2,f3,f4,f5⟩:=frS hz
   exact⟨by rw[hsize];exact f1,f2.elim .inl fun hF=> .inr (.inl hF),f4,fun b cs hb _=>f5 b cs hb⟩
theorem AW {a:Act} (hT:ef C) (h:aH F A w0 φ st a.tmps w) {o:Oper} {t:TypeId} {q x:Operand} (ho:o.op= .store t q x) (iW:o.dst=none) {cs:List CE} (hkn:known (C.tt t)=true) (hcs:zI st.ob w φ cs (a.eval x))
 (hsz:cs.length=(C.tt t).size) {r:Nat} {path:Option (Int×Nat)} {i:Int} {f:Nat} (hq:oy C st 0 q= .er r path i f) {K:TS→Ev R} (hk:(BI r path i f cs st K).holds cf lp Q):NP C F A w0 φ st o a w K cf lp Q:=by
 have Zf:=de hT h 0 q;rw[hq] at Zf;obtain⟨b,hb,hi,ad,n,c,hV,Wk⟩:=Zf;unfold BI at hk
 split at hk
 ·rename_i ts cG d1 hab
  split at hk
  ·rename_i d z rows yo
   have vlen:(a.eval x).cells.toList.length=cs.length:=by simpa using hcs.1
   have hce: ∀(j:Nat) (e:CE),cs[j]?=some e→ ∃v,(a.eval x).cells.toList[j]?=some v∧cq st.ob w φ e v:=fun j e he=>by
    obtain⟨y,y1,_,y3⟩:=hcs.2 j e he;exact⟨y,by simpa using y1,y3⟩
   have fin: ∀{ad':Addr} {b':OB},a.eval q= .pointer (some ad')→ad'.spot=none→(∀j,j<(a.eval x).cells.size→(w.cell? (ad'.add j)).isSome=true∧w.frozen? (ad'.add j)=false)→(∀y∈(a.eval x).cells.toList,y.oneCell'=true)→φ.S r ad'.block→
    Rel F A w0 (qj [(r,b')] cG) a.tmps (w.setCells ad'.block ad'.off (a.eval x).cells.toList)→(K (qj [(r,b')] cG)).holds cf lp Q→NP C F A w0 φ st o a w K cf lp Q:=fun {ad' b'} hv hs hc h1 hS sx hk=>by
    have hrun:=B2 (w:=w) (hT t hkn) hs (v:=a.eval x) (by rw[hcs.1,hsz]) h1 hc;refine⟨.skip,undef,_,_,?_,.inr ⟨rfl,rfl⟩,by rw[iW];exact sx,hk,by rw[(jh _ _ _ _).2.2.2];exact bI _,fun k hk VG=> ?_⟩
    ·unfold execOp
     rw[ho];simp only[Sem.run_bind,hv,hrun,Result.andThen]
     rfl
    ·refine dV _ _ _ _ hk fun e=>VG (.inr ⟨r,?_,⟨b,hb⟩,by rw[e];exact hS⟩)
     unfold writes;rw[ho];simp only[hq];exact .head _
   have one: ∀{M:Mode} {X:Nat→Nat→Prop} {Z:Nat→Prop},ts.length=cs.length→jD w φ st cG (c6 M ts (a.eval x).cells.toList) X Z→ ∀y∈(a.eval x).cells.toList,y.oneCell'=true:=fun {M X Z} hl p y hy=>by
    obtain⟨j,hj,rfl⟩:=List.mem_iff_getElem.1 hy;exact nT (p.ok j _ (kO (aZ ax) (aZ hj)))
   cases path with
   |none=>
    simp only at hk;obtain⟨row,hrow,hk⟩:=hk;obtain⟨_,hrow⟩:=nS hrow;simp only at hk
    split at hk
    ·rename_i hle
     have hle:=ou hle
     obtain⟨h1,hl,hsub,os,tk⟩:=zK (if d&&d1 then .deep else .snap) cs st _ ts cG d1 h (dg.refl _) vlen hce (by
      cases hd:d&&d1 with
      |true=>simp only[c8] at hd;exact .inr ⟨hd.2,rfl⟩
      |false=>exact .inl rfl) hab
     obtain⟨X,Zp,p⟩:=tk.parts h;have:=hsub.ob r _ yo;rw[hb] at this
     cases this
     have hO:=h1.obj r _ yo;unfold kz at hO;rw[hV] at hO;have hin:aA cG.ob r:=⟨_,yo⟩;have hlen:(c6 (if(d&&d1)=true then Mode.deep else .snap) ts (a.eval x).cells.toList).length=ts.length:=fR ax;have itm: ∀(j:Nat) (tc:TC) (v:Value),ts[j]?=some tc→(a.eval x).cells.toList[j]?=some v→ai w (fun k=>φ.I k∨Zp k) (if(d&&d1)=true then Mode.deep else .snap) (X j) tc v:=fun j tc v e1 e2=>p.ok j _ (kO e1 e2);have Io:a.eval q= .pointer (some (ad.add (i.toNat*z+f))):=Wk
     obtain⟨Zt,Sr,g1,g2,g3,g4,g5⟩: ∃Zt Sr:Nat→Prop,ai w (fun k=>φ.I k∨Zt k) (OB.m ⟨d&&d1,z,setRow rows i f ts⟩) Sr (.sub z rows) (.slice (some ad) n c)∧(∀k,Sr k→φ.S r k∧ ¬Zt k)∧(∀k,Zt k→(Zp k∨φ.S r k)∧k≠ad.block)∧
      (∀(j:Nat) (tc:TC) (v:Value),ts[j]?=some tc→(a.eval x).cells.toList[j]?=some v→ai w (fun k=>φ.I k∨Zt k) (OB.m ⟨d&&d1,z,setRow rows i f ts⟩).nx (X j) tc v)∧((d&&d1)=true→ ∀k,Zt k→Zp k):=by
      have adS:φ.S r ad.block:=by
       cases hO with
       |sub _ _ _ _ _ _ u T k hn=>exact(k.own (by unfold OB.m;split<;>simp)).2 ad rfl|>.1
      have zpn: ∀k,Zp k→k≠ad.block:=fun k hk e=>(h.free p.sub (p.srcZ k hk)).S r hin (by rw[e];exact adS)
      cases hd:d&&d1 with
      |true=>
       rw[hd] at itm
       have Qi:d=true:=by simp only[c8] at hd;exact hd.1
       subst Qi;refine⟨Zp,φ.S r,hO.mo fun k hk=> .inl hk,fun k hk=>⟨hk,fun hz=>(h.free p.sub (p.srcZ k hz)).S r hin hk⟩,fun k hk=>⟨.inl hk,zpn k hk⟩,itm,fun _ k hk=>hk⟩
      |false=>
       rw[hd] at itm;refine⟨fun k=>Zp k∨(φ.S r k∧ ¬GN .top (.slice (some ad) n c) (φ.S r) k),GN .top (.slice (some ad) n c) (φ.S r),?_,fun k hk=>⟨hk.1,fun hz=> ?_⟩,fun k hk=> ?_,fun j tc v e1 e2=> ?_,fun e=>by cases e⟩
       ·exact hO.out (m:= .top) (by unfold OB.m;split<;>simp) (fun e=>by cases e) (fun k hk=> .inl hk) fun k hk hn=> .inr (.inr ⟨hk,hn⟩)
       ·rcases hz with hz|hz
        ·exact(h.free p.sub (p.srcZ k hz)).S r hin hk.1
        ·exact hz.2 hk
       ·rcases hk with hk|hk
        ·exact⟨.inl hk,zpn k hk⟩
        ·exact⟨.inr hk.1,fun e=>hk.2 ⟨hk.1,ad,n,c,rfl,e⟩⟩
       ·exact(itm j tc v e1 e2).mU (S':=X j) fun k hk=>hk.elim .inl fun h=> .inr (.inl h)
     obtain⟨ps,pS,pt,pc⟩:=g1.put (by unfold OB.m;split<;>simp) hrow hle (vs:=(a.eval x).cells.toList) ax (one hl p) g4 (fun LQ j k hj hk=>by
      obtain⟨s1,s2⟩:=p.src j k (by rw[hlen];exact hj) hk
      exact⟨fun hS=>(h.free p.sub s2).S r hin (g2 k hS).1,fun j' hj' hk'=>p.apart _ _ k (by rw[hlen];exact hj') (by rw[hlen];exact hj) hk' hk⟩)
      (fun k hk=>by
        rcases hk with hk|hk
        ·refine⟨(h.sep.ro k hk).1,fun e=> ?_⟩
         have adS:φ.S r ad.block:=by
          cases hO with
          |sub _ _ _ _ _ _ u T k hn=>exact(k.own (by unfold OB.m;split<;>simp)).2 ad rfl|>.1
         exact h1.sep.read r _ hin adS (by rw[←e];exact hk)
        ·refine⟨?_,(g3 k hk).2⟩
         rcases (g3 k hk).1 with hz|hz
         ·exact(h.free p.sub (p.srcZ k hz)).lt
         ·exact(h1.sep.fresh r k hin hz).1)
      (fun k hk=>(h1.sep.fresh r k hin (g2 k hk).1).1) (fun j k hj hk=>(h.free p.sub (p.src j k (by rw[hlen];exact hj) hk).2).lt)
     refine fin Io (yF _ ps) (fun j hj=>by rw[Addr.add_add];exact pt j (by simpa using hj)) (one hl p) (by rw[bH];exact(g2 _ pS).1) ?_ hk;rw[bH,qL _ ps];refine ME h h1 p yo (b':=⟨d&&d1,z,setRow rows i f ts⟩) rfl (by simp only[pF,iC]) (g2 _ pS).1 (Zt:=Zt) (Xr:=fun k=>Sr k∨((OB.m ⟨d&&d1,z,setRow rows i f ts⟩)= .deep∧ ∃j,j<ts.length∧X j k)) (fun k hk=> ?_) (fun k hk=>(g3 k hk).1) ?_
     ·rcases hk with hk|⟨LQ,j,hj,hk⟩
      ·exact⟨(g2 k hk).2,.inl (g2 k hk).1⟩
      ·refine⟨fun hz=> ?_,.inr ⟨j,by rw[hlen];exact hj,hk⟩⟩
       have Qi:(d&&d1)=true:=by
        unfold OB.m at LQ
        cases hd:d&&d1 with
        |true=>rfl
        |false=>simp[hd] at LQ
       exact(p.src j k (by rw[hlen];exact hj) hk).1 (g5 Qi k hz)
     ·show ai _ _ (OB.m ⟨d&&d1,z,setRow rows i f ts⟩) _ (.sub z (setRow rows i f ts)) _
      rw[hV,pF];exact pc
    ·exact hk.elim
   |some pq=>
    obtain⟨i0,f0⟩:=pq;simp only at hk
    split at hk
    ·obtain⟨row0,TT,hk⟩:=hk
     obtain⟨_,TT⟩:=nS TT;simp only at hk
     split at hk
     ·rename_i z1 nE XF
      obtain⟨row,hrow,hk⟩:=hk;obtain⟨_,hrow⟩:=nS hrow;simp only at hk
      split at hk
      ·rename_i hle
       have hle:=ou hle;obtain⟨h1,hl,hsub,os,tk⟩:=zK .deep cs st _ ts cG true h (dg.refl _) vlen hce (.inr ⟨rfl,rfl⟩) hab;obtain⟨X,Zp,p⟩:=tk.parts h;have:=hsub.ob r _ yo;rw[hb] at this
       cases this
       have hO:=h1.obj r _ yo;unfold kz at hO;rw[hV] at hO;have hin:aA cG.ob r:=⟨_,yo⟩;have hlen:(c6 Mode.deep ts (a.eval x).cells.toList).length=ts.length:=fR ax;obtain⟨_,z1',rows1',Wf,ad1,n1,c1,hcell,X8⟩:=Wk;have ht0:sW rows i0.toNat f0=some (.sub z1 nE):=qM TT XF;rw[ht0] at Wf
       cases Wf
       obtain⟨V1,T0,v1,v2,v3,v4,v5⟩:=ai.inner (hO.mo (R':=fun k=>φ.I k∨Zp k) fun k hk=> .inl hk:ai w (fun k=>φ.I k∨Zp k) .deep (φ.S r) (.sub z rows) (.slice (some ad) n c)) ht0
       have:V1= .slice (some ad1) n1 c1:=by have hh:=v1.symm.trans hcell;simpa using hh
       subst this;have XS: ∀j k,j<ts.length→X j k→ ¬φ.S r k:=fun j k hj hk=>(h.free p.sub (p.src j k (by rw[hlen];exact hj) hk).2).S r hin
       have ad1S:T0 ad1.block:=by
        cases v2 with
        |sub _ _ _ _ _ _ u T k hn=>exact(k.own eO).2 ad1 rfl|>.1
       obtain⟨ps,pS,pt,pc⟩:=v2.put eO hrow hle (vs:=(a.eval x).cells.toList) ax (one hl p) (X:=X) (fun j tc v e1 e2=>p.ok j _ (kO e1 e2)) (fun _ j k hj hk=>
        ⟨fun hS=>XS j k hj hk (v3 k hS).1,fun j' hj' hk'=>p.apart _ _ k (by rw[hlen];exact hj') (by rw[hlen];exact hj) hk' hk⟩)
        (fun k hk=>by
          rcases hk with hk|hk
          ·exact⟨(h.sep.ro k hk).1,fun e=>h1.sep.read r _ hin (v3 _ ad1S).1 (by rw[←e];exact hk)⟩
          ·have fr:=h.free p.sub (p.srcZ k hk)
           exact⟨fr.lt,fun e=>fr.S r hin (by rw[e];exact(v3 _ ad1S).1)⟩)
        (fun k hk=>(h1.sep.fresh r k hin (v3 k hk).1).1) (fun j k hj hk=>(h.free p.sub (p.src j k (by rw[hlen];exact hj) hk).2).lt)
       have Io:a.eval q= .pointer (some (ad1.add (i.toNat*z1+f))):=X8;refine fin Io (yF _ ps) (fun j hj=>by rw[Addr.add_add];exact pt j (by simpa using hj)) (one hl p) (by rw[bH];exact(v3 _ ad1S).1) ?_ hk;rw[bH,qL _ ps]
       have hnew:=v5 _ _ _ pc (fun k hk hn=>dV _ _ _ _ (h1.sep.fresh r k hin hk).1 fun e=>hn (by rw[e];exact ad1S)) (fun k hk=>by
        rcases hk with hk|⟨_,j,hj,hk⟩
        ·exact .inl hk
        ·exact .inr (XS j k hj hk))
       refine ME h h1 p yo (b':=⟨true,z,setRow rows i0 f0 [.sub z1 (setRow nE i f ts)]⟩) rfl (by simp only[pF,iC]) (v3 _ ad1S).1 (Zt:=Zp) (Xr:=fun k=>(φ.S r k∧ ¬T0 k)∨(T0 k∨(Mode.deep= .deep∧ ∃j,j<ts.length∧X j k))) (fun k hk=> ?_) (fun k hk=> .inl hk) ?_
       ·rcases hk with hk|hk|⟨_,j,hj,hk⟩
        ·exact⟨fun hz=>(h.free p.sub (p.srcZ k hz)).S r hin hk.1,.inl hk.1⟩
        ·exact⟨fun hz=>(h.free p.sub (p.srcZ k hz)).S r hin (v3 k hk).1,.inl (v3 k hk).1⟩
        ·exact⟨(p.src j k (by rw[hlen];exact hj) hk).1,.inr ⟨j,by rw[hlen];exact hj,hk⟩⟩
       ·show ai _ _ .deep _ (.sub z (setRow rows i0 f0 [.sub z1 (setRow nE i f ts)])) _
        rw[hV,pF,pF];exact hnew
      ·exact hk.elim
     ·exact hk.elim
    ·exact hk.elim
  ·exact hk.elim
 ·exact hk.elim
theorem Sv {a:Act} (hT:ef C) (h:aH F A w0 φ st a.tmps w) {o:Oper} {t:TypeId} {q x:Operand} (ho:o.op= .store t q x) {K:TS→Ev R} (hk:(mm C st o K).holds cf lp Q):NP C F A w0 φ st o a w K cf lp Q:=by
 unfold mm at hk;rw[ho] at hk;simp only at hk
 split at hk
 ·rename_i cs iW hkn hc
  have hcs:=pg (de hT h t x) hc
  split at hk
  ·rename_i b off hsz hp
   split at hk
   ·rename_i st' hs
    exact MD hT h ho iW hkn hcs (fk hsz) hp hs hk
   ·exact hk.elim
  ·rename_i r i f hsz hp
   split at hk
   ·have Zf:=de hT h 0 q
    rw[hp] at Zf;obtain⟨b,hb,_⟩:=Zf;obtain⟨h',hce⟩:=h.vf hb
    have aa7:zI (vf r st).ob w (φ.KT r) (cs.map (Gu r)) (a.eval x):=by
     refine⟨by rw[dB];exact hcs.1,fun j e he=> ?_⟩;rw[gY] at he
     cases hj:cs[j]? with
     |none=>rw[hj] at he;cases he
     |some e0=>
      rw[hj] at he;simp only[jB,aU] at he;subst he;obtain⟨y,y1,y2,y3⟩:=hcs.2 j e0 hj;exact⟨y,y1,y2,hce _ _ y3⟩
    have LO:oy C (vf r st) 0 q= .er r none i f:=by
     cases q with
     |tmp n=>
      have hp:st.get n= .er r none i f:=hp;show(vf r st).get n=_;unfold T.vf;rw[hb];simp only;rw[get_map _ _ _ rfl,hp]
      rfl
     |_=>exact hp
    obtain⟨nx,v,w',st',d1,d2,d3,d4,d5,d6⟩:=AW hT h' ho iW hkn aa7 (by rw[dB];exact fk hsz) LO hk;refine⟨nx,v,w',st',d1,d2,d3,d4,d5,fun k hk VG=>d6 k hk fun hw=>VG ?_⟩
    have e1:writes C st o=[2*r]:=by unfold writes;rw[ho];simp only[hp]
    have e2:writes C (vf r st) o=[2*r]:=by unfold writes;rw[ho];simp only[LO]
    rw[e1];rw[e2] at hw;rcases hw with⟨b',cs',hm,_⟩|⟨o',hm,_,hS⟩
    ·simp only[jz] at hm;omega
    ·simp only[jz] at hm
     have:o'=r:=by omega
     subst this;exact .inr ⟨o',.head _,⟨b,hb⟩,hS.1⟩
   ·exact AW hT h ho iW hkn hcs (fk hsz) hp hk
  ·rename_i r path i f hn hsz hp
   exact AW hT h ho iW hkn hcs (fk hsz) hp hk
  ·exact hk.elim
 ·exact hk.elim
end Go.T
namespace Go.T
variable {F : Nat → Prop} {A : Arg} {w0 w w' : World} {φ φ' : Fp} {st st' cG lR : TS} {tm AK : Array Value} {C : jC}
variable {R : Type} {cf : Cf} {lp : Lp} {Q : R → Prop}
theorem B4 (h0:aH F A w0 φ st tm w) (h:aH F A w0 φ st' tm w) {dp:Bool} {z:Nat} {rows:List (List TC)} {vs:List Value} {X:Nat→Nat→Prop} {Z:Nat→Prop} {d:Nat}
 (p:jD w φ st st' (c6 (if dp then .deep else .snap) rows.flatten vs) X Z) (hz:0<z) (sw: ∀r∈rows,r.length=z) (hl:vs.length=rows.length*z) {c:Nat} (hc:rows.length≤c) (NR:c≤maxLen)
 (g:jE w w') (hlt:w.heap.size<w'.heap.size) (hcell: ∀(j:Nat) (v:Value),vs[j]?=some v→w'.cell? ⟨w.heap.size,j,none⟩=some v)
 (hall: ∀j,j<c*z→(∃x,w'.cell? ⟨w.heap.size,j,none⟩=some x)∧w'.frozen? ⟨w.heap.size,j,none⟩=false) (Ip:1<z→ ∀i,w'.frozen? ⟨w.heap.size,i,none⟩=false) (hd:d<tm.size):
 Rel F A w0 (sE d ⟨dp,z,rows⟩ st') (tm.setIfInBounds d (.slice (some ⟨w.heap.size,0,none⟩) rows.length c)) w':=by
 have hlen:(c6 (if dp then Mode.deep else .snap) rows.flatten vs).length=rows.length*z:=by rw[fR (by rw[bL sw,hl]),bL sw]
 exact St h0 h p hz sw hl (ad:=⟨w.heap.size,0,none⟩) hc NR rfl (h.frm.BP g) g.size (fun k hk _=>g.block k hk) (G:=fun _=>False) (fun k hk=>hk.elim)
  (fun k hk=>⟨id,fun e=>by have:=(h0.free p.sub (p.srcZ k hk)).lt;rw[e] at this;simp at this⟩)
  (fun i k hi hk=>⟨id,fun e=>by have:=(h0.free p.sub (p.src i k (by rw[hlen];exact hi) hk).2).lt;rw[e] at this;simp at this⟩)
  (.inl ⟨bI _,hlt⟩) (fun j v hj=>by rw[add_lit,ic];exact hcell j v hj) (fun j hj=>by simp only[ic];exact hall j hj) Ip hd
theorem PO {z:Nat}: ∀(ps:List (Nat×Value)) (n:Nat) (cs:Array Value),(∀(j:Nat) p,ps[j]?=some p→p.1=n+j∧p.2.cells.size=z)→(n+ps.length)*z≤cs.size→
 ∃cs',Instr.fill (fun i=>some (i*z,z)) cs ps=some cs'∧cs'.size=cs.size∧(∀j,j<n*z→cs'[j]?=cs[j]?)∧ ∀j,j<ps.length*z→cs'[n*z+j]?=(ps.flatMap fun p=>p.2.cells.toList)[j]?
 |[],n,cs,_,_=>⟨cs,rfl,rfl,fun _ _=>rfl,fun j hj=>by simp at hj⟩
 |(i,v)::r,n,cs,hp,hle=>by
  obtain⟨h1,h2⟩:=hp 0 _ rfl;simp only[oX] at h1 h2;subst h1;simp only[ez] at hle
  have acN:i*z+z≤cs.size:=by
   have:(i+1)*z≤(i+(r.length+1))*z:=jZ _ ax;rw[nc] at this;omega
  obtain⟨g1,g2⟩:=Dh (i*z) v.cells.toList 0 cs (by simp[h2];omega)
  obtain⟨cs',k1,k2,k3,k4⟩:=PO r (i+1) (v.cells.zipIdx.foldl (fun(cs:Array Value) (p:Value×Nat)=>cs.setIfInBounds (i*z+p.2) p.1) cs) (fun j p hj=>by
   obtain⟨a,b⟩:=hp (j+1) p (by simpa using hj)
   exact⟨by omega,b⟩) (by
   have e1:v.cells.zipIdx.foldl (fun(cs:Array Value) (p:Value×Nat)=>cs.setIfInBounds (i*z+p.2) p.1) cs=(v.cells.toList.zipIdx 0).foldl (fun(cs:Array Value) (p:Value×Nat)=>cs.setIfInBounds (i*z+p.2) p.1) cs:=by
    rw[←Array.foldl_toList,Array.toList_zipIdx]
   rw[e1,g1]
   have:i+1+r.length=i+(r.length+1):=by omega
   rw[this];exact hle)
  have e1:v.cells.zipIdx.foldl (fun(cs:Array Value) (p:Value×Nat)=>cs.setIfInBounds (i*z+p.2) p.1) cs=(v.cells.toList.zipIdx 0).foldl (fun(cs:Array Value) (p:Value×Nat)=>cs.setIfInBounds (i*z+p.2) p.1) cs:=by
   rw[←Array.foldl_toList,Array.toList_zipIdx]
  refine⟨cs',?_,by rw[k2,e1,g1],fun j hj=> ?_,fun j hj=> ?_⟩
  ·unfold Instr.fill
   simp only[h2,ne_eq,not_true_eq_false,decide_false,Gm,decide_eq_true_eq];rw[aF ax];exact k1
  ·rw[k3 j (by rw[nc];omega),e1,g2 j,aF ax]
  ·rw[List.flatMap_cons]
   by_cases hjz:j<z
   ·rw[k3 _ (by rw[nc];omega),e1,g2,aP (by simp[h2];omega),iR (by simp[h2];omega)]
    simp
   ·rw[kr (by simp[h2];omega)]
    have:=k4 (j-z) (by simp only[ez,nc] at hj;omega);rw[show(i+1)*z+(j-z)=i*z+j by rw[nc];omega] at this;rw[this];simp[h2]
theorem GO {P:Program} {t e:TypeId} {i:TypeInfo} {zv:Value} (ht:P.underlying t=some (.slice e)) (hi:P.info? e=some i) (hz:i.zero=some zv) (parts:Array (Nat×Value)) {len:Nat}
 (hp: ∀(j:Nat) p,parts.toList[j]?=some p→p.1=j∧p.2.cells.size=i.size) (hl:parts.size=len) (hle:len*i.size≤16777216):
 ∃cells,(Instr.buildSlice t len parts).run P w= .ok (.slice (some ⟨w.heap.size,0,none⟩) len len) (w.alloc (.cells cells e))∧cells.size=len*i.size∧ ∀j,j<len*i.size→cells[j]?=(parts.toList.flatMap fun p=>p.2.cells.toList)[j]?:=by
 have Zg: ¬(len*i.size>16777216):=by omega
 obtain⟨cs',k1,k2,_,k4⟩:=PO (z:=i.size) parts.toList 0 ((Array.range (len*i.size)).map ((if len*i.size=0 then #[] else zv.cells)[· % (if len*i.size=0 then #[] else zv.cells).size]!)) (fun j p hj=>by rw[ic];exact hp j p hj) (by simp[hl]);refine⟨cs',?_,by rw[k2];simp,fun j hj=> ?_⟩
 ·unfold Instr.buildSlice
  by_cases h0:len*i.size=0
  ·have hr: ∀f:Nat→Value,(Array.range 0).map f= #[]:=fun f=>Array.eq_empty_of_size_eq_zero eO
   simp only[h0,if_true,hr] at k1;simp[run_underlying ht,sizeOf,typeInfo,hi,Zg,h0,hr,k1,newRow]
  ·simp only[h0,if_false] at k1
   simp[run_underlying ht,sizeOf,typeInfo,zeroValue,hi,hz,Zg,h0,k1,newRow]
 ·have:=k4 j (by rw[rj,hl];exact hj)
  simpa using this
theorem JG (hT:ef C) {a:Act} {ty:TypeId} (M:Mode): ∀(l:List (Nat×Operand)) (n:Nat) (st:TS) (rs:List (List TC)) (st':TS) (dp:Bool),aH F A w0 φ st a.tmps w→(M= .snap∨dp=true∧M= .deep)→rowsOf C st ty l n=some (rs,st',dp)→
 aH F A w0 φ st' a.tmps w∧rs.length=l.length∧(∀r∈rs,r.length=(C.tt ty).size)∧(∀(j:Nat) p,l[j]?=some p→p.1=n+j∧(a.eval p.2).cells.size=(C.tt ty).size)∧
  ∃X Z,jD w φ st st' (c6 M rs.flatten (l.flatMap fun p=>(a.eval p.2).cells.toList)) X Z
 |[],n,st,rs,st',dp,h,hM,hr=>by
  cases hr
  exact⟨h,rfl,fun r hr=>(by cases hr),fun j p hj=>by simp at hj,_,_,jD.nil _⟩
 |(i,x)::l,n,st,rs,st',dp,h,hM,hr=>by
  simp only[rowsOf] at hr
  split at hr
  ·rename_i cs hin hcs
   have hin:=fk hin;have hok:=pg (de hT h ty x) hcs
   split at hr
   ·rename_i cs' cG d1 hsz hab
    have hsz:=fk hsz
    split at hr
    ·rename_i rs2 lR d2 F3
     cases hr
     have vlen:(a.eval x).cells.toList.length=cs.length:=by simpa using hok.1
     obtain⟨h1,C4,Ei,os,tk⟩:=zK M cs st (a.eval x).cells.toList cs' cG d1 h (dg.refl _) vlen (fun j e he=>by
      obtain⟨y,y1,_,y3⟩:=hok.2 j e he
      exact⟨y,by simpa using y1,y3⟩) (by
      rcases hM with hM|⟨hd,hM⟩
      ·exact .inl hM
      ·simp only[c8] at hd;exact .inr ⟨hd.1,hM⟩) hab
     obtain⟨X1,Z1,p1⟩:=tk.parts h
     obtain⟨h2,AL,Jn,NN,X2,Z2,p2⟩:=JG hT M l (n+1) cG rs2 _ d2 h1 (by
      rcases hM with hM|⟨hd,hM⟩
      ·exact .inl hM
      ·simp only[c8] at hd;exact .inr ⟨hd.2,hM⟩) F3
     have key:=p1.app h p2;rw[←uJ ax] at key;refine⟨h2,by simp[AL],fun r hr=> ?_,fun j p hj=> ?_,_,_,key⟩
     ·rcases cw.1 hr with rfl|hr
      ·rw[C4,hsz]
      ·exact Jn r hr
     ·cases j with
      |zero=>simp only[cZ,aU] at hj;subst hj;exact⟨hin,by rw[hok.1,hsz]⟩
      |succ j=>
       obtain⟨a1,a2⟩:=NN j p (by simpa using hj);exact⟨by omega,a2⟩
    ·cases hr
   ·cases hr
  ·cases hr
theorem ID (hT:ef C) {a:Act} (h:aH F A w0 φ st a.tmps w) {o:Oper} {t:TypeId} {n:Nat} {ps:Array (Nat×Operand)} (ho:o.op= .buildSlice t n ps) {K:TS→Ev R} (hd: ∀d,o.dst=some d→d<a.tmps.size) (hk:(mm C st o K).holds cf lp Q):
 NP C F A w0 φ st o a w K cf lp Q:=by
 unfold mm at hk;rw[ho] at hk;simp only at hk
 split at hk
 ·rename_i d e iW he
  split at hk
  ·rename_i rs st' dp hb hr
   simp only[c8] at hb;obtain⟨⟨hn,hle⟩,LX⟩:=hb;have hn:=fk hn;have hle:=ou hle;obtain⟨hkn,hnp⟩:=vm LX;obtain⟨i,zv,g1,g2,g3,_⟩:=KM (w:=w) (φ:=φ) hT hkn hnp (ob:=st.ob);obtain⟨h1,hl,hw,hp,X,Z,p⟩:=JG hT (if dp then .deep else .snap) ps.toList 0 st rs st' dp h (by cases dp<;>simp) hr
   have C0:rs.length=n:=by rw[hl,hn];simp
   obtain⟨cells,c1,c2,c3⟩:=GO (w:=w) (q0 hT he).1 g1 g3 (ps.map fun(i,x)=>(i,a.eval x)) (len:=n) (fun j q hj=>by
    rw[Array.toList_map,gY] at hj
    cases hq:ps.toList[j]? with
    |none=>rw[hq] at hj;cases hj
    |some r=>
     rw[hq] at hj;simp only[jB,aU] at hj;subst hj;obtain⟨a1,a2⟩:=hp j r hq
     exact⟨by rw[a1,ic],by rw[g2];exact a2⟩) (by simp[hn]) (by rw[g2];exact hle)
   have hvl:(ps.toList.flatMap fun p=>(a.eval p.2).cells.toList).length=rs.length*(C.tt e).size:=by
    have: ∀(l:List (Nat×Operand)),(∀p∈l,(a.eval p.2).cells.size=(C.tt e).size)→(l.flatMap fun p=>(a.eval p.2).cells.toList).length=l.length*(C.tt e).size:=by
     intro l
     induction l with
     |nil=>intro _;simp
     |cons x r ih=>
      intro hx;rw[List.flatMap_cons,bX,ih fun p hp=>hx p (.tail _ hp),rj,hx x (.head _),ez,nc];omega
    rw[this _ fun p LO=> ?_,hl];obtain⟨j,hj,rfl⟩:=List.mem_iff_getElem.1 LO;exact(hp j _ (aZ hj)).2
   have hfm:((ps.map fun(i,x)=>(i,a.eval x)).toList.flatMap fun p=>p.2.cells.toList)=ps.toList.flatMap fun p=>(a.eval p.2).cells.toList:=by
    rw[Array.toList_map,List.flatMap_map]
   have sx:=B4 (w':=w.alloc (.cells cells e)) (d:=d) h h1 p (hT e hkn).pos hw hvl (c:=n) ax (by
    have hpos:=(hT e hkn).pos;have:n≤n*(C.tt e).size:=Nat.le_mul_of_pos_right n hpos
    simp only[maxLen];omega) (jE.alloc w _) eO (fun j v hj=>by
    rw[oF,c3 j (by
     have:=(List.getElem?_eq_some_iff.1 hj).1;rw[hvl,C0] at this
     rw[g2];exact this),hfm]
    exact hj) (fun j hj=>⟨⟨cells[j]'(by rw[c2,g2];exact hj),by rw[oF];exact qw _⟩,iA _ _ _ _⟩) (fun _ i=>iA _ _ _ _) (hd d iW)
   rw[C0] at sx;refine⟨.value _,_,_,_,?_,.inl rfl,by rw[iW];exact sx,hk,by simp,fun k hk _=>(jE.alloc w _).block k hk⟩;unfold execOp;rw[ho];simp only[Sem.run_bind,c1,Result.andThen]
   rfl
  ·exact hk.elim
 ·exact hk.elim
theorem Gc {z:Nat} {rows:List (List TC)} (hz:0<z) (sw: ∀r∈rows,r.length=z) {p:Nat} {tc:TC} (hp:rows.flatten[p]?=some tc):sW rows (p/z) (p % z)=some tc:=by
 have hfl:=bL sw
 have hlt:p<rows.length*z:=by rw[←hfl];exact(List.getElem?_eq_some_iff.1 hp).1
 have hi:p/z<rows.length:=Nat.div_lt_of_lt_mul (by rw[Nat.mul_comm];exact hlt);have hrl:=sw _ (u7 hi)
 have hf:p % z<(rows[p/z]).length:=by rw[hrl];exact Nat.mod_lt _ hz
 have h1:sW rows (p/z) (p % z)=some (rows[p/z][p % z]):=by simp[sW,aZ hi,aZ hf]
 have h2:=(rG sw h1).1;rw[BD p z] at h2;rw[h1,←h2,hp]
theorem Sw {Rd S:Nat→Prop} {m:Mode} {c:TC} (h:N7 c=true):ai w Rd m S c (Up c):=by
 cases c with
 |any=>cases h
 |sc v=>cases v<;>first|exact .sc _ _ _ trivial|cases h
 |sub z rows=>cases rows with
  |nil=>exact tf (ou h)
  |cons _ _=>cases h
attribute [local semireducible] bR sN uD fits in
theorem KV (hT:ef C) {a:Act} (h:aH F A w0 φ st a.tmps w) {o:Oper} {t:TypeId} {l c:Operand} (ho:o.op= .makeSlice t l c) {K:TS→Ev R} (hd: ∀d,o.dst=some d→d<a.tmps.size) (hk:(mm C st o K).holds cf lp Q):
 NP C F A w0 φ st o a w K cf lp Q:=by
 unfold mm at hk;rw[ho] at hk;simp only at hk
 split at hk
 ·rename_i d e n n' iW he hl hc
  have hk2:(match(uH (C.tt e)&&bR n n'&&sN 0 n&&fits (uD n) (C.tt e).bytes) with|true=>K (sE d ⟨true,(C.tt e).size,List.replicate (uD n) (C.tt e).zero⟩ st)|false=> .fail:Ev R).holds cf lp Q:=hk;clear hk
  split at hk2
  ·rename_i hb
   simp only[c8] at hb;obtain⟨⟨⟨LX,X9⟩,h0⟩,hf⟩:=hb
   have X9:n=n':=by simpa [bR] using X9
   subst X9
   have h0:0≤n:=by simpa [sN] using h0
   have hf:n.toNat*(C.tt e).bytes≤140737488355328∧n.toNat≤140737488355328:=by simpa [fits,uD] using hf
   obtain⟨hkn,hnp⟩:=vm LX;obtain⟨i,zv,g1,g2,g2b,g3,g4⟩:=(hT e hkn).info;obtain⟨z1,z2,z3,_⟩:=g4 hnp;obtain⟨kl,hkl⟩:=vk (de hT h 3 l) hl;obtain⟨kc,hkc⟩:=vk (de hT h 3 c) hc;have hpos:=(hT e hkn).pos
   have hzs:zv.cells.size=(C.tt e).size:=by rw[←rj,z1];simpa using z2
   have hby:(i.bytes:Int)*n≤281474976710656:=by
    have h1:=hf.1
    have e1:(i.bytes:Int)*n=((n.toNat*(C.tt e).bytes:Nat):Int):=by rw[g2b,Int.natCast_mul,Int.toNat_of_nonneg h0,Int.mul_comm]
    rw[e1];omega
   have hrun:=run_make (P:=C.P) w t e i zv (q0 hT he).1 g1 g3 kl kc n n h0 (Int.le_refl _) hby ax
   have hw: ∀r∈List.replicate (uD n) (C.tt e).zero,r.length=(C.tt e).size:=fun r hr=>by rw[List.eq_of_mem_replicate hr];exact z2
   have hlen:(List.replicate (uD n) (C.tt e).zero).length=n.toNat:=by simp[uD]
   have hvl:(madeCells zv.cells (n.toNat*i.size)).toList.length=(List.replicate (uD n) (C.tt e).zero).length*(C.tt e).size:=by rw[hlen];simp[madeCells,g2]
   have hval: ∀{j:Nat} {v:Value},(madeCells zv.cells (n.toNat*i.size)).toList[j]?=some v→zv.cells[j % (C.tt e).size]?=some v:=fun {j v} hj=>by
    have hlt:j<n.toNat*i.size:=by have:=(List.getElem?_eq_some_iff.1 hj).1;simpa [madeCells] using this
    simp[madeCells,hlt] at hj;have hm:j % zv.cells.size<zv.cells.size:=Nat.mod_lt _ (by rw[hzs];exact hpos);rw[getElem!_pos zv.cells _ hm] at hj;rw[←hj,←hzs,qw hm]
   have p:jD w φ st st (c6 (if true=true then .deep else .snap) (List.replicate (uD n) (C.tt e).zero).flatten (madeCells zv.cells (n.toNat*i.size)).toList) (fun _ _=>False) (fun _=>False):=by
    refine⟨fun j it hj=> ?_,fun _ _ _ hk=>hk.elim,fun _ hk=>hk.elim,fun _ _ _ _ _ hk=>hk.elim,dg.refl _⟩;obtain⟨tc,v,h1,h2,rfl⟩:=kf hj;have Qj:=Gc hpos hw h1
    have LZ:(C.tt e).zero[j % (C.tt e).size]?=some tc:=by
     unfold sW at Qj
     cases hrow:(List.replicate (uD n) (C.tt e).zero)[j/(C.tt e).size]? with
     |none=>rw[hrow] at Qj;cases Qj
     |some row=>
      rw[hrow] at Qj;rw[List.eq_of_mem_replicate (fC hrow)] at Qj;exact Qj
    have hv:=hval h2;rw[←Gl,z1,gY,LZ] at hv;simp only[jB,aU] at hv;subst hv;exact Sw (List.all_eq_true.1 z3 tc (fC LZ))
   have sx:=B4 (w':=w.alloc (.cells (madeCells zv.cells (n.toNat*i.size)) e)) (d:=d) h h p hpos hw hvl (c:=n.toNat) (by rw[hlen];exact bI _) (by simp only[maxLen];omega) (jE.alloc w _) eO (fun j v hj=>by
    rw[oF];simpa using hj) (fun j hj=>⟨⟨_,by rw[oF];exact qw (by rw[size_madeCells,g2];exact hj)⟩,iA _ _ _ _⟩) (fun _ i=>iA _ _ _ _) (hd d iW)
   rw[hlen] at sx;refine⟨.value _,_,_,_,?_,.inl rfl,by rw[iW];exact sx,hk2,by simp,fun k hk _=>(jE.alloc w _).block k hk⟩;unfold execOp;rw[ho];simp only[hkl,hkc,Sem.run_bind,hrun,Result.andThen]
   rfl
  ·exact hk2.elim
 ·exact hk.elim
end Go.T
namespace Go.T
variable {F : Nat → Prop} {A : Arg} {w0 w w' : World} {φ φ' : Fp} {st st' sta cG lR : TS} {tm AK : Array Value} {C : jC}
variable {R : Type} {cf : Cf} {lp : Lp} {Q : R → Prop}
theorem JH (w:World) (arr:Array Value) (t:TypeId) (fr:Nat×Nat) (j:Nat):(w.alloc (.cells arr t fr)).cell? ⟨w.heap.size,j,none⟩=arr[j]?:=by
 unfold World.cell?;simp only[heap_alloc_new]
 rfl
theorem MF (w:World) (arr:Array Value) (t:TypeId) (fr:Nat×Nat) (j:Nat) (h:j<fr.1):(w.alloc (.cells arr t fr)).frozen? ⟨w.heap.size,j,none⟩=false:=by
 unfold World.frozen?;simp only[heap_alloc_new];obtain⟨a,b⟩:=fr;simp only at h ⊢;simp;omega
attribute [local semireducible] Am in
theorem GP (s:ByteArray):Am s=s.data.toList.map fun b=>[TC.sc (.int .u8 b.toNat)]:=rfl
theorem Om (s:ByteArray):(Am s).flatten=s.data.toList.map fun b=>TC.sc (.int .u8 b.toNat):=by
 rw[GP]
 induction s.data.toList with
 |nil=>rfl
 |cons b r ih=>simp only[List.map_cons,rm,ih];rfl
theorem mG (s:ByteArray):(Am s).length=s.size:=by rw[GP,dB,rj];rfl
theorem Er (s:ByteArray): ∀r∈Am s,r.length=1:=fun r hr=>by
 rw[GP] at hr;obtain⟨_,_,rfl⟩:=List.mem_map.1 hr
 rfl
theorem JI (s:ByteArray) (M:Mode) (st:TS):jD w φ st st (c6 M (Am s).flatten (byteCells s)) (fun _ _=>False) (fun _=>False):=by
 refine⟨fun j it hj=> ?_,fun _ _ _ hk=>hk.elim,fun _ hk=>hk.elim,fun _ _ _ _ _ hk=>hk.elim,dg.refl _⟩;obtain⟨tc,v,h1,h2,rfl⟩:=kf hj;rw[Om,gY] at h1;unfold byteCells at h2;rw[gY] at h2
 cases hb:s.data.toList[j]? with
 |none=>rw[hb] at h1;cases h1
 |some b=>
  rw[hb] at h1 h2;simp only[jB,aU] at h1 h2;subst h1 h2;exact .sc _ _ _ trivial
attribute [local semireducible] fits in
theorem PR {n b:Nat} (h:fits n b=true):n*b≤140737488355328∧n≤140737488355328:=ry h
theorem Sx (hT:ef C) {a:Act} (h:aH F A w0 φ st a.tmps w) {o:Oper} {src dst:TypeId} {x:Operand} (ho:o.op= .convert src dst x) {K:TS→Ev R} (hd: ∀d,o.dst=some d→d<a.tmps.size) (hk:(mm C st o K).holds cf lp Q):NP C F A w0 φ st o a w K cf lp Q:=by
 have C3:=hk;unfold mm at hk;rw[ho] at hk;simp only at hk
 split at hk
 ·rename_i et hdt hst
  split at hk
  ·rename_i d s iW hu hs
   have hv:=KG (de hT h src x) hs;have hrun:=run_bytes_of_string (P:=C.P) w src dst et s (GJ hT hst) (GK hT hdt).1 (KN hT hu);have hge:=grownCap_ge w s.size 0 et
   have hsz:(bytesRow s (grownCap w s.size 0 et)).size=grownCap w s.size 0 et:=by
    have:s.data.size=s.size:=rfl;simp[bytesRow,this];omega
   have hk2:(match fits s.size 1 with|true=>K (sE d ⟨true,1,Am s⟩ st)|false=> .fail:Ev R).holds cf lp Q:=hk;clear hk
   split at hk2
   ·rename_i hfit
    have hbig:s.size≤maxLen:=by
     have:s.size*1≤140737488355328∧s.size≤140737488355328:=PR hfit;simp only[maxLen];omega
    have sx:=B4 (w':=w.drew.alloc (.cells (bytesRow s (grownCap w s.size 0 et)) et ((bytesRow s (grownCap w s.size 0 et)).size,(bytesRow s (grownCap w s.size 0 et)).size+1))) (d:=d) (dp:=true) (z:=1) h h (JI s _ st)
     Nat.one_pos (Er s) (by rw[byteCells_length,mG,Nat.mul_one]) (c:=grownCap w s.size 0 et) (by rw[mG];exact hge) (grownCap_le_maxLen w s.size 0 et hbig) ((jE.drew w).trans (jE.alloc _ _)) eO
     (fun j v hj=>by
       have hj0:=hj
       have hjl:j<s.size:=by have:=(List.getElem?_eq_some_iff.1 hj).1;rwa [byteCells_length] at this
       show(w.drew.alloc _).cell? ⟨w.drew.heap.size,j,none⟩=_;rw[JH];unfold bytesRow;rw[Array.getElem?_append_left (by rw[Array.size_map];exact hjl)];unfold byteCells at hj0
       simpa using hj0)
     (fun j hj=>by
       rw[Nat.mul_one] at hj;show(∃x,(w.drew.alloc _).cell? ⟨w.drew.heap.size,j,none⟩=_)∧(w.drew.alloc _).frozen? ⟨w.drew.heap.size,j,none⟩=_
       exact⟨⟨_,by rw[JH];exact qw (by rw[hsz];exact hj)⟩,MF _ _ _ _ _ (by simp only[hsz];exact hj)⟩) (fun Rt=>absurd Rt ax) (hd d iW)
    rw[mG] at sx;refine⟨.value _,_,_,_,?_,.inl rfl,by rw[iW];exact sx,hk2,by simp,fun k hk _=>((jE.drew w).trans (jE.alloc _ _)).block k hk⟩;unfold execOp;rw[ho];simp only[hv,Sem.run_bind,hrun,Result.andThen]
    rfl
   ·exact hk2.elim
  ·exact hk.elim
 ·exact PM hT h hd hk
theorem GQ {Rd S:Nat→Prop} {m:Mode} {z:Nat} {rows:List (List TC)} {v:Value} (hr:ai w Rd m S (.sub z rows) v) {tx e':TypeId} (hk:C.P.underlying tx=some (.slice e')) {size:Nat} (hsz:size=z) {vs:List Value} (hl:vs.length=rows.length*z)
 (hcell: ∀ad n c,v= .slice (some ad) n c→ ∀(j:Nat) (x:Value),vs[j]?=some x→w.cell? (ad.add j)=some x) (h1: ∀x∈vs,x.oneCell'=true):Src C.P size tx v rows.length vs w:=by
 subst hsz
 cases hr with
 |sub _ _ _ _ Ad c u T k hn=>
  cases Ad with
  |none=>
   have hne:rows=[]:=Classical.byContradiction fun hne=>by obtain⟨ad,h⟩:=k.addr hne;cases h
   subst hne;have:vs=[]:=yq (by simpa using hl);subst this;exact Src.ofNil w hk c
  |some ad=>exact Src.ofSlice w hk ad _ c vs hl (hcell ad _ _ rfl) h1
theorem ai.vals {Rd S:Nat→Prop} {m:Mode} {z:Nat} {rows:List (List TC)} {v:Value} (hr:ai w Rd m S (.sub z rows) v): ∃vals:List Value,vals.length=rows.length*z∧(∀r∈rows,r.length=z)∧0<z∧
 (∀ad n c,v= .slice (some ad) n c→ ∀(j:Nat) (x:Value),vals[j]?=some x→w.cell? (ad.add j)=some x)∧ ∀(p:Nat) (tc:TC) (x:Value),rows.flatten[p]?=some tc→vals[p]?=some x→ ∃T,ai w Rd m.nx T tc x:=by
 cases hr with
 |sub _ _ _ _ Ad c u T k hn=>
  have hz:=k.z0;have hfl:=bL k.width;refine⟨(List.range (rows.length*z)).map fun p=>u (p/z) (p % z),by simp,k.width,hz,?_,fun p tc x h1 h2=> ?_⟩
  ·intro ad n c' e j x hx
   cases e
   have hlt:j<rows.length*z:=by have:=(List.getElem?_eq_some_iff.1 hx).1;simpa using this
   simp[hlt] at hx;subst hx;obtain⟨tc,Rv⟩: ∃tc,rows.flatten[j]?=some tc:=⟨_,aZ (by rw[hfl];exact hlt)⟩;have:=k.cell ad rfl _ _ tc (Gc hz k.width Rv);rw[BD j z] at this;exact this
  ·have hlt:p<rows.length*z:=by have:=(List.getElem?_eq_some_iff.1 h2).1;simpa using this
   simp[hlt] at h2;subst h2;exact⟨_,hn _ _ tc (Gc hz k.width h1)⟩
theorem JJ (hT:ef C) {t t' ty e:TypeId} {P:Program} (hP:P=C.P) (ht:P.underlying t=some (.slice e)) (LX:uH (C.tt e)=true) (h0:aH F A w0 φ st tm w) (h1:aH F A w0 φ cG tm w) {d:Nat} (hd:d<tm.size) {dp:Bool} {z:Nat} (hz:z=(C.tt e).size)
 {rows aO:List (List TC)} {zp wS:List Value} {X1 X2:Nat→Nat→Prop} {Z1 Z2:Nat→Prop} (p1:jD w φ st sta (c6 (if dp then .deep else .snap) rows.flatten zp) X1 Z1) (p2:jD w φ sta cG (c6 (if dp then .deep else .snap) aO.flatten wS) X2 Z2)
 (hw1: ∀r∈rows,r.length=z) (Jn: ∀r∈aO,r.length=z) (C4:zp.length=rows.length*z) (AL:wS.length=aO.length*z) {Ad:Option Addr} {c:Nat} (hc:rows.length≤c) (NR:c≤maxLen) {x:Value} (hs:Src P z t' x aO.length wS w)
 (hA:(Ad=none∧rows=[]∧c=0)∨ ∃ad,Ad=some ad∧ad.spot=none∧(∃o,aA st.ob o∧ ¬aA sta.ob o∧φ.S o ad.block)∧(∀(j:Nat) (v:Value),zp[j]?=some v→w.cell? (ad.add j)=some v)∧
   (∀j,j<c*z→(∃x,w.cell? ⟨ad.block,ad.off+j,none⟩=some x)∧w.frozen? ⟨ad.block,ad.off+j,none⟩=false)∧(∀i k,X1 i k→k≠ad.block)∧(∀k,Z1 k→k≠ad.block)∧(1<z→ ∀i,w.frozen? ⟨ad.block,i,none⟩=false))
 (hf:fits (rows.length+aO.length) (C.tt e).bytes=true):
 ∃v w',(Builtin.append_ #[t,t'] ty #[.slice Ad rows.length c,x]).run P w= .ok v w'∧Rel F A w0 (sE d ⟨dp,z,rows++aO⟩ cG) (tm.setIfInBounds d v) w'∧w.heap.size≤w'.heap.size∧ ∀k,k<w.heap.size→(∀ad,Ad=some ad→k≠ad.block)→w'.heap[k]?=w.heap[k]?:=by
 subst hP;obtain⟨Ue,Ya⟩:=PR hf;obtain⟨hkn,hnp⟩:=vm LX;obtain⟨i,zv,g1,g2,g2b,g3,g4⟩:=(hT e hkn).info;obtain⟨z1,z2,z3,_⟩:=g4 hnp;have hpos:=(hT e hkn).pos
 have hzs:zv.cells.size=(C.tt e).size:=by rw[←rj,z1];simpa using z2
 have LZ:0<z:=by omega
 have isz:i.size=z:=by rw[g2,hz]
 have p:=p1.app h0 p2;have XI:=bL hw1;have Zh:=bL Jn;rw[←uJ (by rw[XI,C4]),←Jq] at p;have Zi: ∀r∈rows++aO,r.length=z:=fun r hr=>(List.mem_append.1 hr).elim (hw1 r) (Jn r)
 have XJ:(zp++wS).length=(rows++aO).length*z:=by rw[bX,bX,nc,C4,AL]
 have hs':Src C.P i.size t' x aO.length wS w:=by rw[isz];exact hs
 have big:rows.length+aO.length≤maxLen:=by simp only[maxLen];omega
 have grow:c<rows.length+aO.length→(∃olds:List Value,olds=zp∧(Builtin.firstCells i.size rows.length (.slice Ad rows.length c)).run C.P w.drew= .ok olds.toArray w.drew)→
  ∃v w',(Builtin.append_ #[t,t'] ty #[.slice Ad rows.length c,x]).run C.P w= .ok v w'∧Rel F A w0 (sE d ⟨dp,z,rows++aO⟩ cG) (tm.setIfInBounds d v) w'∧w.heap.size≤w'.heap.size∧ ∀k,k<w.heap.size→(∀ad,Ad=some ad→k≠ad.block)→w'.heap[k]?=w.heap[k]?:=fun hg ⟨olds,ho,Wi⟩=>by
  rw[ho] at Wi;have hr:=run_append_grow_src (P:=C.P) w t t' ty e i zv ht g1 g3 Ad rows.length c zp Wi x aO.length wS hs' hg (by simp only[maxLen] at big;omega) (growslice_fits hg (by rw[g2b];exact Ue));have hge:=grownCap_ge w (rows.length+aO.length) c e;have Zj:=grownCap_le_maxLen w (rows.length+aO.length) c e big
  have hsize:((zp++wS).toArray++Builtin.zeroCells zv.cells (grownCap w (rows.length+aO.length) c e-(rows.length+aO.length))).size=grownCap w (rows.length+aO.length) c e*z:=by
   rw[Array.size_append,size_zeroCells,List.size_toArray,XJ,hzs,←hz,bX,←nc]
   congr 1;omega
  have sx:=B4 (w':=w.drew.alloc (.cells ((zp++wS).toArray++Builtin.zeroCells zv.cells (grownCap w (rows.length+aO.length) c e-(rows.length+aO.length))) e)) (d:=d) h0 h1 p LZ Zi XJ
   (c:=grownCap w (rows.length+aO.length) c e) (by rw[bX];exact hge) Zj ((jE.drew w).trans (jE.alloc _ _)) eO
   (fun j v hj=>by
     have hlt:=(List.getElem?_eq_some_iff.1 hj).1;have e1:=oF w.drew ((zp++wS).toArray++Builtin.zeroCells zv.cells (grownCap w (rows.length+aO.length) c e-(rows.length+aO.length))) e j;refine e1.trans ?_;rw[Array.getElem?_append_left (by simpa using hlt)]
     simpa using hj)
   (fun j hj=>⟨⟨_,(oF w.drew _ e j).trans (qw (by rw[hsize];exact hj))⟩,iA w.drew _ e j⟩) (fun _ i=>iA w.drew _ e i) hd
  rw[bX] at sx;exact⟨_,_,hr,sx,by simp,fun k hk _=>((jE.drew w).trans (jE.alloc _ _)).block k hk⟩
 rcases hA with⟨rfl,rfl,rfl⟩|⟨ad,rfl,qE,hob,hcell,hall,hX1,hZ1,Ip⟩
 ·by_cases hn:aO.length=0
  ·have XE:aO=[]:=yq hn
   subst XE;have Wl:wS=[]:=yq (by simpa using AL);subst Wl;exact⟨_,w,run_append_nothing w t t' ty e i ht g1 none _ _ (bI _) x hs',QF h1 LZ hd,bI _,fun _ _ _=>rfl⟩
  ·refine grow j8 ⟨_,rfl,?_⟩
   have Wl:zp=[]:=yq (by simpa using C4);subst Wl;exact run_firstCells_none w.drew i.size 0 0 0
 ·have hX2: ∀i k,i<aO.length*z→X2 i k→k≠ad.block:=fun i k hi hk e=>by
   subst e;obtain⟨o,o1,o2,o3⟩:=hob;obtain⟨o',q1,q2,q3⟩:=(p2.src i _ (by rw[fR (by rw[Zh,AL]),Zh];exact hi) hk).2;have:=h0.sep.apart o o' _ o1 (p1.sub.dom q1) o3 q3;subst this;exact o2 q1
  have hZ2: ∀k,Z2 k→k≠ad.block:=fun k hk e=>by
   subst e;obtain⟨o,o1,o2,o3⟩:=hob;obtain⟨o',q1,q2,q3⟩:=p2.srcZ _ hk;have:=h0.sep.apart o o' _ o1 (p1.sub.dom q1) o3 q3;subst this;exact o2 q1
  by_cases hroom:rows.length+aO.length≤c
  ·have inb: ∀j,j<wS.length→rows.length*z+j<c*z:=fun j hj=>by
    have:rows.length*z+aO.length*z≤c*z:=by rw[←nc];exact jZ _ hroom
    omega
   have had:(⟨ad.block,ad.off,none⟩:Addr)=ad:=by cases ad;simp_all
   have hr:=run_append_room_src (P:=C.P) w t t' ty e i ht g1 ad.block ad.off rows.length c x aO.length wS hs' hroom
    (fun j hj=>by obtain⟨⟨y,hy⟩,_⟩:=hall _ (inb j hj);rw[isz,jA,hy];rfl) (fun j hj=>by obtain⟨_,hy⟩:=hall _ (inb j hj);rw[isz,jA];exact hy)
   rw[had,isz] at hr
   have XK: ∃o,aA st.ob o∧ ¬aA cG.ob o∧φ.S o ad.block:=let ⟨o,o1,o2,o3⟩:=hob;⟨o,o1,fun hd=>o2 (p2.sub.dom hd),o3⟩
   have fr:=h0.free p.sub XK;obtain⟨s1,s2,s3,s4⟩:=jh ad.block wS (ad.off+rows.length*z) w
   have Zk: ∀j,j<c*z→(∃x,(w.setCells ad.block (ad.off+rows.length*z) wS).cell? ⟨ad.block,ad.off+j,none⟩=some x)∧(w.setCells ad.block (ad.off+rows.length*z) wS).frozen? ⟨ad.block,ad.off+j,none⟩=false:=fun j hj=>by
    obtain⟨⟨y,hy⟩,hz⟩:=hall j hj;exact⟨Option.isSome_iff_exists.1 (World.isSome_setCells _ _ _ w _ (by rw[hy];rfl)),by rw[World.frozen?_setCells];exact hz⟩
   have hcl: ∀{i k:Nat},i<(rows++aO).length*z→(if i<(c6 (if dp=true then Mode.deep else .snap) rows.flatten zp).length then X1 i k else X2 (i-(c6 (if dp=true then Mode.deep else .snap) rows.flatten zp).length) k)→k≠ad.block:=fun {i k} hi hk=>by
    rw[fR (by rw[XI,C4]),XI] at hk
    by_cases hlt:i<rows.length*z
    ·rw[aP hlt] at hk;exact hX1 i k hk
    ·rw[aF hlt] at hk;exact hX2 _ k (by rw[bX,nc] at hi;omega) hk
   have sx:=St (w':=w.setCells ad.block (ad.off+rows.length*z) wS) (d:=d) h0 h1 p LZ Zi XJ (ad:=ad) (c:=c) (by rw[bX];exact hroom) NR qE (h0.frm.setCells fr.new) (by rw[s4];exact bI _)
    (G:=fun k=>k=ad.block) (fun k hk hn=>dV _ _ _ _ hk hn) (fun k hk=>by subst hk;exact XK) (fun k hk=>by
      have:k≠ad.block:=hk.elim (hZ1 k) (hZ2 k)
      exact⟨this,this⟩) (fun i k hi hk=>⟨hcl hi hk,hcl hi hk⟩) (.inr XK) (fun j v hj=>by
      rw[qL j qE]
      by_cases hlt:j<rows.length*z
      ·rw[World.cell?_setCells_out _ _ _ _ _ (fun _ _=>by simp only;omega),←qL j qE]
       rw[iR ax] at hj;exact hcell j v hj
      ·rw[kr ax,C4] at hj
       have Zl:=(List.getElem?_eq_some_iff.1 hj).1
       have:=World.cell?_setCells_in ad.block wS (ad.off+rows.length*z) w (fun j' hj'=>by
        obtain⟨⟨y,hy⟩,_⟩:=hall _ (inb j' hj');rw[jA,hy];rfl) (j-rows.length*z) Zl
       rw[show ad.off+rows.length*z+(j-rows.length*z)=ad.off+j by omega] at this;rw[this];rw[aZ Zl] at hj
       exact hj) Zk (fun Rt i=>by rw[World.frozen?_setCells];exact Ip Rt i) hd
   rw[bX] at sx;exact⟨_,_,hr,sx,by rw[s4];exact bI _,fun k hk hn=>dV _ _ _ _ hk (hn ad rfl)⟩
  ·refine grow ax ⟨zp,rfl,?_⟩
   exact run_firstCells_some w.drew i.size rows.length ad rows.length c zp (by rw[isz];exact C4) (by simpa using hcell)
end Go.T
namespace Go.T
structure yK where
 tc:TC
 val:Value
 own:Nat→Prop
def yK.ok (w:World) (t:yK):Prop:=ai w (fun _=>False) .deep t.own t.tc t.val
def yK.apart (a b:yK):Prop:= ∀k,a.own k→ ¬b.own k
theorem yK.On {a b:yK} (h:yK.apart a b):yK.apart b a:=fun k hb ha=>h k ha hb
def KW (w:World) (b off:Nat) (L:List Value):Prop:= ∀k y,L[k]?=some y→w.cell? ⟨b,off+k,none⟩=some y
def VY (w:World) (b off n:Nat):Prop:= ∀j,j<n→w.frozen? ⟨b,off+j,none⟩=false
theorem ai.noR {w:World} {R R' S:Nat→Prop} {c:TC} {v:Value} (h:ai w R .deep S c v):ai w R' .deep S c v:=by
 generalize hm:Mode.deep=m at h
 induction h with
 |any _ _ _ h=>exact .any _ _ _ h
 |sc _ _ _ h=>exact .sc _ _ _ h
 |sub m S z rows A c u T h hn ih=>
  subst hm;exact .sub _ _ z rows A c u T {h with read:=fun hm=>by cases hm} fun i f tc ht=>ih i f tc ht rfl
structure nU (w:World) (S:Nat→Prop) (z:Nat) (rows:List (List TC)) (v:Value) (A:Option Addr) (c:Nat) (cc:List yK):Prop where
 val:v= .slice A rows.length c
 le:rows.length≤c
 cap:c≤maxLen
 z0:0<z
 width: ∀r∈rows,r.length=z
 tcs:rows.flatten=cc.map (·.tc)
 ok: ∀t∈cc,t.ok w
 lW:cc.Pairwise yK.apart
 sub: ∀t∈cc,∀k,t.own k→S k∧ ∀ad,A=some ad→k≠ad.block
 none:A=none→c=0
 row: ∀ad,A=some ad→S ad.block∧ad.spot= .none∧(∃sp,KW w ad.block ad.off (cc.map (·.val)++sp)∧(cc.map (·.val)++sp).length=c*z)∧VY w ad.block ad.off (c*z)∧(1<z→ ∀i,w.frozen? ⟨ad.block,i,.none⟩=false)
theorem ai.opened {w:World} {R S:Nat→Prop} {z:Nat} {rows:List (List TC)} {v:Value} (h:ai w R .deep S (.sub z rows) v): ∃A c cc,nU w S z rows v A c cc:=by
 cases h with
 |sub _ _ _ _ A c u T k hn=>
  have hz:=k.z0;have hfl:=bL k.width;have Qj: ∀p tc,rows.flatten[p]?=some tc→sW rows (p/z) (p % z)=some tc:=fun p tc h=>Gc hz k.width h;refine⟨A,c,(List.range (rows.length*z)).map fun p=>⟨rows.flatten.getD p default,u (p/z) (p % z),T (p/z) (p % z)⟩,rfl,k.len,k.cap,hz,k.width,?_,?_,?_,?_,(k.own eO).1,?_⟩
  ·apply List.ext_getElem
   ·simp[hfl]
   ·intro p h1 h2
    simp only[List.getElem_map,List.getElem_range,u6,aZ h1];rfl
  ·intro t ht
   obtain⟨p,hp,rfl⟩:=List.mem_map.1 ht;have hp:=List.mem_range.1 hp
   have hs:rows.flatten[p]?=some (rows.flatten.getD p default):=by
    rw[u6,aZ ax];rfl
   exact(hn _ _ _ (Qj p _ hs)).noR
  ·rw[List.pairwise_map]
   refine(List.nodup_range (n:=rows.length*z)).imp_of_mem ?_;intro a b ha hb hab k' h1 h2;have:=(k.lW rfl _ _ _ h1).2.2 _ _ h2
   apply hab
   rw[←BD a z,←BD b z,this.1,this.2]
  ·intro t ht k' hk
   obtain⟨p,hp,rfl⟩:=List.mem_map.1 ht;exact⟨(k.lW rfl _ _ _ hk).1,(k.lW rfl _ _ _ hk).2.1⟩
  ·intro ad ha
   obtain⟨hS,hs,hc⟩:=(k.own eO).2 ad ha;refine⟨hS,hs,⟨(List.range (c*z-rows.length*z)).map fun j=>(w.cell? ⟨ad.block,ad.off+(rows.length*z+j),.none⟩).getD default,?_,?_⟩,fun j hj=>(hc j hj).2,fun h1 i=>k.soft eO h1 ad ha i⟩
   ·intro j y hj
    by_cases hl:j<rows.length*z
    ·rw[iR (by simpa using hl)] at hj
     simp[hl] at hj;subst hj
     have Zd:rows.flatten[j]?=some (rows.flatten.getD j default):=by
      rw[u6,aZ ax];rfl
     have:=k.cell ad ha _ _ _ (Qj j _ Zd);rw[BD j z] at this;obtain⟨b0,o0,s0⟩:=ad
     cases hs
     rwa [Addr.add_lit] at this
    ·rw[kr (by simpa using hl)] at hj
     have hlt:=(List.getElem?_eq_some_iff.1 hj).1;simp at hj hlt
     obtain⟨q1,rfl⟩:=by simpa [hlt] using hj
     obtain⟨x,hx⟩:=(hc j ax).1;rw[show rows.length*z+(j-rows.length*z)=j by omega,hx];rfl
   ·have:=jZ z k.len
    simp;omega
theorem nU.rep {w:World} {S:Nat→Prop} {z:Nat} {rows:List (List TC)} {v:Value} {A:Option Addr} {c:Nat} {cc:List yK} (h:nU w S z rows v A c cc) {R:Nat→Prop}:ai w R .deep S (.sub z rows) v:=by
 rw[h.val];have hfl:=bL h.width
 have RD:cc.length=rows.length*z:=by have:=congrArg List.length h.tcs;rw[hfl,dB] at this;exact this.symm
 have wR: ∀{i f:Nat} {tc:TC},sW rows i f=some tc→ ∃t,cc[i*z+f]?=some t∧t.tc=tc∧f<z∧i<rows.length:=fun {i f tc} ht=>by
  obtain⟨h1,h2,h3⟩:=rG h.width ht;rw[h.tcs,gY] at h1
  cases hq:cc[i*z+f]? with
  |none=>rw[hq] at h1;cases h1
  |some t=>rw[hq] at h1;exact⟨t,rfl,by simpa using h1,h2,h3⟩
 have aa9: ∀{i f i' f':Nat},f<z→f'<z→i*z+f=i'*z+f'→i=i'∧f=f':=fun {i f i' f'} h1 h2 e=>by
  have e1:(i*z+f)/z=i:=by rw[Nat.mul_comm,Nat.mul_add_div h.z0,Nat.div_eq_of_lt h1,oX]
  have e2:(i'*z+f')/z=i':=by rw[Nat.mul_comm,Nat.mul_add_div h.z0,Nat.div_eq_of_lt h2,oX]
  have:i=i':=by rw[←e1,e,e2]
  subst this;exact⟨rfl,by omega⟩
 refine .sub _ _ z rows A c (fun i f=>(cc[i*z+f]?.map (·.val)).getD default) (fun i f k=>f<z∧ ∃t,cc[i*z+f]?=some t∧t.own k) ⟨h.le,h.cap,h.z0,h.width,?_,?_,fun hm=>(by cases hm),fun _=>⟨h.none,?_⟩,?_,?_⟩ ?_
 ·intro hne
  cases hA:A with
  |none=>
   have h1:=h.none hA;have h2:=h.le;rw[h1] at h2;exact absurd (yq ax) hne
  |some ad=>exact⟨ad,rfl⟩
 ·intro ad ha i f tc ht
  obtain⟨t,h1,rfl,h2,h3⟩:=wR ht;obtain⟨_,hs,⟨sp,hr,_⟩,_⟩:=h.row ad ha;have:=hr (i*z+f) t.val (by rw[iR (by rw[dB];exact(List.getElem?_eq_some_iff.1 h1).1),gY,h1];rfl);obtain⟨b0,o0,s0⟩:=ad
  cases hs
  rw[Addr.add_lit,h1];exact this
 ·intro ad ha
  obtain⟨hS,hs,⟨sp,hr,hl⟩,hf,_⟩:=h.row ad ha;refine⟨hS,hs,fun j hj=>⟨⟨_,hr j _ (aZ (by rw[hl];exact hj))⟩,hf j hj⟩⟩
 ·intro _ h1 ad ha i
  exact(h.row ad ha).2.2.2.2 h1 i
 ·rintro _ i f k ⟨hf,t,ht,hk⟩
  have hm:=fC ht;refine⟨(h.sub t hm k hk).1,(h.sub t hm k hk).2,fun i' f'=> ?_⟩;rintro⟨hf',t',ht',hk'⟩
  by_cases e:i*z+f=i'*z+f'
  ·have:=aa9 hf hf' e
   exact⟨this.1.symm,this.2.symm⟩
  ·have hp:=List.pairwise_iff_getElem.1 h.lW
   obtain⟨l1,e1⟩:=List.getElem?_eq_some_iff.1 ht;obtain⟨l2,e2⟩:=List.getElem?_eq_some_iff.1 ht';rcases Nat.lt_or_gt_of_ne e with hlt|hlt
   ·exact absurd hk' (by have:=hp _ _ l1 l2 hlt;rw[e1,e2] at this;exact this k hk)
   ·exact absurd hk (by have:=hp _ _ l2 l1 hlt;rw[e1,e2] at this;exact this k hk')
 ·intro i f tc ht
  obtain⟨t,h1,rfl,h2,h3⟩:=wR ht;have:=h.ok t (fC h1)
  have e:(cc[i*z+f]?.map (·.val)).getD default=t.val:=by rw[h1];rfl
  show ai w R .deep _ t.tc ((cc[i*z+f]?.map (·.val)).getD default);rw[e];exact ai.mono (ai.noR this) fun k hk=>⟨h2,t,h1,hk⟩
theorem KW.put {w:World} {b off:Nat} {L us:List Value} (h:KW w b off L) {p:Nat} (hp:p+us.length≤L.length):KW (w.setCells b (off+p) us) b off (L.take p++us++L.drop (p+us.length)):=by
 intro k y hk
 have hs: ∀j,j<us.length→(w.cell? ⟨b,off+p+j,none⟩).isSome=true:=fun j hj=>by
  rw[jA,h (p+j) _ (aZ ax)];rfl
 by_cases h1:k<p
 ·rw[oU,iR (by rw[dj];omega),Bz,aP h1] at hk
  rw[World.cell?_setCells_out b us _ _ _ (fun _ _=> .inl (by show off+k<off+p;omega))];exact h k y hk
 ·by_cases h2:k<p+us.length
  ·rw[oU,kr (by rw[dj];omega),iR (by rw[dj];omega),dj,Nat.min_eq_left ax] at hk
   have hl:k-p<us.length:=by omega
   have:=World.cell?_setCells_in b us (off+p) w hs (k-p) hl;rw[show off+p+(k-p)=off+k by omega] at this;rw[this,←hk,aZ hl]
  ·rw[kr (by rw[bX,dj];omega),lY,bX,dj,Nat.min_eq_left ax] at hk
   rw[World.cell?_setCells_out b us _ _ _ (fun _ _=> .inr (by show off+p+us.length≤off+k;omega))];exact h k y (by rw[←hk];congr 1;omega)
theorem MG {w:World} {b o:Nat} {y:Value} (h:w.cell? ⟨b,o,none⟩=some y): ∃t k,w.shape? b=some (t,k)∧k≠0:=by
 unfold World.cell? at h;unfold World.shape?
 split at h
 ·rename_i c e fr hh
  rw[hh];refine⟨e,c.size,rfl,?_⟩;have:c[o]?=some y:=h;have:=(Array.getElem?_eq_some_iff.1 this).1;omega
 ·cases h
theorem BQ {w:World} {a:Addr} {y:Value} (h:w.cell? a=some y):a.block<w.heap.size:=by
 unfold World.cell? at h
 split at h
 ·rename_i hh;exact(Array.getElem?_eq_some_iff.1 hh).1
 ·cases h
end Go.T
namespace Go.T
variable {F : Nat → Prop} {A : Arg} {w0 w w' : World} {φ φ' φ1 : Fp} {st st' sta cG : TS} {tm AK : Array Value} {C : jC}
theorem wm {z:Nat}: ∀{rows:List (List TC)},(∀r∈rows,r.length=z)→ ∀i,(rows.take i).flatten=rows.flatten.take (i*z)
 |[],_,i=>by simp
 |r::rs,hw,0=>by simp
 |r::rs,hw,i+1=>by
  have hr:=hw r (.head _);rw[List.take_succ_cons,rm,rm,wm (fun r hr=>hw r (.tail _ hr)) i,sL,List.take_append,hr];rw[Gp (by omega:r.length≤i*z+z),show i*z+z-z=i*z by omega]
theorem wo {z:Nat}: ∀{rows:List (List TC)},(∀r∈rows,r.length=z)→ ∀i,(rows.drop i).flatten=rows.flatten.drop (i*z)
 |[],_,i=>by simp
 |r::rs,hw,0=>by simp
 |r::rs,hw,i+1=>by
  have hr:=hw r (.head _);rw[List.drop_succ_cons,rm,wo (fun r hr=>hw r (.tail _ hr)) i,sL,List.drop_append,hr];rw[Al (by omega:r.length≤i*z+z),oW,show i*z+z-z=i*z by omega]
def yK.out (t:yK):yK:=⟨.any,t.val,fun _=>False⟩
theorem Es {z:Nat}: ∀n,(List.replicate n (List.replicate z TC.any)).flatten=List.replicate (n*z) TC.any
 |0=>by simp
 |n+1=>by
  rw[List.replicate_succ,rm,Es n,sL,Nat.add_comm,List.replicate_append_replicate]
theorem UC (l:List yK):(l.map yK.out).map (·.tc)=List.replicate l.length .any:=by
 induction l with
 |nil=>rfl
 |cons a l ih=>rw[List.map_cons,List.map_cons,ih,ez,List.replicate_succ];rfl
theorem Sy (l:List yK):(l.map yK.out).map (·.val)=l.map (·.val):=by
 rw[List.map_map];rfl
attribute [local semireducible] fD bg in
theorem nU.move {S:Nat→Prop} {z:Nat} {rows:List (List TC)} {v:Value} {Ad:Option Addr} {c:Nat} {cc:List yK} (o:nU w S z rows v Ad c cc) {l h:Int} (h0:0≤l) (h1:l≤h) (h2:h≤rows.length):
 ∃Zm itm:List yK,nU w (fun k=>S k∧ ¬ ∃t∈itm,t.own k) z (fD z rows l h) v Ad c Zm∧(fD z rows l h).length=rows.length∧(bg rows l h).flatten=itm.map (·.tc)∧itm.map (·.val)=((cc.map (·.val)).take (h.toNat*z)).drop (l.toNat*z)∧
  (∀t∈itm,t.ok w∧ ∀k,t.own k→S k∧ ∀ad,Ad=some ad→k≠ad.block)∧itm.Pairwise yK.apart∧(∀r∈bg rows l h,r.length=z):=by
 obtain⟨a,ha⟩: ∃a,a=l.toNat:=⟨_,rfl⟩;obtain⟨b,hb⟩: ∃b,b=h.toNat:=⟨_,rfl⟩
 have hab:a≤b:=by omega
 have RC:b≤rows.length:=by omega
 have lt:=o.width
 have li:cc.length=rows.length*z:=by
  have:=congrArg List.length o.tcs;rw[bL o.width,dB] at this;exact this.symm
 have e1:=jZ z hab;have e2:=jZ z RC;obtain⟨i1,hi1⟩: ∃i1,i1=cc.take (a*z):=⟨_,rfl⟩;obtain⟨i2,hi2⟩: ∃i2,i2=(cc.take (b*z)).drop (a*z):=⟨_,rfl⟩;obtain⟨i3,hi3⟩: ∃i3,i3=cc.drop (b*z):=⟨_,rfl⟩
 have hsplit:cc=i1++i2++i3:=by
  rw[hi1,hi2,hi3];have q1:=BA (b*z) cc;have q2:=BA (a*z) (cc.take (b*z));rw[List.take_take,Nat.min_eq_left e1] at q2;rw[q2,q1]
 have l1:i1.length=a*z:=by rw[hi1,dj];omega
 have l2:i2.length=(b-a)*z:=by rw[hi2,gf,dj,Nat.sub_mul];omega
 have hd:=o.lW;rw[hsplit] at hd;obtain⟨d12,d3,d123⟩:=List.pairwise_append.1 hd;obtain⟨d1,d2,dc⟩:=List.pairwise_append.1 d12
 have m1: ∀t∈i1,t∈cc:=fun t ht=>by rw[hsplit];exact gr _ (gr _ ht)
 have m2: ∀t∈i2,t∈cc:=fun t ht=>by rw[hsplit];exact gr _ (lG _ ht)
 have m3: ∀t∈i3,t∈cc:=fun t ht=>by rw[hsplit];exact lG _ ht
 have hv:(i1++i2.map yK.out++i3).map (·.val)=cc.map (·.val):=by
  rw[hsplit];simp only[ot,Sy]
 have hlen:(fD z rows l h).length=rows.length:=by
  unfold fD;rw[←ha,←hb];simp only[bX,dj,List.length_replicate,gf];omega
 have hfl:(fD z rows l h).flatten=(i1++i2.map yK.out++i3).map (·.tc):=by
  unfold fD;rw[←ha,←hb,Jq,Jq,wm lt,wo lt,Es,ot,ot,UC,l2,o.tcs,hi1,hi3,yt,u9]
 have anyA: ∀t∈i2.map yK.out,∀k,¬t.own k:=fun t ht k hk=>by
  obtain⟨t0,_,rfl⟩:=List.mem_map.1 ht;exact hk
 refine⟨i1++i2.map yK.out++i3,i2,⟨?_,by rw[hlen];exact o.le,o.cap,o.z0,fun r hr=> ?_,hfl,fun t ht=> ?_,?_,fun t ht k hk=> ?_,o.none,fun ad e=> ?_⟩,hlen,?_,?_,fun t ht=>⟨o.ok t (m2 t ht),fun k hk=>o.sub t (m2 t ht) k hk⟩,d2,fun r hr=> ?_⟩
 ·rw[hlen];exact o.val
 ·unfold fD at hr
  rcases List.mem_append.1 hr with hr|hr
  ·rcases List.mem_append.1 hr with hr|hr
   ·exact lt r (sK hr)
   ·rw[List.eq_of_mem_replicate hr,List.length_replicate]
  ·exact lt r (qx hr)
 ·rcases List.mem_append.1 ht with ht|ht
  ·rcases List.mem_append.1 ht with ht|ht
   ·exact o.ok t (m1 t ht)
   ·obtain⟨t0,h0,rfl⟩:=List.mem_map.1 ht
    have:=o.ok t0 (m2 t0 h0);exact .any _ _ _ ⟨nT this,ai.cells this⟩
  ·exact o.ok t (m3 t ht)
 ·refine List.pairwise_append.2 ⟨List.pairwise_append.2 ⟨d1,?_,fun x hx y hy k _ hk=>anyA y hy k hk⟩,d3,fun x hx y hy=> ?_⟩
  ·rw[List.pairwise_map]
   exact d2.imp fun _ k hk=>hk.elim
  ·rcases List.mem_append.1 hx with hx|hx
   ·exact d123 x (gr _ hx) y hy
   ·exact fun k hk=>(anyA x hx k hk).elim
 ·rcases List.mem_append.1 ht with ht|ht
  ·rcases List.mem_append.1 ht with ht|ht
   ·exact⟨⟨(o.sub t (m1 t ht) k hk).1,fun⟨t',ht',hk'⟩=>dc t ht t' ht' k hk hk'⟩,(o.sub t (m1 t ht) k hk).2⟩
   ·exact(anyA t ht k hk).elim
  ·exact⟨⟨(o.sub t (m3 t ht) k hk).1,fun⟨t',ht',hk'⟩=>d123 t' (lG _ ht') t ht k hk' hk⟩,(o.sub t (m3 t ht) k hk).2⟩
 ·obtain⟨r1,r2,r3,r4⟩:=o.row ad e
  refine⟨⟨r1,fun⟨t,ht,hk⟩=>(o.sub t (m2 t ht) _ hk).2 ad e rfl⟩,r2,?_,r4⟩;rw[hv];exact r3
 ·unfold bg
  rw[←ha,←hb,wo (fun r hr=>lt r (sK hr)),wm lt,o.tcs,hi2,u9,yt]
 ·rw[←ha,←hb,hi2,u9,yt]
 ·unfold bg at hr
  exact lt r (sK (qx hr))
theorem aH.Yu (h:aH F A w0 φ st tm w) {o g:Nat} {z:Nat} {rows:List (List TC)} (hb:aa o st.ob=some ⟨true,z,rows⟩) {l hh:Int} (h0:0≤l) (h1:l≤hh) (h2:hh≤rows.length) (hg:g≠0) (Kn:g≠o):
 ∃φ2,aH F A w0 φ2 (AO g o ⟨true,z,rows⟩ l hh st) tm w∧φ2.β=φ.β∧(∀d,d≠g→φ2.V d=φ.V d)∧(∀d k,d≠g→φ2.S d k→φ.S d k)∧
  ∃vs X,vs.length=(bg rows l hh).length*z∧(∀r∈bg rows l hh,r.length=z)∧(∀vX,wX z rows.length l hh (φ.V o) vX→ ∀ad n c,vX= .slice (some ad) n c→ ∀(j:Nat) (x:Value),vs[j]?=some x→w.cell? (ad.add j)=some x)∧
   ∀sta:TS,aA sta.ob g→jD w φ2 sta (T.ku g sta) (c6 .deep (bg rows l hh).flatten vs) X (fun _=>False):=by
 have hin:aA st.ob o:=⟨_,hb⟩;have hO:ai w φ.I .deep (φ.S o) (.sub z rows) (φ.V o):=h.obj o _ hb;obtain⟨Ad,c,cc,op⟩:=hO.opened;obtain⟨Zm,itm,op',e1,e2,e3,e4,e5,e6⟩:=op.move h0 h1 h2;have hS: ∀t∈itm,∀k,t.own k→φ.S o k:=fun t ht k hk=>((e4 t ht).2 k hk).1
 have w1:=h.qi (w':=w) (b':=⟨true,z,fD z rows l hh⟩) (X:=fun k=>φ.S o k∧ ¬ ∃t∈itm,t.own k) hb rfl e1 op'.rep h.frm (bI _) (fun _ _ _=>rfl)
  (fun k hk=>h.sep.fresh o k hin hk.1) (fun k hk=>h.sep.read o k hin hk.1) (fun k d hk hne hd hs=>hne (h.sep.apart d o k hd hin hs hk.1)) (fun b cs Ej hw hk=>(h.sep.box b cs Ej hw).2.1 o hin hk.1)
 have mS: ∀d,aA (T.qi o ⟨true,z,fD z rows l hh⟩ st).ob d→aA st.ob d:=fun d hd=>by
  have:aA (kX o ⟨true,z,fD z rows l hh⟩ st.ob) d:=hd;rw[gv] at this;exact this.elim (fun e=>e▸hin) id
 have w2:=w1.yw (o:=g) (b:=⟨true,1,[]⟩) (X:=fun k=> ∃t∈itm,t.own k) (v:= .slice none 0 0) hg (tf (Nat.lt_succ_self 0)) (fun k ⟨t,ht,hk⟩=>h.sep.fresh o k hin (hS t ht k hk)) (fun k ⟨t,ht,hk⟩=>h.sep.read o k hin (hS t ht k hk))
  (fun k d ⟨t,ht,hk⟩ hne hd hs=>by
    by_cases e:d=o
    ·subst e
     have hs:(if d=d then φ.S d k∧ ¬ ∃t∈itm,t.own k else φ.S d k):=hs;rw[aP rfl] at hs;exact hs.2 ⟨t,ht,hk⟩
    ·rw[qA e] at hs
     exact e (h.sep.apart d o k (mS d hd) hin hs (hS t ht k hk)))
  (fun b cs Ej hw ⟨t,ht,hk⟩=>by
    obtain⟨cs0,hc0,_⟩:=eR _ b cs Ej
    exact(h.sep.box b cs0 hc0 hw).2.1 o hin (hS t ht _ hk))
 have lits:cc.length=rows.length*z:=by
  have:=congrArg List.length op.tcs;rw[bL op.width,dB] at this;exact this.symm
 have litm:itm.length=(bg rows l hh).length*z:=by
  have:=congrArg List.length e2;rw[bL e6,dB] at this;exact this.symm
 refine⟨_,w2,rfl,fun d hd=> ?_,fun d k hd hs=> ?_,itm.map (·.val),fun i k=> ∃t,itm[i]?=some t∧t.own k,by rw[dB];exact litm,e6,fun vX hc ad n c' ev j x hj=> ?_,fun sta hgd=>⟨fun i it hi=> ?_,fun i k hi hk=>⟨id,g,hgd,fun hd=>(ig.1 hd).1 rfl,?_⟩,fun k hk=>hk.elim,fun i j k hi hj hk hk'=> ?_,dg.kill sta g⟩⟩
 ·show(if d=g then _ else if d=o then φ.V o else φ.V d)=φ.V d
  rw[aF hd]
  split
  ·subst_vars;rfl
  ·rfl
 ·rw[qA hd] at hs
  by_cases e:d=o
  ·subst e
   have hs:(if d=d then φ.S d k∧ ¬ ∃t∈itm,t.own k else φ.S d k):=hs;rw[aP rfl] at hs;exact hs.1
  ·rw[qA e] at hs;exact hs
 ·obtain⟨c1,c2,c3,A0,A',c0,f1,f2,f3,f4,f5⟩:=hc
  rw[op.val] at f1
  cases f1
  rw[ev] at f2
  cases f2
  obtain⟨ad0,hA⟩: ∃ad0,Ad=some ad0:=by
   cases hA:Ad with
   |none=>have:=f4 hA;cases this
   |some ad0=>exact⟨ad0,rfl⟩
  obtain⟨_,hsp,⟨sp,hr,hrl⟩,_⟩:=op.row ad0 hA;rw[e3] at hj;have hjl:=(List.getElem?_eq_some_iff.1 hj).1;rw[gf,dj,dB,lits] at hjl;rw[lY,Bz] at hj
  split at hj
  ·have hbz:hh.toNat*z≤rows.length*z:=jZ z ax
   have hx:=hr _ x (by rw[iR (by rw[dB,lits];exact gu ZP hbz)];exact hj);have hle:=op.le;have hz:=op.z0
   have hne:c≠l.toNat:=fun e=>by
    have:hh.toNat≤l.toNat:=by omega
    have:=jZ z this;omega
   have:=f3 hne;rw[hA] at this;simp only[jB,aU] at this;obtain⟨b0,o0,s0⟩:=ad0
   cases hsp
   rw[this,Addr.add_add,Addr.add_lit];rw[←jA] at hx;rw[show o0+(l.toNat*z+j)=o0+l.toNat*z+j by omega];exact hx
  ·cases hj
 ·obtain⟨tc,v,t1,t2,rfl⟩:=kf hi
  rw[e2,gY] at t1;rw[gY] at t2
  cases hq:itm[i]? with
  |none=>rw[hq] at t1;cases t1
  |some t=>
   rw[hq] at t1 t2;simp only[jB,aU] at t1 t2;subst t1 t2;exact ai.mono (ai.noR (e4 t (fC hq)).1) fun k hk=>⟨t,rfl,hk⟩
 ·obtain⟨t,ht,hk⟩:=hk
  show(if g=g then ∃t∈itm,t.own k else _);rw[aP rfl];exact⟨t,fC ht,hk⟩
 ·obtain⟨t,ht,hk⟩:=hk
  obtain⟨t',ht',hk'⟩:=hk';obtain⟨l1,q1⟩:=List.getElem?_eq_some_iff.1 ht;obtain⟨l2,q2⟩:=List.getElem?_eq_some_iff.1 ht';have hp:=List.pairwise_iff_getElem.1 e5;rcases Nat.lt_trichotomy i j with hlt|rfl|hlt
  ·exact absurd hk' (by have:=hp _ _ l1 l2 hlt;rw[q1,q2] at this;exact this k hk)
  ·rfl
  ·exact absurd hk (by have:=hp _ _ l2 l1 hlt;rw[q1,q2] at this;exact this k hk')
end Go.T
namespace Go.T
variable {F : Nat → Prop} {A : Arg} {w0 w w' : World} {φ φ' : Fp} {st st' sta cG lR : TS} {tm AK : Array Value} {C : jC}
variable {R : Type} {cf : Cf} {lp : Lp} {Q : R → Prop}
theorem JK {e:TypeId} {z:Nat} (h:C7 C e z=true):uH (C.tt e)=true∧z=(C.tt e).size:=by
 unfold C7 at h
 split at h
 ·exact⟨by assumption,fk h⟩
 ·cases h
attribute [local semireducible] dw in
theorem GR {rows:List (List TC)} (h:dw rows=true): ∀(p:Nat) (tc:TC),rows.flatten[p]?=some tc→ ∃v,tc= .sc v:=fun p tc hp=>by
 have hm:=fC hp;obtain⟨r,hr,hc⟩:=List.mem_flatten.1 hm;have h1:=List.all_eq_true.1 h r hr;have h2:=List.all_eq_true.1 h1 tc hc
 cases tc with
 |any=>cases h2
 |sc v=>exact⟨v,rfl⟩
 |sub z rows=>cases h2
structure WX (w:World) (φ:Fp) (st sta:TS) (dp:Bool) (z:Nat) (rows:List (List TC)) (vS:Value) (M:Mode) (zp:List Value) (X1:Nat→Nat→Prop) (Z1:Nat→Prop) (Ad:Option Addr) (c:Nat):Prop where
 val:vS= .slice Ad rows.length c
 parts:jD w φ st sta (c6 M rows.flatten zp) X1 Z1
 width: ∀r∈rows,r.length=z
 len:zp.length=rows.length*z
 le:rows.length≤c
 max:c≤maxLen
 at':(Ad=none∧rows=[]∧c=0)∨ ∃ad,Ad=some ad∧ad.spot=none∧(∃o,aA st.ob o∧ ¬aA sta.ob o∧φ.S o ad.block)∧(∀(j:Nat) (v:Value),zp[j]?=some v→w.cell? (ad.add j)=some v)∧
    (∀j,j<c*z→(∃x,w.cell? ⟨ad.block,ad.off+j,none⟩=some x)∧w.frozen? ⟨ad.block,ad.off+j,none⟩=false)∧(∀i k,X1 i k→k≠ad.block)∧(∀k,Z1 k→k≠ad.block)∧(1<z→ ∀i,w.frozen? ⟨ad.block,i,none⟩=false)
theorem B5 (h:aH F A w0 φ st tm w) {cs:CE} {vS:Value} (hc:cq st.ob w φ cs vS) {o:Option Nat} {z:Nat} {dp:Bool} {rows:List (List TC)} (hb:uI st cs=some (o,z,dp,rows)) {M:Mode} (hM:M= .snap∨M= .deep∧dp=true):
 0<z∧aH F A w0 φ (lH o st) tm w∧ ∃zp X1 Z1 Ad c,WX w φ st (lH o st) dp z rows vS M zp X1 Z1 Ad c:=by
 unfold uI at hb
 split at hb
 ·cases hb
  obtain⟨rfl,hz⟩:=hc;exact⟨hz,h,[],_,_,none,0,rfl,jD.nil _,fun r hr=>(by cases hr),by simp,bI _,BF _,.inl ⟨rfl,rfl,rfl⟩⟩
 ·rename_i o' cut
  cases hl:aa o' st.ob with
  |none=>rw[hl] at hb;cases hb
  |some b=>
   obtain⟨d0,z0,lS⟩:=b;rw[hl] at hb
   cases hb
   obtain⟨b0,e0,sH⟩:=hc;rw[hl] at e0
   cases e0
   have hr:=kz.cut (h.obj o' _ hl) sH
   have hm:OB.m ⟨dp,z,lS⟩≠ .snap:=by unfold OB.m;split<;>simp
   obtain⟨zp,X1,Z1,l1,p1,a1⟩:=ai.parts h ⟨_,hl⟩ hr hm (M:=M) (hM.imp id fun⟨e1,e2⟩=>⟨e1,by rw[e2];rfl⟩);obtain⟨_,_,sw,hz,_⟩:=hr.vals;refine⟨hz,h.ku o',zp,X1,Z1,?_⟩
   cases hr with
   |sub _ _ _ _ Ad c u T k hn=>
    refine⟨Ad,c,rfl,p1,sw,l1,k.len,k.cap,?_⟩
    cases Ad with
    |none=>
     have hne:L9 cut lS=[]:=Classical.byContradiction fun hne=>by obtain⟨ad,h⟩:=k.addr hne;cases h
     exact .inl ⟨rfl,hne,(k.own hm).1 rfl⟩
    |some ad=>
     obtain⟨hS,hs,hall⟩:=(k.own hm).2 ad rfl;obtain⟨q1,q2,q3⟩:=a1 ad _ _ rfl;exact .inr ⟨ad,rfl,hs,⟨o',⟨_,hl⟩,fun hd=>(ig.1 hd).1 rfl,hS⟩,q1,hall,q2,q3,fun Rt=>k.soft hm Rt ad rfl⟩
 ·cases hb
theorem UD (h:aH F A w0 φ st tm w) {m9:TS} (hsub:dg st m9) {cx:CE} {vX:Value} (hc:cq m9.ob w φ cx vX) {tx e':TypeId} (hk:C.P.underlying tx=some (.slice e')) {z:Nat} {rows:List (List TC)} {cG:TS} {d1:Bool} (hab:mj cx st=some (.sub z rows,cG,d1))
 {M:Mode} (hM:M= .snap∨M= .deep∧d1=true):aH F A w0 φ cG tm w∧ ∃wS X2 Z2,jD w φ st cG (c6 M rows.flatten wS) X2 Z2∧(∀r∈rows,r.length=z)∧wS.length=rows.length*z∧Src C.P z tx vX rows.length wS w:=by
 unfold mj at hab
 split at hab
 ·cases hab
 ·cases hab
  obtain⟨rfl,hz⟩:=hc;exact⟨h,[],_,_,jD.nil _,fun r hr=>(by cases hr),by simp,Src.ofNil w hk 0⟩
 ·rename_i o cut
  cases hl:aa o st.ob with
  |none=>rw[hl] at hab;cases hab
  |some b=>
   obtain⟨d0,z0,lS⟩:=b;rw[hl] at hab
   cases hab
   obtain⟨b0,e0,sH⟩:=hc;rw[hsub.ob _ _ hl] at e0
   cases e0
   have hr:=kz.cut (h.obj o _ hl) sH
   have hm:OB.m ⟨d1,z,lS⟩≠ .snap:=by unfold OB.m;split<;>simp
   obtain⟨zp,X1,Z1,l1,p1,a1⟩:=ai.parts h ⟨_,hl⟩ hr hm (M:=M) (hM.imp id fun⟨e1,e2⟩=>⟨e1,by rw[e2];rfl⟩);obtain⟨_,_,sw,hz,_⟩:=hr.vals;refine⟨h.ku o,zp,X1,Z1,p1,sw,l1,GQ hr hk rfl l1 (fun ad n c e=>(a1 ad n c e).1) fun y hy=> ?_⟩;obtain⟨j,hj,rfl⟩:=List.mem_iff_getElem.1 hy;exact nT (p1.ok j _ (kO (aZ (by rw[bL sw,←l1];exact hj)) (aZ hj)))
 ·rename_i l z0 lS
  cases hab
  have hMs:M= .snap:=hM.elim id fun⟨_,e⟩=>by cases e
  subst hMs;have hr:=hc.2.1;obtain⟨vs,l1,sw,hz,hcell,uX⟩:=hr.vals
  have hok: ∀(i:Nat) (it:It),(c6 .snap rows.flatten vs)[i]?=some it→it.1= .snap∧ai w (fun k=>φ.I k∨False) .snap C2 it.2.1 it.2.2:=fun i it hi=>by
   obtain⟨tc,v,h1,h2,rfl⟩:=kf hi;obtain⟨T,hT⟩:=uX i tc v h1 h2;exact⟨rfl,hT.mU fun k hk=>hk.elim .inl fun⟨d,hd,_⟩=>by cases hd⟩
  refine⟨h,vs,fun _ _=>False,fun _=>False,⟨fun i it hi=> ?_,fun _ _ _ hk=>hk.elim,fun _ hk=>hk.elim,fun _ _ _ _ _ hk=>hk.elim,dg.refl _⟩,sw,l1,GQ hr hk rfl l1 hcell fun y hy=> ?_⟩
  ·obtain⟨e1,e2⟩:=hok i it hi
   rw[e1];exact e2
  ·obtain⟨j,hj,rfl⟩:=List.mem_iff_getElem.1 hy
   exact nT (hok j _ (kO (aZ (by rw[bL sw,←l1];exact hj)) (aZ hj))).2
 ·cases hab
theorem QH (h:aH F A w0 φ st tm w) {cx:CE} {vX:Value} (hc:cq st.ob w φ cx vX) {tx e':TypeId} (hk:C.P.underlying tx=some (.slice e')) {z:Nat} {rows:List (List TC)} (hr:kY st cx=some (z,rows)) (hsc:dw rows=true) (M:Mode) (sta:TS):
 ∃wS,jD w φ sta sta (c6 M rows.flatten wS) (fun _ _=>False) (fun _=>False)∧(∀r∈rows,r.length=z)∧wS.length=rows.length*z∧Src C.P z tx vX rows.length wS w:=by
 obtain⟨uX,_⟩:=oe h hc hr;obtain⟨vs,l1,sw,hz,hcell,Iy⟩:=uX.vals
 have hok: ∀(M:Mode) (i:Nat) (it:It),(c6 M rows.flatten vs)[i]?=some it→ ∃v,it=(M,.sc v,v)∧ET v:=fun M i it hi=>by
  obtain⟨tc,v,h1,h2,rfl⟩:=kf hi;obtain⟨T,hT⟩:=Iy i tc v h1 h2;obtain⟨v',rfl⟩:=GR hsc i tc h1
  cases hT with
  |sc _ _ _ hs=>exact⟨_,rfl,hs⟩
 refine⟨vs,⟨fun i it hi=> ?_,fun _ _ _ hk=>hk.elim,fun _ hk=>hk.elim,fun _ _ _ _ _ hk=>hk.elim,dg.refl _⟩,sw,l1,GQ uX hk rfl l1 hcell fun y hy=> ?_⟩
 ·obtain⟨v,rfl,hs⟩:=hok M i it hi
  exact .sc _ _ _ hs
 ·obtain⟨j,hj,rfl⟩:=List.mem_iff_getElem.1 hy
  obtain⟨v,e1,hs⟩:=hok .deep j _ (kO (aZ (by rw[bL sw,←l1];exact hj)) (aZ hj))
  have:vs[j]=v:=by have:=congrArg (fun it:It=>it.2.2) e1;exact this
  rw[this]
  cases v<;>first|rfl|cases hs
theorem Et {g o p:Nat} {b:OB} {l h:Int} (h1:p≠g) (h2:p≠o):aa p (AO g o b l h st).ob=aa p st.ob:=by
 show aa p (kX g _ (ni g (kX o _ st.ob)))=_;rw[dD,aF h1,fI,aF h1,dD,aF h2]
theorem GS {g o:Nat} {b:OB} {l h:Int}:aA (AO g o b l h st).ob g:=by
 refine⟨⟨true,1,[]⟩,?_⟩;show aa g (kX g _ (ni g (kX o _ st.ob)))=_;rw[dD,aP rfl]
theorem Oo (hT:ef C) {a:Act} (h:aH F A w0 φ st a.tmps w) {o:Oper} {s x:Operand} {t t':TypeId} (ho:o.op= .call {callee:= .builtin .append,args:= #[s,x],argTypes:= #[t,t']}) {K:TS→Ev R} (hd: ∀d,o.dst=some d→d<a.tmps.size) {d:Nat} (iW:o.dst=some d)
 {e:TypeId} (he:uG C t=some e) {cs cx:CE} (hcs:sD (oy C st t s)=some cs) {oo:Option Nat} {z:Nat} {dp:Bool} {rows:List (List TC)} (hb:uI st cs=some (oo,z,dp,rows)) (hsz:C7 C e z=true) {e2:TypeId} (Yb:C.P.underlying t'=some (.slice e2)) (Uf:cq st.ob w φ cs (a.eval s)) (VI:cq st.ob w φ cx (a.eval x))
 {aO:List (List TC)} {cG:TS} (VJ:NY d oo dp cx st=some (z,aO,cG)) (hfit:fits (rows.length+aO.length) (C.tt e).bytes=true) (hk:(K (sE d ⟨dp,z,rows++aO⟩ cG)).holds cf lp Q):NP C F A w0 φ st o a w K cf lp Q:=by
 obtain⟨LX,hz⟩:=JK hsz;unfold NY at VJ
 split at VJ
 ·rename_i o' l hh
  split at VJ
  ·rename_i z0 lS hl Wm
   simp only[aU,sM] at VJ;obtain⟨rfl,rfl,rfl⟩:=VJ;rw[Bool.or_eq_false_iff] at Wm;obtain⟨Ud,hc2⟩:=Wm
   have Kn:oR d 1 0≠o':=fun e=>by rw[e] at hc2;simp at hc2
   have hg0:oR d 1 0≠0:=by unfold oR;omega
   have Yc: ∀p,oo=some p→p≠o'∧p≠oR d 1 0:=fun p e=>by
    rw[e] at Ud;simp only[Bool.or_eq_false_iff] at Ud;exact⟨ov Ud.1,ov Ud.2⟩
   obtain⟨b0,hb0,sH⟩:=VI;rw[hl] at hb0
   cases hb0
   have sH:wX z0 lS.length l hh (φ.V o') (a.eval x):=sH;obtain⟨φ2,h2,eβ,eV,eS,wS,X2,AL,Jn,hcell,XL⟩:=h.Yu (g:=oR d 1 0) hl sH.1 sH.2.1 sH.2.2.1 hg0 Kn
   have Wn:cq (AO (oR d 1 0) o' ⟨true,z0,lS⟩ l hh st).ob w φ2 cs (a.eval s)∧uI (AO (oR d 1 0) o' ⟨true,z0,lS⟩ l hh st) cs=some (oo,z0,true,rows):=by
    unfold uI at hb ⊢
    split at hb
    ·cases hb
     exact⟨Uf,rfl⟩
    ·rename_i p cut
     obtain⟨bp,hbp,hvp⟩:=Uf;rw[hbp] at hb;obtain⟨dq,zq,rq⟩:=bp;simp only[aU,sM] at hb;obtain⟨rfl,rfl,rfl,rfl⟩:=hb;obtain⟨n1,n2⟩:=Yc p rfl;have hlk:=Et (st:=st) (b:=⟨true,zq,lS⟩) (l:=l) (h:=hh) n2 n1;rw[hbp] at hlk;refine⟨⟨_,hlk,?_⟩,?_⟩
     ·rw[eV p n2];exact hvp
     ·simp only[hlk]
    ·cases hb
   obtain⟨_,hka,zp,X1,Z1,Ad,c,hB⟩:=B5 h2 Wn.1 Wn.2 (M:= .deep) (.inr ⟨rfl,rfl⟩)
   have Zn:aA (lH oo (AO (oR d 1 0) o' ⟨true,z0,lS⟩ l hh st)).ob (oR d 1 0):=by
    cases oo with
    |none=>exact GS
    |some p=>exact ig.2 ⟨fun e=>(Yc p rfl).2 e.symm,GS⟩
   have p2:=XL _ Zn
   have hsrc:Src C.P z0 t' (a.eval x) (bg lS l hh).length wS w:=by
    refine GQ (kz.cut (cut:=some (l,hh)) (h.obj o' _ hl) sH) Yb rfl AL (fun ad n c e=>hcell _ sH ad n c e) fun y hy=> ?_;obtain⟨j,hj,rfl⟩:=List.mem_iff_getElem.1 hy;exact nT (p2.ok j _ (kO (aZ (by rw[bL Jn,←AL];exact hj)) (aZ hj)))
   obtain⟨v,w',hrun,sx,hsize,hframe⟩:=JJ (ty:=o.type) hT rfl (q0 hT he).1 LX h2 (hka.ku (oR d 1 0)) (hd d iW) (dp:=true) hz hB.parts p2 hB.width Jn hB.len AL hB.le hB.max hsrc hB.at' hfit;refine⟨.value v,v,w',_,?_,.inl rfl,by rw[iW];exact sx,hk,hsize,fun k hk VG=>hframe k hk fun ad Iq e=>VG ?_⟩
   ·rw[p6 ho]
    simp only[builtin,Sem.run_bind]
    have:(#[s,x].map a.eval)= #[a.eval s,a.eval x]:=by simp
    rw[this,hB.val,hrun]
    rfl
   ·rcases hB.at' with⟨e0,_⟩|⟨ad',e0,_,⟨o2,o21,o22,o23⟩,_⟩
    ·rw[Iq] at e0;cases e0
    ·rw[Iq] at e0
     cases e0
     cases oo with
     |none=>exact absurd o21 o22
     |some p=>
      have:o2=p:=Classical.byContradiction fun hne=>o22 (ig.2 ⟨hne,o21⟩);subst this;obtain⟨n1,n2⟩:=Yc o2 rfl
      have g1: ∃q,sD (oy C st t s)=some (.ref o2 q):=by
       unfold uI at hb
       split at hb
       ·cases hb
       ·rename_i p cut
        split at hb
        ·simp only[aU,sM] at hb
         obtain⟨rfl,_⟩:=hb;exact⟨_,hcs⟩
        ·cases hb
       ·cases hb
      obtain⟨q,g1⟩:=g1
      have g2:aA st.ob o2:=by
       obtain⟨b2,hb2⟩:=o21;rw[Et n2 n1] at hb2;exact⟨b2,hb2⟩
      refine .inr ⟨o2,?_,g2,by rw[e];exact eS o2 _ n2 o23⟩;unfold writes;rw[ho];simp only;refine List.mem_map.2 ⟨o2,?_,rfl⟩
      revert g1
      cases oy C st t s with
      |v tup es=>
       unfold sD
       split
       ·rename_i e0 e1
        intro g1
        cases g1
        simp only[TE.v.injEq] at e1;obtain⟨rfl,rfl⟩:=e1;exact .head _
       ·intro g1;cases g1
       ·intro g1;cases g1
      |_=>intro g1;simp[sD] at g1
  ·cases VJ
 ·cases VJ
theorem UE (h:aH F A w0 φ st tm w) {cx:CE} {vX:Value} (hc:cq st.ob w φ cx vX) {tx e':TypeId} (hk:C.P.underlying tx=some (.slice e')) {z:Nat} {rows:List (List TC)} (hr:RN st cx=some (z,rows)) (sta:TS):
 ∃wS,jD w φ sta sta (c6 .snap rows.flatten wS) (fun _ _=>False) (fun _=>False)∧(∀r∈rows,r.length=z)∧wS.length=rows.length*z∧Src C.P z tx vX rows.length wS w:=by
 unfold RN at hr
 split at hr
 ·rename_i o' cut
  split at hr
  ·rename_i z0 lS hl
   cases hr
   obtain⟨b0,hb0,sH⟩:=hc;rw[hl] at hb0
   cases hb0
   have uX:=kz.cut (h.obj o' _ hl) sH;obtain⟨vs,l1,sw,hz,hcell,Iy⟩:=uX.vals
   have hok: ∀(i:Nat) (it:It),(c6 .snap (L9 cut lS).flatten vs)[i]?=some it→it.1= .snap∧ai w (fun k=>φ.I k∨False) .snap C2 it.2.1 it.2.2:=fun i it hi=>by
    obtain⟨tc,v,t1,t2,rfl⟩:=kf hi;obtain⟨T,hT⟩:=Iy i tc v t1 t2;exact⟨rfl,hT.mU fun k hk=> .inl hk⟩
   refine⟨vs,⟨fun i it hi=> ?_,fun _ _ _ hk=>hk.elim,fun _ hk=>hk.elim,fun _ _ _ _ _ hk=>hk.elim,dg.refl _⟩,sw,l1,GQ uX hk rfl l1 hcell fun y hy=> ?_⟩
   ·obtain⟨e1,e2⟩:=hok i it hi
    rw[e1];exact e2.mono fun k hk=>hk.elim
   ·obtain⟨j,hj,rfl⟩:=List.mem_iff_getElem.1 hy
    exact nT (hok j _ (kO (aZ (by rw[bL sw,←l1];exact hj)) (aZ hj))).2
  ·cases hr
 ·cases hr
theorem QI (hT:ef C) {a:Act} (h:aH F A w0 φ st a.tmps w) {o:Oper} {args:Array Operand} {ts:Array TypeId} (ho:o.op= .call {callee:= .builtin .append,args,argTypes:=ts}) {K:TS→Ev R} (hd: ∀d,o.dst=some d→d<a.tmps.size) (hk:(mm C st o K).holds cf lp Q):
 NP C F A w0 φ st o a w K cf lp Q:=by
 unfold mm at hk;rw[ho] at hk;simp only at hk
 split at hk
 ·rename_i d s x t t' iW h1 h2
  have e1:args= #[s,x]:=by cases args;simp at h1;subst h1;rfl
  have e2:ts= #[t,t']:=by cases ts;simp at h2;subst h2;rfl
  subst e1 e2;have hsv:=de hT h t s;have X7:=de hT h t' x
  have fin: ∀{dp:Bool} {z:Nat} {e:TypeId} {rows aO:List (List TC)} {sta cG:TS} {zp wS:List Value} {X1 X2:Nat→Nat→Prop} {Z1 Z2:Nat→Prop} {Ad:Option Addr} {c:Nat} {cs:CE} {oo:Option Nat},
   uG C t=some e→sD (oy C st t s)=some cs→uI st cs=some (oo,z,(match dp with|true=>true|false=>false),rows)∨True→C7 C e z=true→WX w φ st sta dp z rows (a.eval s) (if dp then .deep else .snap) zp X1 Z1 Ad c→(∀ad,Ad=some ad→ ∃o',sD (oy C st t s)=some (.ref o' none)∨(∃q,sD (oy C st t s)=some (.ref o' q))∧True)→
   (∀ad,Ad=some ad→ ∃o' q,sD (oy C st t s)=some (.ref o' q)∧aA st.ob o'∧φ.S o' ad.block)→
   aH F A w0 φ cG a.tmps w→jD w φ sta cG (c6 (if dp then .deep else .snap) aO.flatten wS) X2 Z2→(∀r∈aO,r.length=z)→wS.length=aO.length*z→Src C.P z t' (a.eval x) aO.length wS w→fits (rows.length+aO.length) (C.tt e).bytes=true→
   (K (sE d ⟨dp,z,rows++aO⟩ cG)).holds cf lp Q→NP C F A w0 φ st o a w K cf lp Q:=by
   intro dp z e rows aO sta cG zp wS X1 X2 Z1 Z2 Ad c cs oo he hcs _ hsz hb _ hown yo p2 Jn AL hsrc hfit hk;obtain⟨LX,hz⟩:=JK hsz;obtain⟨v,w',hrun,sx,hsize,hframe⟩:=JJ (ty:=o.type) hT rfl (q0 hT he).1 LX h yo (hd d iW) hz hb.parts p2 hb.width Jn hb.len AL hb.le hb.max hsrc hb.at' hfit;refine⟨.value v,v,w',_,?_,.inl rfl,by rw[iW];exact sx,hk,hsize,fun k hk VG=>hframe k hk fun ad Iq e=>VG ?_⟩
   ·rw[p6 ho]
    simp only[builtin,Sem.run_bind]
    have:(#[s,x].map a.eval)= #[a.eval s,a.eval x]:=by simp
    rw[this,hb.val,hrun]
    rfl
   ·obtain⟨o',q,g1,g2,g3⟩:=hown ad Iq
    refine .inr ⟨o',?_,g2,by rw[e];exact g3⟩;unfold writes;rw[ho];simp only;refine List.mem_map.2 ⟨o',?_,rfl⟩
    revert g1
    cases oy C st t s with
    |v tup es=>
     unfold sD
     split
     ·rename_i e0 e1
      intro g1
      cases g1
      simp only[TE.v.injEq] at e1;obtain⟨rfl,rfl⟩:=e1;exact .head _
     ·intro g1;cases g1
     ·intro g1;cases g1
    |_=>intro g1;simp[sD] at g1
  unfold Pt at hk
  split at hk
  ·rename_i e cs cx he hcs hcx
   obtain⟨_,Uf⟩:=sX hsv hcs;obtain⟨_,VI⟩:=sX X7 hcx
   have hown: ∀{oo:Option Nat} {z:Nat} {dp dp':Bool} {rows:List (List TC)} {M:Mode} {zp:List Value} {X1:Nat→Nat→Prop} {Z1:Nat→Prop} {Ad:Option Addr} {c:Nat},uI st cs=some (oo,z,dp,rows)→WX w φ st (lH oo st) dp' z rows (a.eval s) M zp X1 Z1 Ad c→
    ∀ad,Ad=some ad→ ∃o' q,sD (oy C st t s)=some (.ref o' q)∧aA st.ob o'∧φ.S o' ad.block:=fun {oo z dp dp' rows M zp X1 Z1 Ad c} hb hB ad Iq=>by
    unfold uI at hb
    split at hb
    ·cases hb
     rcases hB.at' with⟨e0,_⟩|⟨ad',e0,_,⟨o',o1,o2,o3⟩,_⟩
     ·rw[Iq] at e0;cases e0
     ·exact absurd o1 o2
    ·rename_i o' cut
     cases hl:aa o' st.ob with
     |none=>rw[hl] at hb;cases hb
     |some b=>
      obtain⟨d0,z0,lS⟩:=b;rw[hl] at hb
      cases hb
      rcases hB.at' with⟨e0,_⟩|⟨ad',e0,_,⟨o2,o21,o22,o23⟩,_⟩
      ·rw[Iq] at e0;cases e0
      ·rw[Iq] at e0
       cases e0
       have:o2=o':=Classical.byContradiction fun hne=>o22 (ig.2 ⟨hne,o21⟩);subst this;exact⟨o2,cut,hcs,o21,o23⟩
    ·cases hb
   split at hk
   ·rename_i oo z dp rows hb abc
    split at hk
    ·rename_i b hsz hz1
     have hk2:(match fits (rows.length+b.size) (C.tt e).bytes with|true=>K (sE d ⟨dp,z,rows++Am b⟩ (lH oo st))|false=> .fail:Ev R).holds cf lp Q:=hk;clear hk
     split at hk2
     ·rename_i hfit
      have hz1:=fk hz1;subst hz1;obtain⟨hz,hka,zp,X1,Z1,Ad,c,hB⟩:=B5 h Uf hb (M:=if dp then .deep else .snap) (by cases dp<;>simp);have hv:=KE VI
      exact fin (oo:=oo) he hcs (.inr trivial) hsz hB (fun ad Iq=>let ⟨o',q,g,_⟩:=hown hb hB ad Iq;⟨o',.inr ⟨⟨q,g⟩,trivial⟩⟩) (hown hb hB) hka (JI b _ _) (Er b) (by rw[byteCells_length,mG,Nat.mul_one])
       (by rw[hv,mG];exact Src.ofString w (GJ hT abc) b) (by rw[mG];exact hfit) hk2
     ·exact hk2.elim
    ·exact hk.elim
   ·rename_i oo z dp rows e2 hb Rx
    have Yb:=(GK hT Rx).1
    split at hk
    ·exact hk.elim
    ·rename_i hsz
     split at hk
     ·split at hk
      ·rename_i z' aO hr
       split at hk
       ·rename_i Bw
        have Bw:=fk Bw;subst Bw;have hk2:(match(dw aO&&fits (rows.length+aO.length) (C.tt e).bytes) with|true=>K (sE d ⟨dp,z,rows++aO⟩ (lH oo st))|false=> .fail:Ev R).holds cf lp Q:=hk;clear hk
        split at hk2
        ·rename_i hfit
         simp only[c8] at hfit;obtain⟨hz,hka,zp,X1,Z1,Ad,c,hB⟩:=B5 h Uf hb (M:=if dp then .deep else .snap) (by cases dp<;>simp);obtain⟨wS,p2,Jn,AL,hsrc⟩:=QH h VI Yb hr hfit.1 (if dp then .deep else .snap) (lH oo st);exact fin (oo:=oo) he hcs (.inr trivial) hsz hB (fun ad Iq=>let ⟨o',q,g,_⟩:=hown hb hB ad Iq;⟨o',.inr ⟨⟨q,g⟩,trivial⟩⟩) (hown hb hB) hka p2 Jn AL hsrc hfit.2 hk2
        ·exact hk2.elim
       ·exact hk.elim
      ·exact hk.elim
     ·split at hk
      ·rename_i z' aO cG VJ
       split at hk
       ·rename_i Bw
        have Bw:=fk Bw;subst Bw;have hk2:(match fits (rows.length+aO.length) (C.tt e).bytes with|true=>K (sE d ⟨dp,z,rows++aO⟩ cG)|false=> .fail:Ev R).holds cf lp Q:=hk;clear hk
        split at hk2
        ·rename_i hfit
         exact Oo hT h ho hd iW he hcs hb hsz Yb Uf VI VJ hfit hk2
        ·exact hk2.elim
       ·exact hk.elim
      split at hk
      ·rename_i z' aO htp
       split at hk
       ·rename_i Bw
        have Bw:=fk Bw;subst Bw;have hk2:(match fits (rows.length+aO.length) (C.tt e).bytes with|true=>K (sE d ⟨false,z,rows++aO⟩ (lH oo st))|false=> .fail:Ev R).holds cf lp Q:=hk;clear hk
        split at hk2
        ·rename_i hfit
         obtain⟨hz,hka,zp,X1,Z1,Ad,c,hB⟩:=B5 h Uf hb (M:= .snap) (.inl rfl);obtain⟨wS,p2,Jn,AL,hsrc⟩:=UE h VI Yb htp (lH oo st);exact fin (oo:=oo) (dp:=false) he hcs (.inr trivial) hsz ⟨hB.val,hB.parts,hB.width,hB.len,hB.le,hB.max,hB.at'⟩ (fun ad Iq=>let ⟨o',q,g,_⟩:=hown hb hB ad Iq;⟨o',.inr ⟨⟨q,g⟩,trivial⟩⟩) (hown hb hB) hka p2 Jn AL hsrc hfit hk2
        ·exact hk2.elim
       ·exact hk.elim
      split at hk
      ·rename_i z' aO cG d1 hab
       split at hk
       ·rename_i Bw
        have Bw:=fk Bw;subst Bw;have hk2:(match fits (rows.length+aO.length) (C.tt e).bytes with|true=>K (sE d ⟨dp&&d1,z,rows++aO⟩ cG)|false=> .fail:Ev R).holds cf lp Q:=hk;clear hk
        split at hk2
        ·rename_i hfit
         obtain⟨hz,hka,zp,X1,Z1,Ad,c,hB⟩:=B5 h Uf hb (M:=if(dp&&d1) then .deep else .snap) (by cases dp<;>cases d1<;>simp);obtain⟨yo,wS,X2,Z2,p2,Jn,AL,hsrc⟩:=UD hka hB.parts.sub VI Yb hab (M:=if(dp&&d1) then .deep else .snap) (by cases dp<;>cases d1<;>simp);exact fin (oo:=oo) (dp:=dp&&d1) he hcs (.inr trivial) hsz ⟨hB.val,hB.parts,hB.width,hB.len,hB.le,hB.max,hB.at'⟩ (fun ad Iq=>let ⟨o',q,g,_⟩:=hown hb hB ad Iq;⟨o',.inr ⟨⟨q,g⟩,trivial⟩⟩) (hown hb hB) yo p2 Jn AL hsrc hfit hk2
        ·exact hk2.elim
       ·exact hk.elim
      ·exact hk.elim
   ·exact hk.elim
  ·exact hk.elim
 ·exact hk.elim
end Go.T
namespace Go.T
variable {F : Nat → Prop} {A : Arg} {w0 w w' : World} {φ φ' φ1 : Fp} {st st' sta cG : TS} {tm AK : Array Value} {C : jC}
variable {R : Type} {cf : Cf} {lp : Lp} {Q : R → Prop}
theorem Eu {P:Program} {e:TypeId} {z:Nat} {i:TypeInfo} (h:P.info? e=some i) (hz:i.size=z) (w:World):(sizeOf e).run P w= .ok z w:=by
 simp[sizeOf,typeInfo,h,hz]
theorem UF {R S:Nat→Prop} {m:Mode} {z:Nat} {rows:List (List TC)} {v:Value} (h:ai w R m S (.sub z rows) v): ∃A c,v= .slice A rows.length c∧(rows≠[]→ ∃ad,A=some ad):=by
 cases h with
 |sub _ _ _ _ A c u T k hn=>exact⟨A,c,rfl,k.addr⟩
def Sz (v:Value):yK:=⟨.sc v,v,fun _=>False⟩
attribute [local semireducible] mh in
theorem th (rows aO:List (List TC)):mh rows aO=aO.take rows.length++rows.drop aO.length:=rfl
theorem UG (hT:ef C) {a:Act} (h:aH F A w0 φ st a.tmps w) {o:Oper} {args:Array Operand} {ts:Array TypeId} (ho:o.op= .call {callee:= .builtin .copy,args,argTypes:=ts}) {K:TS→Ev R} (hd: ∀d,o.dst=some d→d<a.tmps.size) (hk:(mm C st o K).holds cf lp Q):
 NP C F A w0 φ st o a w K cf lp Q:=by
 unfold mm at hk;rw[ho] at hk;simp only at hk
 split at hk
 ·rename_i s x t t' h1 h2
  have e1:args= #[s,x]:=by cases args;simp at h1;subst h1;rfl
  have e2:ts= #[t,t']:=by cases ts;simp at h2;subst h2;rfl
  subst e1 e2;have hsv:=de hT h t s;have X7:=de hT h t' x;unfold VT at hk
  split at hk
  ·rename_i e r cx he hcs hcx
   obtain⟨Ei,Uf⟩:=sX hsv hcs;obtain⟨_,VI⟩:=sX X7 hcx
   split at hk
   ·rename_i z rows z' aO hl hr LX
    split at hk
    ·rename_i Bw
     simp only[c8] at Bw;have hz1:=fk Bw.1;have Yd:=fk Bw.2;subst hz1
     have hk2:(match dw aO with
      |true=>(match o.dst with
       |some d=>K ((qi r ⟨true,z,mh rows aO⟩ st).set d (one (.sc (.int .i64 (Int.ofNat (me aO.length rows.length))))))
       |none=>K (qi r ⟨true,z,mh rows aO⟩ st))
      |false=> .fail:Ev R).holds cf lp Q:=hk
     clear hk
     split at hk2
     ·rename_i hsc
      have hin:aA st.ob r:=⟨_,hl⟩;obtain⟨b0,hb0,Wl⟩:=Uf;rw[hl] at hb0
      cases hb0
      have Wl:a.eval s=φ.V r:=Wl;have hO:ai w φ.I .deep (φ.S r) (.sub z rows) (φ.V r):=h.obj r _ hl;obtain⟨Ad,c,cc,op⟩:=hO.opened;obtain⟨uX,_⟩:=oe h VI hr;obtain⟨vs,l1,sw,hz,hcell,Iy⟩:=uX.vals;obtain⟨A',c',hxval,hA'⟩:=UF uX;obtain⟨hkn,hnp⟩:=vm LX;obtain⟨i,zv,g1,g2,_⟩:=(hT e hkn).info
      have isz:i.size=z:=by rw[g2,Yd]
      have hU:=(q0 hT he).1
      have lits:cc.length=rows.length*z:=by
       have:=congrArg List.length op.tcs;rw[bL op.width,dB] at this;exact this.symm
      obtain⟨us,TQ⟩: ∃us,us=vs.take (rows.length*z):=⟨_,rfl⟩
      have lus:us.length=me aO.length rows.length*z:=by
       rw[TQ,dj,l1];rcases Nat.le_total aO.length rows.length with hle|hle
       ·have:=jZ z hle
        rw[show me aO.length rows.length=aO.length from Nat.min_eq_left hle];omega
       ·have:=jZ z hle
        rw[show me aO.length rows.length=rows.length from Nat.min_eq_right hle];omega
      have usS: ∀v∈vs,ET v:=fun v hv=>by
       obtain⟨j,hj,rfl⟩:=List.mem_iff_getElem.1 hv;obtain⟨tc,Rv⟩: ∃tc,aO.flatten[j]?=some tc:=⟨_,aZ (by rw[bL sw,←l1];exact hj)⟩;obtain⟨T,hT⟩:=Iy j tc _ Rv (aZ hj);obtain⟨v',rfl⟩:=GR hsc j tc Rv
       cases hT with
       |sc _ _ _ hs=>exact hs
      have tcV:aO.flatten=vs.map .sc:=by
       apply List.ext_getElem
       ·rw[bL sw,dB,l1]
       ·intro j h1 h2
        rw[List.getElem_map];have Rv:aO.flatten[j]?=some aO.flatten[j]:=aZ h1
        have hj':j<vs.length:=by rw[dB] at h2;exact h2
        have hvs:vs[j]?=some vs[j]:=aZ hj';obtain⟨T,hT⟩:=Iy j _ _ Rv hvs;obtain⟨v',Pm⟩:=GR hsc j _ Rv;rw[Pm] at hT ⊢
        cases hT with
        |sc _ _ _ hs=>rfl
      have one1: ∀v∈us,v.oneCell'=true:=fun v hv=>by
       have:=usS v (by rw[TQ] at hv;exact sK hv)
       cases v<;>first|rfl|cases this
      have TU: ∀W:World,(∀x,W.cell? x=w.cell? x)→(Builtin.firstCells z (me aO.length rows.length) (.slice A' aO.length c')).run C.P W= .ok us.toArray W:=fun W hW=>by
       by_cases hne:aO=[]
       ·have h0:us=[]:=yq (by rw[lus,hne];simp)
        subst h0;subst hne
        cases A' with
        |none=>simp[Builtin.firstCells]
        |some ad=>exact run_firstCells_some W z _ ad _ c' [] eO (fun j v hj=>by simp at hj)
       ·obtain⟨ad,rfl⟩:=hA' hne
        refine run_firstCells_some W z _ ad _ c' us lus fun j v hj=> ?_;rw[hW];refine hcell ad _ _ hxval j v ?_;rw[TQ,Bz] at hj
        split at hj
        ·exact hj
        ·cases hj
      have VK:(mh rows aO).length=rows.length:=by
       rw[th,bX,dj,gf];omega
      have fin: ∀w',(Builtin.copy_ #[t,t'] o.type #[a.eval s,a.eval x]).run C.P w= .ok (goInt (me aO.length rows.length)) w'→aH F A w0 (φ.add r (φ.S r) (φ.V r)) (qi r ⟨true,z,mh rows aO⟩ st) a.tmps w'→w.heap.size≤w'.heap.size→(∀k,k<w.heap.size→ ¬φ.S r k→w'.heap[k]?=w.heap[k]?)→NP C F A w0 φ st o a w K cf lp Q:=fun w' hrun sx hsz hfr=>by
       have run:(execOp a.eval o).run C.P w= .ok (.value (goInt (me aO.length rows.length))) w':=by
        rw[p6 ho];simp only[builtin,Sem.run_bind]
        have:(#[s,x].map a.eval)= #[a.eval s,a.eval x]:=by simp
        rw[this,hrun]
        rfl
       have wr: ∀k,k<w.heap.size→ ¬Wr st φ (writes C st o) k→w'.heap[k]?=w.heap[k]?:=fun k hk hn=>hfr k hk fun hS=>hn (.inr ⟨r,by
        unfold writes;rw[ho];simp only;refine List.mem_map.2 ⟨r,?_,rfl⟩
        revert hcs
        cases oy C st t s with
        |v tup es=>
         unfold sD
         split
         ·rename_i e0 e1
          intro g1
          cases g1
          simp only[TE.v.injEq] at e1;obtain⟨rfl,rfl⟩:=e1;exact .head _
         ·intro g1;cases g1
         ·intro g1;cases g1
        |_=>intro g1;simp[sD] at g1,hin,hS⟩)
       cases iW:o.dst with
       |none=>
        rw[iW] at hk2;exact⟨_,goInt (me aO.length rows.length),w',_,run,.inl rfl,by rw[iW];exact⟨_,sx⟩,hk2,hsz,wr⟩
       |some d=>
        rw[iW] at hk2;refine⟨_,goInt (me aO.length rows.length),w',_,run,.inl rfl,?_,hk2,hsz,wr⟩;rw[iW];exact⟨_,sx.IB (v:=goInt (me aO.length rows.length)) (hd d iW) ⟨_,rfl,_,rfl,rfl,rfl,trivial⟩⟩
      have hX:=fun k hk=>h.sep.fresh r k hin hk
      cases Iq:Ad with
      |none=>
       have hc0:=op.none Iq;have hle:=op.le;have XE:rows=[]:=yq ax
       have Ry:mh rows aO=rows:=by rw[th,XE];simp
       refine fin w ?_ ?_ (bI _) fun _ _ _=>rfl
       ·rw[Wl,op.val,Iq,hxval]
        simp only[Builtin.copy_,Builtin.lenOf];simp[run_underlying hU,Eu g1 isz,TU w fun _=>rfl]
       ·refine h.qi hl rfl VK ?_ h.frm (bI _) (fun _ _ _=>rfl) hX (fun k hk=>h.sep.read r k hin hk) (fun k d hk hne hd hs=>hne (h.sep.apart d r k hd hin hs hk)) (fun b cs Ej hw hk=>(h.sep.box b cs Ej hw).2.1 r hin hk)
        show ai w φ.I .deep (φ.S r) (.sub z (mh rows aO)) (φ.V r);rw[Ry];exact hO
      |some ad=>
       obtain⟨Qk,hsp,⟨sp,yo,zu⟩,hfz,hso⟩:=op.row ad Iq;obtain⟨b,off,spot⟩:=ad
       cases hsp
       simp only at yo zu hfz hso Qk;have hle:=op.le;have elc:=jZ z hle
       have lmin:us.length≤rows.length*z:=by rw[lus];exact jZ z (Nat.min_le_right _ _)
       have lL:(cc.map (·.val)++sp).length=c*z:=zu;have hst:=run_storeCells_cells (P:=C.P) b off us 0 w (fun j hj=>by rw[oX,yo j _ (aZ ax)];rfl) (fun j hj=>by rw[oX];exact hfz j ax) one1;rw[oX] at hst;have r2:=yo.put (p:=0) (us:=us) ax;rw[oX,List.take_zero,oW,ic] at r2
       have hnew:nU (w.setCells b off us) (φ.S r) z (mh rows aO) (φ.V r) Ad c (us.map Sz++cc.drop (aO.length*z)):=by
        have Wo:(us.map Sz++cc.drop (aO.length*z)).map (·.val)=us++(cc.map (·.val)).drop (aO.length*z):=by
         rw[ot,List.map_map,u9]
         congr 1
         have:((fun t:yK=>t.val)∘Sz)=id:=rfl;rw[this,List.map_id]
        have Wp:(cc.map (·.val)++sp).drop us.length=(cc.map (·.val)).drop (aO.length*z)++sp:=by
         rcases Nat.le_total aO.length rows.length with hq|hq
         ·have:=jZ z hq
          rw[lus,show me aO.length rows.length=aO.length from Nat.min_eq_left hq,List.drop_append_of_le_length (by rw[dB];omega)]
         ·have:=jZ z hq
          rw[lus,show me aO.length rows.length=rows.length from Nat.min_eq_right hq,List.drop_append_of_le_length (by rw[dB];omega),Al (by rw[dB];omega),Al (by rw[dB];omega)]
        refine⟨by rw[VK];exact op.val,by rw[VK];exact op.le,op.cap,op.z0,fun q hq=> ?_,?_,fun t ht=> ?_,?_,fun t ht k hk=> ?_,op.none,fun ad e=> ?_⟩
        ·rw[th] at hq
         rcases List.mem_append.1 hq with hq|hq
         ·exact sw q (sK hq)
         ·exact op.width q (qx hq)
        ·rw[th,Jq,wm sw,wo op.width,op.tcs,tcV,←yt,←TQ,ot,List.map_map,u9]
         rfl
        ·rcases List.mem_append.1 ht with ht|ht
         ·obtain⟨v,hv,rfl⟩:=List.mem_map.1 ht
          exact .sc _ _ _ (usS v (by rw[TQ] at hv;exact sK hv))
         ·have hm:=qx ht
          refine(op.ok t hm).move (fun k hk=>hk.elim) fun _ k hk=> ?_;have hs:=op.sub t hm k hk;exact dV _ _ _ _ (hX k hs.1).1 (hs.2 _ Iq)
        ·refine List.pairwise_append.2 ⟨?_,(op.lW.sublist (List.drop_sublist _ _)),fun x hx y hy k hk=> ?_⟩
         ·rw[List.pairwise_map]
          exact List.pairwise_of_forall fun _ _ k hk=>hk.elim
         ·obtain⟨v,hv,rfl⟩:=List.mem_map.1 hx
          exact hk.elim
        ·rcases List.mem_append.1 ht with ht|ht
         ·obtain⟨v,hv,rfl⟩:=List.mem_map.1 ht
          exact hk.elim
         ·exact op.sub t (qx ht) k hk
        ·rw[Iq] at e
         cases e
         refine⟨Qk,rfl,⟨sp,?_,?_⟩,fun j hj=> ?_,fun hz1 j=> ?_⟩
         ·rw[Wo,oU,←Wp];exact r2
         ·rw[Wo,oU,←Wp,bX,gf];omega
         ·rw[show(w.setCells b off us).frozen? ⟨b,off+j,none⟩=w.frozen? ⟨b,off+j,none⟩ from World.frozen?_setCells b us off w _];exact hfz j hj
         ·rw[show(w.setCells b off us).frozen? ⟨b,j,none⟩=w.frozen? ⟨b,j,none⟩ from World.frozen?_setCells b us off w _];exact hso hz1 j
       have hsz:=(jh b us off w).2.2.2;refine fin (w.setCells b off us) ?_ ?_ (by rw[hsz];exact bI _) fun k hk hn=>dV _ _ _ _ hk fun e=>hn (by rw[e];exact Qk)
       ·rw[Wl,op.val,Iq,hxval]
        simp only[Builtin.copy_,Builtin.lenOf];simp[run_underlying hU,Eu g1 isz,TU w fun _=>rfl,hst]
       ·refine h.qi hl rfl VK hnew.rep (h.frm.setCells (hX b Qk).2) (by rw[hsz];exact bI _) (fun k hk hn=>dV _ _ _ _ hk fun e=>hn (by rw[e];exact Qk)) (fun k hk=>by rw[hsz];exact hX k hk) (fun k hk=>h.sep.read r k hin hk) (fun k d hk hne hd hs=>hne (h.sep.apart d r k hd hin hs hk)) (fun b' cs Ej hw hk=>(h.sep.box b' cs Ej hw).2.1 r hin hk)
     ·exact hk2.elim
    ·exact hk.elim
   ·exact hk.elim
  ·exact hk.elim
 ·exact hk.elim
end Go.T
