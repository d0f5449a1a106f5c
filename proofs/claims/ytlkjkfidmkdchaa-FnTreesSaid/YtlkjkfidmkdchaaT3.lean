import Derived.Test.YtlkjkfidmkdchaaT2
import Derived.Deep.AppendSrc
import Derived.Deep.MidRow
import Derived.Deep.Upon
import Derived.Laws.MakeOwn
import Derived.Laws.IdiomStrings
import Derived.Laws.IdiomCopy
set_option linter.all false
namespace Go.T
variable {F : Nat → Prop} {A : Arg} {w0 w w' : World} {φ φ' : Fp} {st st' cF jD : TS} {tm xB : Array Value} {C : hD}
theorem mh: ∀(W:List (Nat×OB)) (ob:List (Nat×OB)) (d:Nat),aa d (fT W ob)=match aa d W with|some b=>some b|none=>aa d ob
 |[],ob,d=>rfl
 |(i,b)::r,ob,d=>by
  simp only[fT,c6,aa,mh r ob d]
  by_cases h:d=i
  ·subst h;simp
  ·rw[aR h,beq_false (Ne.symm h)]
theorem Fo {α:Type}: ∀{W:List (Nat×α)} {d:Nat},d∈mG W↔ ∃b,aa d W=some b
 |[],d=>by simp[mG,aa]
 |(i,b)::r,d=>by
  simp only[mG,cu,Fo (W:=r),aa]
  by_cases h:d=i
  ·subst h;simp
  ·rw[beq_false (Ne.symm h)];simp[h]
theorem Am {α:Type} {W:List (Nat×α)} {d:Nat} (h:d∉mG W):aa d W=none:=by
 cases hd:aa d W with
 |none=>rfl
 |some b=>exact absurd (Fo.2 ⟨b,hd⟩) h
theorem xJ {a l:List Nat} (h:nT a l=true): ∃x,x∈a∧x∈l:=by
 induction a with
 |nil=>cases h
 |cons y r ih=>
  simp only[nT] at h
  cases h1:gG y l with
  |true=>exact⟨y,.head _,fU.1 h1⟩
  |false=>rw[h1] at h;obtain⟨x,a,b⟩:=ih h;exact⟨x,.tail _ a,b⟩
def Fp.wr (φ:Fp) (W:List (Nat×OB)) (X:Nat→Nat→Prop) (Z:Nat→Prop):Fp:=
 {φ with I:=fun k=>φ.I k∨Z k,S:=fun d k=>match aa d W with|some _=>X d k|none=>φ.S d k}
theorem Ew {W:List (Nat×OB)} {X:Nat→Nat→Prop} {Z:Nat→Prop} {d k:Nat} (h:aa d W=none):(φ.wr W X Z).S d k=φ.S d k:=by
 unfold Fp.wr;simp only[h]
theorem HZ {W:List (Nat×OB)} {X:Nat→Nat→Prop} {Z:Nat→Prop} {d k:Nat} {b:OB} (h:aa d W=some b):(φ.wr W X Z).S d k=X d k:=by
 unfold Fp.wr;simp only[h]
theorem aH.wrote (h:aH F A w0 φ st tm w) (W:List (Nat×OB)) (X:Nat→Nat→Prop) (Z G:Nat→Prop)
 (hf:Kl F w0 w') (hsz:w.heap.size≤w'.heap.size) (hw: ∀k,k<w.heap.size→ ¬G k→w'.heap[k]?=w.heap[k]?)
 (gF: ∀k,G k→w0.heap.size≤k∨F k) (gI: ∀k,G k→ ¬φ.I k) (gS: ∀k o,G k→aA st.ob o→aa o W=none→ ¬φ.S o k) (gB: ∀b cs,aa b st.bx=some cs→ ¬G (φ.β b).block)
 (hW: ∀o b',aa o W=some b'→ ∃b,aa o st.ob=some b∧b'.z=b.z∧b'.rows.length=b.rows.length∧aj w' (fun k=>φ.I k∨Z k) b'.m (X o) (.sub b'.z b'.rows) (φ.V o)∧
   ∀k,X o k→k<w'.heap.size∧(w0.heap.size≤k∨F k)∧ ¬φ.I k∧ ¬Z k∧(∀d,aA st.ob d→aa d W=none→ ¬φ.S d k)∧(∀d b,aa d W=some b→X d k→d=o)∧ ∀b cs,aa b st.bx=some cs→rE b=true→(φ.β b).block≠k)
 (hZ: ∀k,Z k→k<w'.heap.size∧(w0.heap.size≤k∨F k∨A.sh k)∧(∀d,aA st.ob d→aa d W=none→ ¬φ.S d k)∧ ∀b cs,aa b st.bx=some cs→rE b=true→(φ.β b).block≠k):
 aH F A w0 (φ.wr W X Z) (nH W st) tm w':=by
 have kk: ∀d,aA (fT W st.ob) d↔aA st.ob d:=fun d=>by
  unfold aA;rw[mh]
  cases hd:aa d W with
  |none=>rfl
  |some b=>obtain⟨b0,h0,_⟩:=hW d b hd;exact⟨fun _=>⟨b0,h0⟩,fun _=>⟨b,rfl⟩⟩
 have gA: ∀k,G k→ ¬A.all k:=fun k hg ha=>by
  have:=h.sep.iR k ha;rcases gF k hg with h3|h3
  ·omega
  ·exact this.2 h3
 have stI: ∀k,φ.I k→w'.heap[k]?=w.heap[k]?:=fun k hk=>hw k (h.sep.ro k hk).1 fun hg=>gI k hg hk
 have stS: ∀d k,aa d W=none→d=0∨aA st.ob d→φ.S d k→w'.heap[k]?=w.heap[k]?:=fun d k hn hd hk=>hw k (h.sep.lt h.frm.size hd hk) fun hg=>by
  rcases hd with rfl|hd
  ·rw[h.sep.arg] at hk;exact gA k hg hk
  ·exact gS k d hg hd hn hk
 have w0n:aa 0 W=none:=by
  cases h0:aa 0 W with
  |none=>rfl
  |some b=>obtain⟨b0,h1,_⟩:=hW 0 b h0;exact absurd rfl (h.sep.nz 0 ⟨b0,h1⟩)
 have stR: ∀ds k,(∀d∈ds,aa d W=none)→(∀d∈ds,d=0∨aA st.ob d)→rd φ ds k→rd (φ.wr W X Z) ds k∧w'.heap[k]?=w.heap[k]?:=fun ds k hn hd hk=>by
  rcases hk with hk|⟨d,hm,hk⟩
  ·exact⟨.inl (.inl hk),stI k hk⟩
  ·exact⟨.inr ⟨d,hm,by rw[Ew (hn d hm)];exact hk⟩,stS d k (hn d hm) (hd d hm) hk⟩
 have stV: ∀p b1 ad n c i f tc u,aa p W=none→aa p st.ob=some b1→φ.V p= .slice (some ad) n c→p6 b1.rows i f=some tc→w.cell? (ad.add (i*b1.z+f))=some u→w'.cell? (ad.add (i*b1.z+f))=some u:=by
  intro p b1 ad n c i f tc u hne hp hv ht hcell;have hO:=h.obj p b1 hp;unfold iU at hO;rw[hv] at hO
  have hS:φ.S p ad.block:=by
   cases hO with
   |sub _ _ _ _ _ _ u T k hn=>exact(k.own (by unfold OB.m;split<;>simp)).2 ad rfl|>.1
  rw[dr (w:=w)]
  ·exact hcell
  ·rw[bO];exact stS p _ hne (.inr ⟨b1,hp⟩) hS
 have cbox: ∀p cs,aa p st.bx=some cs→w'.heap[(φ.β p).block]?=w.heap[(φ.β p).block]?:=fun p cs hp=>hw _ (h.sep.spot p cs hp).2.1 (gB p cs hp)
 have look1: ∀{d b},aa d st.ob=some b→ ∃b',aa d (fT W st.ob)=some b'∧b'.z=b.z∧b'.rows.length=b.rows.length∧(aa d W=none→b'=b):=fun {d b} hb=>by
  rw[mh]
  cases hd:aa d W with
  |none=>exact⟨b,hb,rfl,rfl,fun _=>rfl⟩
  |some b'=>
   obtain⟨b0,h0,h1,h2,_⟩:=hW d b' hd;rw[hb] at h0;cases h0;exact⟨b',rfl,h1,h2,fun e=>by cases e⟩
 have obj: ∀o b,aa o (fT W st.ob)=some b→iU w' (φ.wr W X Z) o b:=fun o b ho=>by
  rw[mh] at ho;unfold iU
  cases hd:aa o W with
  |none=>
   rw[hd] at ho;refine(aj.mono ((h.obj o b ho).move (fun k hk=>⟨.inl hk,stI k hk⟩) fun _ k hk=>stS o k hd (.inr ⟨b,ho⟩) hk) fun k hk=> ?_);rw[Ew hd];exact hk
  |some b'=>
   rw[hd] at ho
   cases ho
   obtain⟨b0,h0,h1,h2,h3,_⟩:=hW o _ hd;refine aj.mono h3 fun k hk=> ?_;rw[HZ hd];exact hk
 have hce: ∀e v,cg st.ob w φ e v→cg (fT W st.ob) w' (φ.wr W X Z) (wC (mG W) e) v:=fun e v he=>by
  cases e with
  |ref p cut=>
   obtain⟨b1,h1,h2⟩:=he;obtain⟨b',g1,g2,g3,_⟩:=look1 h1;refine⟨b',g1,?_⟩
   cases cut with
   |none=>exact h2
   |some q=>obtain⟨l,r⟩:=q;simp only at h2 ⊢;rw[g2,g3];exact h2
  |snap ds loc z rows=>
   simp only[wC]
   cases hd:nT ds (mG W) with
   |true=>trivial
   |false=>
    have hn: ∀d∈ds,aa d W=none:=fun d hm=>Am (lK hd hm);obtain⟨h1,h2,h3⟩:=he;refine⟨fun d hm=>(h1 d hm).imp id (kk d).2,h2.move (fun k hk=>stR ds k hn h1 hk) (fun hm=>absurd rfl hm),fun p i f hl=> ?_⟩;obtain⟨a1,b1,a2,a3,a4,ad,n,c,a5,a6⟩:=h3 p i f hl;obtain⟨b',g1,_,_,g4⟩:=look1 a2;have:=g4 (hn p a1);subst this;exact⟨a1,_,g1,a3,a4,ad,n,c,a5,stV p _ ad n c _ _ _ _ (hn p a1) a2 a5 a4 a6⟩
  |_=>exact he
 have Bb: ∀e v,(∀t es,e≠ .v t es)→bR st.ob w φ e v→bR (fT W st.ob) w' (φ.wr W X Z) (sF (mG W) e) v:=fun e v hv he=>by
  cases e with
  |v t es=>exact absurd rfl (hv t es)
  |ep ds cells=>
   simp only[sF]
   cases hd:nT ds (mG W) with
   |true=>trivial
   |false=>
    have hn: ∀d∈ds,aa d W=none:=fun d hm=>Am (lK hd hm);obtain⟨h1,ad,h2,hr,h3⟩:=he;refine⟨fun d hm=>(h1 d hm).imp id (kk d).2,ad,h2,fun hc=>(stR ds _ hn h1 (hr hc)).1,fun j tc hj=> ?_⟩;obtain⟨u,h4,h5⟩:=h3 j tc hj
    have hc:cells≠[]:=fun e=>by rw[e] at hj;simp at hj
    exact⟨u,by rw[dr (w:=w) (by rw[bO];exact(stR ds _ hn h1 (hr hc)).2)];exact h4,h5.move (fun k hk=>stR ds k hn h1 hk) (fun hm=>absurd rfl hm)⟩
  |er p path i f=>
   obtain⟨b1,h1,h2,ad,n,c,h3,h4⟩:=he;obtain⟨b',g1,g2,g3,g4⟩:=look1 h1
   cases path with
   |none=>exact⟨b',g1,h2,ad,n,c,h3,by simp only at h4 ⊢;rw[g2];exact h4⟩
   |some q=>
    obtain⟨i0,f0⟩:=q;simp only[sF]
    cases hd:gG p (mG W) with
    |true=>trivial
    |false=>
     have hn:=Am (cL.1 hd);have:=g4 hn;subst this;obtain⟨a1,z1,kV,a2,ad1,n1,c1,a3,a4⟩:=h4;exact⟨_,g1,h2,ad,n,c,h3,a1,z1,kV,a2,ad1,n1,c1,stV p _ ad n c _ _ _ _ hn h1 h3 a2 a3,a4⟩
  |_=>exact he
 have hsep: ∀bx',(∀b cs',aa b bx'=some cs'→ ∃cs,aa b st.bx=some cs∧cs'.length=cs.length)→Sep F A w0 w' (φ.wr W X Z) bx' (fT W st.ob):=fun bx' Bc=>by
  have hs:=h.sep.boxes Bc
  exact {
   arg:=by
    funext k
    rw[Ew w0n,h.sep.arg]
   nz:=fun d hd=>h.sep.nz d ((kk d).1 hd)
   apart:=fun d d' k h1 h2 h3 h4=>by
    have i1:=(kk d).1 h1;have i2:=(kk d').1 h2
    cases e1:aa d W with
    |some b=>
     rw[HZ e1] at h3;obtain⟨_,_,_,_,_,hx⟩:=hW d b e1;obtain⟨_,_,_,_,x5,x6,_⟩:=hx k h3
     cases e2:aa d' W with
     |some b'=>rw[HZ e2] at h4;exact(x6 d' b' e2 h4).symm
     |none=>rw[Ew e2] at h4;exact absurd h4 (x5 d' i2 e2)
    |none=>
     rw[Ew e1] at h3
     cases e2:aa d' W with
     |some b'=>
      rw[HZ e2] at h4;obtain⟨_,_,_,_,_,hx⟩:=hW d' b' e2;exact absurd h3 ((hx k h4).2.2.2.2.1 d i1 e1)
     |none=>rw[Ew e2] at h4;exact h.sep.apart d d' k i1 i2 h3 h4
   read:=fun d k hd hk=>by
    have hd:=(kk d).1 hd
    cases e1:aa d W with
    |some b=>
     rw[HZ e1] at hk;obtain⟨_,_,_,_,_,hx⟩:=hW d b e1;obtain⟨_,_,x3,x4,_⟩:=hx k hk;exact fun hi=>hi.elim x3 x4
    |none=>
     rw[Ew e1] at hk;exact fun hi=>hi.elim (h.sep.read d k hd hk) fun hz=>(hZ k hz).2.2.1 d hd e1 hk
   fresh:=fun d k hd hk=>by
    have hd:=(kk d).1 hd
    cases e1:aa d W with
    |some b=>
     rw[HZ e1] at hk;obtain⟨_,_,_,_,_,hx⟩:=hW d b e1;exact⟨(hx k hk).1,(hx k hk).2.1⟩
    |none=>
     rw[Ew e1] at hk;exact⟨fG (h.sep.fresh d k hd hk).1 hsz,(h.sep.fresh d k hd hk).2⟩
   ro:=fun k hk=>hk.elim (fun hk=>⟨fG (h.sep.ro k hk).1 hsz,(h.sep.ro k hk).2⟩) fun hz=>⟨(hZ k hz).1,(hZ k hz).2.1⟩
   iR:=h.sep.iR
   box:=fun p cs hp wY=>by
    obtain⟨cs0,c1,_⟩:=Bc p cs hp;obtain⟨a1,a2,a3,a4⟩:=hs.box p cs hp wY;refine⟨fun hi=>hi.elim a1 fun hz=>(hZ _ hz).2.2.2 p cs0 c1 wY rfl,fun d hd hk=> ?_,a3,a4⟩;have hd:=(kk d).1 hd
    cases e1:aa d W with
    |some b=>
     rw[HZ e1] at hk;obtain⟨_,_,_,_,_,hx⟩:=hW d b e1;exact(hx _ hk).2.2.2.2.2.2 p cs0 c1 wY rfl
    |none=>rw[Ew e1] at hk;exact a2 d hd hk
   spot:=fun p cs hp=>⟨(hs.spot p cs hp).1,fG (hs.spot p cs hp).2.1 hsz,(hs.spot p cs hp).2.2⟩
   soft:=fun p cs j hp wY hj=>by
    obtain⟨cs0,c1,c2⟩:=Bc p cs hp;rw[gJ (w:=w) (by rw[bO];exact cbox p cs0 c1)]
    exact h.sep.soft p cs0 j c1 wY az}
 have Bc: ∀b cs,aa b st.bx=some cs→ ∀j,j<cs.length→w'.cell? ((φ.β b).add j)=w.cell? ((φ.β b).add j):=fun p cs hp j _=>dr (by rw[bO];exact cbox p cs hp)
 cases W with
 |nil=>
  have:=h.xG (f:=id) (g:=id) (k:=id) (φ':=φ.wr [] X Z) rfl rfl (fun e v he=> ?_) (fun e v hv he=> ?_) Bc obj (by rw[Aj];exact hsep st.bx fun b cs hb=>⟨cs,hb,rfl⟩) hf
  ·rw[oO] at this;exact this
  ·have:=hce e v he
   have e1:wC (mG ([]:List (Nat×OB))) e=e:=by
    cases e with
    |snap ds l z rows=>simp only[wC];cases hd:nT ds (mG ([]:List (Nat×OB))) with
     |true=>obtain⟨x,_,hx⟩:=xJ hd;cases hx
     |false=>rfl
    |_=>rfl
   rw[e1] at this;exact this
  ·have:=Bb e v hv he
   have e1:sF (mG ([]:List (Nat×OB))) e=e:=by
    cases e with
    |ep ds cells=>simp only[sF];cases hd:nT ds (mG ([]:List (Nat×OB))) with
     |true=>obtain⟨x,_,hx⟩:=xJ hd;cases hx
     |false=>rfl
    |er p path i f=>cases path<;>rfl
    |_=>rfl
   rw[e1] at this;exact this
 |cons a r=>exact h.xG (f:=wC (mG (a::r))) (g:=sF (mG (a::r))) (k:=fT (a::r)) rfl rfl hce Bb Bc obj (hsep _ (eg _)) hf
end Go.T
namespace Go.T
variable {F : Nat → Prop} {A : Arg} {w0 w w' : World} {φ φ' : Fp} {st st' cF jD : TS} {tm xB : Array Value} {C : hD}
variable {R : Type} {cf : Cf} {lp : Lp} {Q : R → Prop}
theorem Ln {ob:List (Nat×OB)} {e:CE} {v:Value} (h:cg ob w φ e v) (hg:e≠ .gone) (hb: ∀o b,aa o ob=some b→iU w φ o b):v.oneCell'=true:=by
 cases e with
 |sc x=>obtain⟨rfl,h⟩:=h;cases v<;>first|rfl|cases h
 |nil z=>obtain⟨rfl,_⟩:=h;rfl
 |ref o cut=>
  obtain⟨b,h1,h2⟩:=h;have:=iU.cut (hb o b h1) h2
  cases this;rfl
 |snap ds l z rows=>have:=h.2.1;cases this;rfl
 |gone=>exact absurd rfl hg
theorem mP {Rd S:Nat→Prop} {m:Mode} {c:TC} {v:Value} (h:aj w Rd m S c v):v.oneCell'=true:=by
 cases h with
 |any _ _ _ h=>exact h.1
 |sc _ _ _ h=>cases v<;>first|rfl|cases h
 |sub=>rfl
theorem iH (b:Nat): ∀(vs:List Value) (o:Nat) (w:World),(w.setCells b o vs).os=w.os∧(w.setCells b o vs).tape=w.tape∧(w.setCells b o vs).output=w.output∧(w.setCells b o vs).heap.size=w.heap.size
 |[],_,_=>⟨rfl,rfl,rfl,rfl⟩
 |v::r,o,w=>by
  obtain⟨h1,h2,h3,h4⟩:=iH b r (o+1) (w.setCell ⟨b,o,none⟩ v);refine⟨h1,h2,h3,?_⟩;rw[World.setCells,h4];simp[World.setCell]
theorem dx (b o:Nat) (vs:List Value) (w:World) {k:Nat} (hk:k<w.heap.size) (hne:k≠b):(w.setCells b o vs).heap[k]?=w.heap[k]?:=World.heap_setCells_other w b o vs hk hne
theorem Kl.setCells {b o:Nat} {vs:List Value} (h:Kl F w0 w) (hb:w0.heap.size≤b∨F b):Kl F w0 (w.setCells b o vs):=by
 obtain⟨h1,h2,h3,h4⟩:=iH b vs o w;refine⟨h1.trans h.os,h2.trans h.tape,h3.trans h.output,by rw[h4];exact h.size,fun k hk hF=> ?_⟩;rw[dx b o vs w (fG hk h.size) (fun e=>by subst e;rcases hb with hb|hb;omega;exact hF hb)];exact h.block k hk hF
def cO (M:Mode):List TC→List Value→List It
 |c::cs,v::vs=>(M,c,v)::cO M cs vs
 |_,_=>[]
theorem iO {M:Mode}: ∀{cs:List TC} {vs:List Value} {i:Nat} {it:It},(cO M cs vs)[i]?=some it→ ∃c v,cs[i]?=some c∧vs[i]?=some v∧it=(M,c,v)
 |[],_,_,_,h=>by simp[cO] at h
 |_::_,[],_,_,h=>by simp[cO] at h
 |c::cs,v::vs,0,it,h=>by simp only[cO,cP,bg] at h;exact⟨c,v,rfl,rfl,h.symm⟩
 |c::cs,v::vs,i+1,it,h=>by
  simp only[cO,mE] at h;obtain⟨c',v',h1,h2,h3⟩:=iO h;exact⟨c',v',by simpa using h1,by simpa using h2,h3⟩
theorem je {M:Mode}: ∀{cs:List TC} {vs:List Value} {i:Nat} {c:TC} {v:Value},cs[i]?=some c→vs[i]?=some v→(cO M cs vs)[i]?=some (M,c,v)
 |[],_,_,_,_,h,_=>by simp at h
 |_::_,[],_,_,_,_,h=>by simp at h
 |c0::cs,v0::vs,0,c,v,h1,h2=>by
  simp only[cP,bg] at h1 h2;subst h1 h2
  rfl
 |c0::cs,v0::vs,i+1,c,v,h1,h2=>by
  simp only[cO,mE] at h1 h2 ⊢;exact je h1 h2
theorem eU {M:Mode}: ∀{cs:List TC} {vs:List Value},cs.length=vs.length→(cO M cs vs).length=cs.length
 |[],[],_=>rfl
 |[],_::_,h=>by cases h
 |_::_,[],h=>by cases h
 |c::cs,v::vs,h=>by simp only[cO,e7];rw[eU (cs:=cs) (vs:=vs) (by simpa using h)]
theorem q9 {M:Mode}: ∀{cs cs':List TC} {vs vs':List Value},cs.length=vs.length→cO M (cs++cs') (vs++vs')=cO M cs vs++cO M cs' vs'
 |[],_,[],_,_=>rfl
 |[],_,_::_,_,h=>by cases h
 |_::_,_,[],_,h=>by cases h
 |c::cs,cs',v::vs,vs',h=>by
  simp only[w4,cO];rw[q9 (cs:=cs) (vs:=vs) (by simpa using h)]
structure g8 (w:World) (φ:Fp) (st st':TS) (ct:List It) (X:Nat→Nat→Prop) (Z:Nat→Prop):Prop where
 ok: ∀(i:Nat) (it:It),ct[i]?=some it→aj w (fun k=>φ.I k∨Z k) it.1 (X i) it.2.1 it.2.2
 src: ∀(i k:Nat),i<ct.length→X i k→ ¬Z k∧ ∃o,aA st.ob o∧ ¬aA st'.ob o∧φ.S o k
 srcZ: ∀k,Z k→ ∃o,aA st.ob o∧ ¬aA st'.ob o∧φ.S o k
 apart: ∀(i j k:Nat),i<ct.length→j<ct.length→X i k→X j k→i=j
 sub:cR st' st
theorem g8.nil (st:TS):g8 w φ st st [] (fun _ _=>False) (fun _=>False):=⟨fun i it h=>by simp at h,fun i k h=>by simp at h,fun k h=>h.elim,fun i j k h=>by simp at h,cR.refl _⟩
theorem gL.parts (h:aH F A w0 φ st tm w) {ct:List It} {os:List Nat} (t:gL w φ st st' ct os): ∃X Z,g8 w φ st st' ct X Z:=by
 obtain⟨I,X,hb,hn⟩:=t.MS h
 have dom: ∀i it o,ct[i]?=some it→os[i]?=some o→o≠0→aA st.ob o∧ ¬aA st'.ob o:=fun i it o hi ho h0=>by
  rcases t.at' i it o hi ho with⟨e,_⟩|⟨hd,hd',_⟩
  ·exact absurd e h0
  ·exact⟨hd,hd'⟩
 have own_S: ∀{m v S k},Dc m v S k→S k:=fun {m v S k} hk=>by
  cases m with
  |snap=>exact hk.elim
  |top=>exact hk.1
  |deep=>exact hk
 refine⟨fun i k=> ∃(it:It) (o:Nat),ct[i]?=some it∧os[i]?=some o∧o≠0∧Dc it.1 it.2.2 (φ.S o) k,
  fun k=> ∃(i:Nat) (it:It) (o:Nat),ct[i]?=some it∧os[i]?=some o∧o≠0∧φ.S o k∧ ¬Dc it.1 it.2.2 (φ.S o) k,⟨fun i it hi=> ?_,fun i k hi hk=> ?_,fun k hk=> ?_,fun i j k hi hj hk hk'=> ?_,t.sub⟩⟩
 ·obtain⟨o,ho⟩: ∃o,os[i]?=some o:=⟨_,aX (by rw[t.len];exact(List.getElem?_eq_some_iff.1 hi).1)⟩
  rcases t.at' i it o hi ho with⟨e,hc⟩|⟨hd,hn,m',hm,SV,hc⟩
  ·exact(hc.jL fun k hk=> .inl hk).mono fun k hk=>hk.elim
  ·have h0:=h.sep.nz o hd
   exact(hc.out hm SV (fun k hk=> .inl hk) fun k hk hno=> .inr ⟨i,it,o,hi,ho,h0,hk,hno⟩).mono fun k hk=>⟨it,o,hi,ho,h0,hk⟩
 ·obtain⟨it,o,h1,h2,h0,hk⟩:=hk
  obtain⟨hd,hd'⟩:=dom i it o h1 h2 h0;refine⟨?_,o,hd,hd',own_S hk⟩;rintro⟨i',it',o',g1,g2,g0,g3,g4⟩;have:=h.sep.apart o o' k hd (dom i' it' o' g1 g2 g0).1 (own_S hk) g3;subst this;have:=t.inj i i' o h2 g2 h0;subst this;rw[h1] at g1
  cases g1
  exact g4 hk
 ·obtain⟨i,it,o,h1,h2,h0,hk,_⟩:=hk
  obtain⟨hd,hd'⟩:=dom i it o h1 h2 h0;exact⟨o,hd,hd',hk⟩
 ·obtain⟨it,o,h1,h2,h0,hk⟩:=hk
  obtain⟨it',o',g1,g2,g0,hk'⟩:=hk';have:=h.sep.apart o o' k (dom i it o h1 h2 h0).1 (dom j it' o' g1 g2 g0).1 (own_S hk) (own_S hk');subst this;exact t.inj i j o h2 g2 h0
theorem g8.app (h:aH F A w0 φ st tm w) {a b:List It} {Xa Xb:Nat→Nat→Prop} {Za Zb:Nat→Prop} (p:g8 w φ st cF a Xa Za) (q:g8 w φ cF jD b Xb Zb):
 g8 w φ st jD (a++b) (fun i k=>if i<a.length then Xa i k else Xb (i-a.length) k) (fun k=>Za k∨Zb k):=by
 have cross: ∀k,(∃o,aA st.ob o∧ ¬aA cF.ob o∧φ.S o k)→(∃o,aA cF.ob o∧ ¬aA jD.ob o∧φ.S o k)→False:=fun k ⟨o,a1,a2,a3⟩ ⟨o',b1,b2,b3⟩=>by
  have:=h.sep.apart o o' k a1 (p.sub.dom b1) a3 b3;subst this;exact a2 b1
 have upa: ∀{k},(∃o,aA st.ob o∧ ¬aA cF.ob o∧φ.S o k)→ ∃o,aA st.ob o∧ ¬aA jD.ob o∧φ.S o k:=fun⟨o,a1,a2,a3⟩=>⟨o,a1,fun hd=>a2 (q.sub.dom hd),a3⟩;have upb: ∀{k},(∃o,aA cF.ob o∧ ¬aA jD.ob o∧φ.S o k)→ ∃o,aA st.ob o∧ ¬aA jD.ob o∧φ.S o k:=fun⟨o,a1,a2,a3⟩=>⟨o,p.sub.dom a1,a2,a3⟩;refine⟨fun i it hi=> ?_,fun i k hi hk=> ?_,fun k hk=> ?_,fun i j k hi hj hk hk'=> ?_,q.sub.trans p.sub⟩
 ·by_cases hl:i<a.length
  ·rw[iE hl] at hi
   simp only[aZ hl];exact(p.ok i it hi).jL fun k hk=>hk.imp id .inl
  ·rw[jo az] at hi
   simp only[aR hl];exact(q.ok _ it hi).jL fun k hk=>hk.imp id .inr
 ·by_cases hl:i<a.length
  ·simp only[aZ hl] at hk
   obtain⟨h1,h2⟩:=p.src i k hl hk;exact⟨fun hz=>hz.elim h1 fun hb=>cross k h2 (q.srcZ k hb),upa h2⟩
  ·simp only[aR hl] at hk
   obtain⟨h1,h2⟩:=q.src _ k (by simp at hi;omega) hk;exact⟨fun hz=>hz.elim (fun ha=>cross k (p.srcZ k ha) h2) h1,upb h2⟩
 ·exact hk.elim (fun h=>upa (p.srcZ k h)) fun h=>upb (q.srcZ k h)
 ·simp only[cW] at hi hj
  by_cases hl:i<a.length
  ·simp only[aZ hl] at hk
   by_cases hl':j<a.length
   ·simp only[aZ hl'] at hk';exact p.apart i j k hl hl' hk hk'
   ·simp only[aR hl'] at hk'
    exact(cross k (p.src i k hl hk).2 (q.src _ k az hk').2).elim
  ·simp only[aR hl] at hk
   by_cases hl':j<a.length
   ·simp only[aZ hl'] at hk'
    exact(cross k (p.src j k hl' hk').2 (q.src _ k az hk).2).elim
   ·simp only[aR hl'] at hk'
    have:=q.apart _ _ k az az hk hk';omega
theorem wK {kG:TS} (M:Mode): ∀(cs:List CE) (st:TS) (vs:List Value) (ts:List TC) (st':TS) (d:Bool),aH F A w0 φ st tm w→cR st kG→vs.length=cs.length→(∀(j:Nat) (e:CE),cs[j]?=some e→ ∃v,vs[j]?=some v∧cg kG.ob w φ e v)→
 (M= .snap∨d=true∧M= .deep)→CS cs st=some (ts,st',d)→aH F A w0 φ st' tm w∧ts.length=cs.length∧cR st' st∧ ∃os,gL w φ st st' (cO M ts vs) os
 |[],st,vs,ts,st',d,h,hs,hl,hc,hM,ho=>by
  cases ho
  exact⟨h,rfl,cR.refl _,[],by cases vs<;>exact gL.nil _⟩
 |e::r,st,vs,ts,st',d,h,hs,hl,hc,hM,ho=>by
  simp only[CS] at ho
  split at ho
  ·rename_i c cF d1 hab
   split at ho
   ·rename_i cs' jD d2 LY
    cases ho
    cases vs with
    |nil=>cases hl
    |cons v vs=>
     obtain⟨v',J5,hok⟩:=hc 0 e rfl;simp only[cP,bg] at J5;subst J5;obtain⟨h1,FY,ht⟩:=Gs h hs hok hab
     obtain⟨o,ht⟩:=ht M (by
      rcases hM with rfl|⟨hd,rfl⟩
      ·unfold Jc;cases e<;>rfl
      ·simp only[dg] at hd
       have TO:=hd.1;subst TO
       cases e with
       |snap ds l z rows=>
        cases ds with
        |nil=>simp[jI] at hab
        |cons _ _=>simp[jI] at hab
       |gone=>simp[jI] at hab
       |_=>rfl)
     obtain⟨h2,yj,UN,os,hts⟩:=wK M r cF vs cs' _ d2 h1 (FY.trans hs) (by simpa using hl) (fun j e he=>by
      obtain⟨v',a1,a2⟩:=hc (j+1) e (by simpa using he)
      exact⟨v',by simpa using a1,a2⟩) (by
       rcases hM with hM|⟨hd,hM⟩
       ·exact .inl hM
       ·simp only[dg] at hd;exact .inr ⟨hd.2,hM⟩) LY
     exact⟨h2,by simp[yj],UN.trans FY,o::os,(gL.one ht FY).app h.sep.nz hts⟩
   ·cases ho
  ·cases ho
theorem oR {z:Nat}: ∀{rows:List (List TC)},(∀r∈rows,r.length=z)→ ∀{i f:Nat} {tc:TC},p6 rows i f=some tc→rows.flatten[i*z+f]?=some tc∧f<z∧i<rows.length
 |[],_,i,f,tc,h=>by simp[p6] at h
 |r::rs,hw,0,f,tc,h=>by
  have hr:=hw r (.head _);simp only[p6,cP,Option.bind_some] at h
  have hf:f<z:=by rw[←hr];exact(List.getElem?_eq_some_iff.1 h).1
  refine⟨?_,hf,by simp⟩;rw[vf,Nat.zero_mul,ia,iE az];exact h
 |r::rs,hw,i+1,f,tc,h=>by
  have hr:=hw r (.head _)
  have h':p6 rs i f=some tc:=by simpa [p6] using h
  obtain⟨h1,h2,h3⟩:=oR (fun r hr=>hw r (.tail _ hr)) h';refine⟨?_,h2,by simpa using h3⟩;rw[vf,jo (by rw[hr,ni];omega),hr,show(i+1)*z+f-z=i*z+f by rw[ni];omega];exact h1
theorem bS {z:Nat}: ∀{rows:List (List TC)},(∀r∈rows,r.length=z)→rows.flatten.length=rows.length*z
 |[],_=>by simp
 |r::rs,hw=>by
  rw[vf,cW,bS fun r hr=>hw r (.tail _ hr),hw r (.head _),e7,ni];omega
theorem g8.row (dp:Bool) {X:Nat→Nat→Prop} {Z:Nat→Prop} {z:Nat} {rows:List (List TC)} {vs:List Value} (p:g8 w φ st st' (cO (if dp then .deep else .snap) rows.flatten vs) X Z) (hz:0<z) (hw: ∀r∈rows,r.length=z)
 (hl:vs.length=rows.length*z) {ad:Addr} {c:Nat} (hc:rows.length≤c) (Pz:c≤maxLen) (hs:ad.spot=none) (hnew: ∀i k,i<rows.length*z→X i k→k≠ad.block)
 (hmem: ∀k,(φ.I k∨Z k)→w'.heap[k]?=w.heap[k]?) (V3: ∀i k,i<rows.length*z→X i k→w'.heap[k]?=w.heap[k]?)
 (hcell: ∀(j:Nat) (v:Value),vs[j]?=some v→w'.cell? (ad.add j)=some v) (hall: ∀j,j<c*z→(∃x,w'.cell? ⟨ad.block,ad.off+j,none⟩=some x)∧w'.frozen? ⟨ad.block,ad.off+j,none⟩=false) (El:1<z→ ∀i,w'.frozen? ⟨ad.block,i,none⟩=false):
 aj w' (fun k=>φ.I k∨Z k) (OB.m ⟨dp,z,rows⟩) (fun k=>k=ad.block∨ ∃i,i<rows.length*z∧X i k) (.sub z rows) (.slice (some ad) rows.length c):=by
 have hfl:=bS hw
 have hlen:(cO (if dp then Mode.deep else .snap) rows.flatten vs).length=rows.length*z:=by rw[eU (by rw[hfl,hl]),hfl]
 have inj: ∀{i f i' f':Nat},f<z→f'<z→i*z+f=i'*z+f'→i=i'∧f=f':=fun {i f i' f'} h1 h2 e=>by
  have e1:(i*z+f)/z=i:=by rw[Nat.mul_comm,Nat.mul_add_div hz,Nat.div_eq_of_lt h1,mF]
  have e2:(i'*z+f')/z=i':=by rw[Nat.mul_comm,Nat.mul_add_div hz,Nat.div_eq_of_lt h2,mF]
  have:i=i':=by rw[←e1,e,e2]
  subst this;exact⟨rfl,by omega⟩
 refine .sub _ _ z rows (some ad) c (fun i f=>vs.getD (i*z+f) undef) (fun i f k=>f<z∧i<rows.length∧dp=true∧X (i*z+f) k) ⟨hc,Pz,hz,hw,fun _=>⟨ad,rfl⟩,?_,?_,?_,fun _ LX ad' e i=>(by cases e;exact El LX i),?_⟩ ?_
 ·intro ad' e i f tc ht
  cases e
  obtain⟨h1,h2,h3⟩:=oR hw ht
  have hlt:i*z+f<vs.length:=by rw[hl,←hfl];exact(List.getElem?_eq_some_iff.1 h1).1
  rw[hcell _ _ (aX hlt)];simp[List.getD,aX hlt]
 ·intro hm
  exfalso
  revert hm
  unfold OB.m
  split<;>simp
 ·intro _
  refine⟨fun e=>(by cases e),fun ad' e=> ?_⟩
  cases e
  exact⟨.inl rfl,hs,hall⟩
 ·intro hm i f k hk
  obtain⟨h1,h2,h3,h4⟩:=hk;have hi:i*z+f<rows.length*z:=fG (Nat.add_lt_add_left h1 _) (by rw[←CQ];exact lJ _ h2);refine⟨.inr ⟨_,hi,h4⟩,fun ad' e=>(by cases e;exact hnew _ k hi h4),fun i' f' hk'=> ?_⟩;obtain⟨g1,g2,g3,g4⟩:=hk';have hi':i'*z+f'<rows.length*z:=fG (Nat.add_lt_add_left g1 _) (by rw[←CQ];exact lJ _ g2);exact inj g1 h1 (p.apart _ _ k (by rw[hlen];exact hi') (by rw[hlen];exact hi) g4 h4)
 ·intro i f tc ht
  obtain⟨h1,h2,h3⟩:=oR hw ht
  have hlt:i*z+f<vs.length:=by rw[hl,←hfl];exact(List.getElem?_eq_some_iff.1 h1).1
  have hv:vs[i*z+f]?=some (vs.getD (i*z+f) undef):=by simp[List.getD,aX hlt]
  have:=p.ok _ _ (je h1 hv);simp only at this
  cases dp with
  |true=>
   simp only[if_true] at this;refine(aj.move this (fun k hk=>⟨hk,hmem k hk⟩) fun _ k hk=>V3 _ k (by rw[←hl];exact hlt) hk).mono fun k hk=>⟨h2,h3,rfl,hk⟩
  |false=>
   simp only[rG,if_false] at this;exact(aj.move this (fun k hk=>⟨hk,hmem k hk⟩) fun hm=>absurd rfl hm).ko fun k hk=>hk
end Go.T
namespace Go.T
variable {F : Nat → Prop} {A : Arg} {w0 w w' : World} {φ φ' : Fp} {st st' cF jD : TS} {tm xB : Array Value} {C : hD}
variable {R : Type} {cf : Cf} {lp : Lp} {Q : R → Prop}
theorem aH.QY (h:aH F A w0 φ st tm w) (g:jK w w') {e:CE} {v:Value} (he:cg st.ob w φ e v):cg st.ob w' φ e v:=
 he.stay (fun k hk=>g.block k (h.sep.ro k hk).1) (fun d k hd hk=>g.block k (h.sep.lt h.frm.size hd hk)) fun o ho ad n c hv i v hc=>g.cell hc
theorem oS (w:World) (arr:Array Value) (t:TypeId) (j:Nat):(w.alloc (.cells arr t)).cell? ⟨w.heap.size,j,none⟩=arr[j]?:=by
 unfold World.cell?;simp only[heap_alloc_new]
 rfl
theorem lG (w:World) (arr:Array Value) (t:TypeId) (j:Nat):(w.alloc (.cells arr t)).frozen? ⟨w.heap.size,j,none⟩=false:=by
 unfold World.frozen?;simp only[heap_alloc_new];simp
theorem add_lit (b o j:Nat):(⟨b,o,none⟩:Addr).add j=⟨b,o+j,none⟩:=oq j rfl
theorem MT (h:aH F A w0 φ st tm w) {d:Nat} (hw:rE d=true) {cs:List CE} {arr:Array Value} {t:TypeId} (hc:Sk st.ob w φ cs arr):
 aH F A w0 (φ.box d ⟨w.heap.size,0,none⟩) (z7 d cs st) tm (w.alloc (.cells arr t)):=by
 have g:=jK.alloc w (.cells arr t);refine(h.Jf g).z7 hw rfl dI (fun o ho hS=> ?_) (fun hI=> ?_) (.inl h.frm.size) (fun b' cs' hb' _ e=> ?_) (fun j e he=> ?_) fun j hj=> ?_
 ·have:=(h.sep.fresh o _ ho hS).1;simp at this
 ·have:=(h.sep.ro _ hI).1;simp at this
 ·have:=(h.sep.spot b' cs' hb').2.1;rw[e] at this;simp at this
 ·obtain⟨x,h1,h2,h3⟩:=hc.2 j e he
  exact⟨x,by rw[add_lit,oS,ia];exact h1,h2,h.QY g h3⟩
 ·rw[add_lit];exact lG _ _ _ _
theorem MU (h0:aH F A w0 φ st tm w) (h:aH F A w0 φ st' tm w) {dp:Bool} {z:Nat} {rows:List (List TC)} {vs:List Value} {X:Nat→Nat→Prop} {Z G:Nat→Prop} {d:Nat}
 (p:g8 w φ st st' (cO (if dp then .deep else .snap) rows.flatten vs) X Z) (hz:0<z) (sE: ∀r∈rows,r.length=z) (hl:vs.length=rows.length*z) {ad:Addr} {c:Nat} (hc:rows.length≤c) (Pz:c≤maxLen) (hs:ad.spot=none)
 (hf:Kl F w0 w') (hsz:w.heap.size≤w'.heap.size) (hw: ∀k,k<w.heap.size→ ¬G k→w'.heap[k]?=w.heap[k]?) (hG: ∀k,G k→ ∃o,aA st.ob o∧ ¬aA st'.ob o∧φ.S o k)
 (Vt: ∀k,Z k→ ¬G k∧k≠ad.block) (SX: ∀i k,i<rows.length*z→X i k→ ¬G k∧k≠ad.block) (hb:(w.heap.size≤ad.block∧ad.block<w'.heap.size)∨ ∃o,aA st.ob o∧ ¬aA st'.ob o∧φ.S o ad.block)
 (hcell: ∀(j:Nat) (v:Value),vs[j]?=some v→w'.cell? (ad.add j)=some v) (hall: ∀j,j<c*z→(∃x,w'.cell? ⟨ad.block,ad.off+j,none⟩=some x)∧w'.frozen? ⟨ad.block,ad.off+j,none⟩=false) (El:1<z→ ∀i,w'.frozen? ⟨ad.block,i,none⟩=false) (hd:d<tm.size):
 Rel F A w0 (pK d ⟨dp,z,rows⟩ st') (tm.setIfInBounds d (.slice (some ad) rows.length c)) w':=by
 have kI: ∀{k},(∃o,aA st.ob o∧ ¬aA st'.ob o∧φ.S o k)→ ¬φ.I k:=fun⟨o,a1,a2,a3⟩=>h0.sep.read o _ a1 a3
 have kS: ∀{k},(∃o,aA st.ob o∧ ¬aA st'.ob o∧φ.S o k)→ ∀o',aA st'.ob o'→ ¬φ.S o' k:=fun⟨o,a1,a2,a3⟩ o' ho' hk=>by
  have:=h0.sep.apart o o' _ a1 (p.sub.dom ho') a3 hk;subst this;exact a2 ho'
 have kF: ∀{k},(∃o,aA st.ob o∧ ¬aA st'.ob o∧φ.S o k)→k<w.heap.size∧(w0.heap.size≤k∨F k):=fun⟨o,a1,a2,a3⟩=>h0.sep.fresh o _ a1 a3
 have kB: ∀{k},(∃o,aA st.ob o∧ ¬aA st'.ob o∧φ.S o k)→ ∀b cs,aa b st'.bx=some cs→(φ.β b).block≠k:=fun {k} ⟨o,a1,a2,a3⟩ b cs hb e=>by
  obtain⟨cs0,c0,_⟩:=p.sub.bx b cs hb
  cases wY:rE b with
  |true=>exact(h0.sep.box b cs0 c0 wY).2.1 o a1 (by rw[e];exact a3)
  |false=>
   have h1:=h0.sep.iR _ ((h0.sep.spot b cs0 c0).2.2 wY);rw[e] at h1;rcases (h0.sep.fresh o k a1 a3).2 with h3|h3
   ·omega
   ·exact h1.2 h3
 have h1:=h.wrote (w':=w') [] (fun _ _=>False) Z G hf hsz hw (fun k hk=>(kF (hG k hk)).2) (fun k hk=>kI (hG k hk)) (fun k o hk ho _=>kS (hG k hk) o ho) (fun b cs hb hk=>kB (hG _ hk) b cs hb rfl)
  (fun o b' hb'=>by simp[aa] at hb')
  (fun k hk=>⟨fG (kF (p.srcZ k hk)).1 hsz,(kF (p.srcZ k hk)).2.elim .inl fun hF=> .inr (.inl hF),fun o ho _=>kS (p.srcZ k hk) o ho,fun b cs hb _=>kB (p.srcZ k hk) b cs hb⟩)
 have hlen:(cO (if dp then Mode.deep else .snap) rows.flatten vs).length=rows.length*z:=by rw[eU (by rw[bS sE,hl]),bS sE]
 have hrow:=p.row (w':=w') dp hz sE hl hc Pz hs (fun i k hi hk=>(SX i k hi hk).2)
  (fun k hk=>by
    rcases hk with hk|hk
    ·exact hw k (h0.sep.ro k hk).1 fun hg=>kI (hG k hg) hk
    ·exact hw k (kF (p.srcZ k hk)).1 (Vt k hk).1)
  (fun i k hi hk=>hw k (kF (p.src i k (by rw[hlen];exact hi) hk).2).1 (SX i k hi hk).1) hcell hall El
 have V4: ¬φ.I ad.block:=fun hI=>by
  rcases hb with⟨hb,_⟩|hb
  ·have:=(h0.sep.ro _ hI).1;omega
  ·exact kI hb hI
 have h2:=h1.vj (o:=mC d 0 0) (b:=⟨dp,z,rows⟩) (by unfold mC;omega) hrow (fun k hk=>by
  rcases hk with rfl|⟨i,hi,hk⟩
  ·rcases hb with⟨b1,b2⟩|hb
   ·exact⟨b2,.inl (nS h0.frm.size b1)⟩
   ·exact⟨fG (kF hb).1 hsz,(kF hb).2⟩
  ·have:=kF (p.src i k (by rw[hlen];exact hi) hk).2
   exact⟨fG this.1 hsz,this.2⟩)
  (fun k hk hI=>by
    rcases hk with rfl|⟨i,hi,hk⟩
    ·rcases hI with hI|hI
     ·exact V4 hI
     ·exact(Vt _ hI).2 rfl
    ·have Vu:=p.src i k (by rw[hlen];exact hi) hk
     rcases hI with hI|hI
     ·exact kI Vu.2 hI
     ·exact Vu.1 hI)
  (fun k o hk _ ho hS=>by
    have hS:φ.S o k:=hS;have ho:aA st'.ob o:=ho;rcases hk with rfl|⟨i,hi,hk⟩
    ·rcases hb with⟨b1,_⟩|hb
     ·have:=(h.sep.fresh o _ ho hS).1;omega
     ·exact kS hb o ho hS
    ·exact kS (p.src i k (by rw[hlen];exact hi) hk).2 o ho hS)
  (fun b cs hb' wY hk=>by
    have hb':aa b st'.bx=some cs:=hb';rcases hk with e|⟨i,hi,hk⟩
    ·rcases hb with⟨b1,_⟩|hb
     ·have:=(h.sep.spot b cs hb').2.1
      have e:(φ.β b).block=ad.block:=e;omega
     ·exact kB hb b cs hb' e
    ·exact kB (p.src i _ (by rw[hlen];exact hi) hk).2 b cs hb' rfl)
 have h3:=h2.Eu (d:=d) (e:=one (.ref (mC d 0 0) none)) (v:= .slice (some ad) rows.length c) hd (Gg rfl ⟨⟨dp,z,rows⟩,by
  show aa _ (jk _ _ _)=_
  exact gX,by simp[Fp.add]⟩)
 exact⟨_,h3⟩
theorem Lo (h:aH F A w0 φ st tm w) {dp:Bool} {z d:Nat} (hz:0<z) (hd:d<tm.size):Rel F A w0 (pK d ⟨dp,z,[]⟩ st) (tm.setIfInBounds d (.slice none 0 0)) w:=by
 have h2:=h.vj (o:=mC d 0 0) (b:=⟨dp,z,[]⟩) (X:=zW) (v:= .slice none 0 0) (by unfold mC;omega) (qa hz) (fun k hk=>hk.elim) (fun k hk=>hk.elim) (fun k o hk=>hk.elim) (fun b cs _ _ hk=>hk)
 exact⟨_,h2.Eu (d:=d) (e:=one (.ref (mC d 0 0) none)) (v:= .slice none 0 0) hd (Gg rfl ⟨⟨dp,z,[]⟩,by
  show aa _ (jk _ _ _)=_
  exact gX,by simp[Fp.add]⟩)⟩
theorem aj.parts (h:aH F A w0 φ st tm w) {o:Nat} (ho:aA st.ob o) {m M:Mode} {z:Nat} {rows:List (List TC)} {v:Value} (hr:aj w φ.I m (φ.S o) (.sub z rows) v) (hm:m≠ .snap) (hM:M= .snap∨M= .deep∧m= .deep):
 ∃vals X Z,vals.length=rows.length*z∧g8 w φ st (iT o st) (cO M rows.flatten vals) X Z∧ ∀ad n c,v= .slice (some ad) n c→(∀(j:Nat) (x:Value),vals[j]?=some x→w.cell? (ad.add j)=some x)∧(∀i k,X i k→k≠ad.block)∧ ∀k,Z k→k≠ad.block:=by
 cases hr with
 |sub _ _ _ _ Ad c u T k hn=>
  have hz:=k.z0;have sE:=k.width;have hsub:=cR.kill st o;have hfl:=bS sE
  have at_of: ∀{p:Nat} {tc:TC},rows.flatten[p]?=some tc→p6 rows (p/z) (p % z)=some tc:=fun {p tc} hp=>by
   have hlt:p<rows.length*z:=by rw[←hfl];exact(List.getElem?_eq_some_iff.1 hp).1
   have hi:p/z<rows.length:=Nat.div_lt_of_lt_mul (by rw[Nat.mul_comm];exact hlt);have hrl:=sE _ (oK hi)
   have hf:p % z<(rows[p/z]).length:=by rw[hrl];exact Nat.mod_lt _ hz
   have h1:p6 rows (p/z) (p % z)=some (rows[p/z][p % z]):=by simp[p6,aX hi,aX hf]
   have h2:=(oR sE h1).1;rw[yt p z] at h2;rw[h1,←h2,hp]
  have kk:aA st.ob o∧ ¬aA (iT o st).ob o:=⟨ho,fun hd=>(fP.1 hd).1 rfl⟩
  let vals:List Value:=(List.range (rows.length*z)).map fun p=>u (p/z) (p % z)
  have hvl:vals.length=rows.length*z:=by simp[vals]
  have hval: ∀{p:Nat} {x:Value},vals[p]?=some x→p<rows.length*z∧x=u (p/z) (p % z):=fun {p x} hp=>by
   have hlt:p<rows.length*z:=by rw[←hvl];exact(List.getElem?_eq_some_iff.1 hp).1
   refine⟨hlt,?_⟩;simp[vals,hlt] at hp;exact hp.symm
  have hcl:(cO M rows.flatten vals).length=rows.length*z:=by rw[eU (by rw[hfl,hvl]),hfl]
  have hmem: ∀ad n c',Value.slice Ad rows.length c= .slice (some ad) n c'→ ∀(j:Nat) (x:Value),vals[j]?=some x→w.cell? (ad.add j)=some x:=fun ad n c' e j x hx=>by
   cases e
   obtain⟨hlt,rfl⟩:=hval hx;obtain⟨tc,PA⟩: ∃tc,rows.flatten[j]?=some tc:=⟨_,aX (by rw[hfl];exact hlt)⟩;have:=k.cell ad rfl _ _ tc (at_of PA);rw[yt j z] at this;exact this
  by_cases FX:M= .deep
  ·subst FX
   have G9:m= .deep:=by
    rcases hM with e|⟨_,e⟩
    ·cases e
    ·exact e
   subst G9;refine⟨vals,fun p b=>p<rows.length*z∧T (p/z) (p % z) b,fun _=>False,hvl,⟨fun i it hi=> ?_,fun i b hi hb=> ?_,fun b hb=>hb.elim,fun i j b hi hj hb hb'=> ?_,hsub⟩,fun ad n c' e=>⟨hmem ad n c' e,fun i b hb=> ?_,fun b hb=>hb.elim⟩⟩
   ·obtain⟨tc,x,h1,h2,rfl⟩:=iO hi
    obtain⟨hlt,rfl⟩:=hval h2;exact((hn _ _ tc (at_of h1)).jL fun b hb=> .inl hb).mono fun b hb=>⟨hlt,hb⟩
   ·exact⟨id,o,kk.1,kk.2,(k.kE rfl _ _ b hb.2).1⟩
   ·obtain⟨e1,e2⟩:=(k.kE rfl _ _ b hb.2).2.2 _ _ hb'.2
    rw[←yt i z,←yt j z,e1,e2]
   ·cases e
    exact(k.kE rfl _ _ b hb.2).2.1 ad rfl
  ·have UO:M= .snap:=hM.elim id fun⟨e,_⟩=>absurd e FX
   subst UO;refine⟨vals,fun _ _=>False,fun b=>m= .deep∧ ∃i f,T i f b,hvl,⟨fun i it hi=> ?_,fun i b hi hb=>hb.elim,fun b hb=> ?_,fun i j b hi hj hb=>hb.elim,hsub⟩,fun ad n c' e=>⟨hmem ad n c' e,fun i b hb=>hb.elim,fun b hb=> ?_⟩⟩
   ·obtain⟨tc,x,h1,h2,rfl⟩:=iO hi
    obtain⟨hlt,rfl⟩:=hval h2;exact(hn _ _ tc (at_of h1)).freeze (fun b hb=> .inl hb) fun hx b hb=> .inr ⟨oh hx,_,_,hb⟩
   ·obtain⟨G9,i,f,hb⟩:=hb
    exact⟨o,kk.1,kk.2,(k.kE G9 _ _ b hb).1⟩
   ·cases e
    obtain⟨G9,i,f,hb⟩:=hb;exact(k.kE G9 _ _ b hb).2.1 ad rfl
end Go.T
namespace Go.T
variable {F : Nat → Prop} {A : Arg} {w0 w w' : World} {φ φ' : Fp} {st st' cF jD : TS} {tm xB : Array Value} {C : hD}
variable {R : Type} {cf : Cf} {lp : Lp} {Q : R → Prop}
def Wr (st:TS) (φ:Fp) (l:List Nat) (k:Nat):Prop:=(∃b cs,2*b+1∈l∧aa b st.bx=some cs∧rE b=true∧k=(φ.β b).block)∨ ∃o,2*o∈l∧aA st.ob o∧φ.S o k
def I0 (C:hD) (F:Nat→Prop) (A:Arg) (w0:World) (φ:Fp) (st:TS) (o:Oper) (a:Act) (w:World) (K:TS→Ev R) (cf:Cf) (lp:Lp) (Q:R→Prop):Prop:=
 ∃nx v w' st',(execOp a.eval o).run C.P w= .ok nx w'∧(nx= .value v∨nx= .skip∧v=undef)∧Rel F A w0 st' (a.put o.dst v).tmps w'∧(K st').holds cf lp Q∧w.heap.size≤w'.heap.size∧
  ∀k,k<w.heap.size→ ¬Wr st φ (writes C st o) k→w'.heap[k]?=w.heap[k]?
theorem rU {i:gn} (h:q7 i=true):known i=true∧ ∀e,i.ti≠ .ptr e:=by
 unfold q7 at h;unfold known
 split at h<;>first|cases h|skip
 rename_i h1 h2;exact⟨by split<;>first|rfl|(rename_i e;exact absurd e h1),fun e he=>h2 e he⟩
theorem KA (hT:dN C) {a:Act} (h:aH F A w0 φ st a.tmps w) {o:Oper} {K:TS→Ev R} (hd: ∀d,o.dst=some d→d<a.tmps.size) (hk:(Fb C st o K).holds cf lp Q):I0 C F A w0 φ st o a w K cf lp Q:=by
 unfold Fb at hk
 cases gz:o.dst with
 |none=>rw[gz] at hk;exact hk.elim
 |some d=>
  rw[gz] at hk;obtain⟨v,e,h1,h2,h3,_⟩:=HU hT h hk;exact⟨_,v,w,_,h1,.inl rfl,⟨φ,by rw[gz];exact h.Eu (hd d gz) h2⟩,h3,cq _,fun _ _ _=>rfl⟩
theorem MV (hT:dN C) {a:Act} (h:aH F A w0 φ st a.tmps w) {o:Oper} {t:TypeId} (ho:o.op= .alloc t) {K:TS→Ev R} (hd: ∀d,o.dst=some d→d<a.tmps.size) (hk:(jJ C st o K).holds cf lp Q):I0 C F A w0 φ st o a w K cf lp Q:=by
 unfold jJ at hk;rw[ho] at hk;simp only at hk
 split at hk
 ·rename_i d gz hp
  split at hk
  ·rename_i hw
   obtain⟨hkn,hnp⟩:=rU hp;obtain⟨i,z,h1,h2,h3,h4,h5⟩:=Gn (w:=w) (φ:=φ) hT hkn hnp (ob:=st.ob)
   have hn:=(MT h hw (t:=t) h4).Eu (d:=d) (e:= .bp d 0) (v:= .pointer (some ⟨w.heap.size,0,none⟩)) (hd d gz) (by
    show _=Value.pointer (some (((φ.box d ⟨w.heap.size,0,none⟩).β d).add 0))
    rw[oQ,Addr.add_zero'])
   refine⟨.value (.pointer (some ⟨w.heap.size,0,none⟩)),_,_,_,?_,.inl rfl,⟨_,by rw[gz];exact hn⟩,hk,by simp,fun k hk _=>(jK.alloc w _).block k hk⟩;unfold execOp;rw[ho];simp[Instr.alloc,zeroValue,typeInfo,h1,h3,newVar,newRow]
  ·exact hk.elim
 ·exact hk.elim
theorem QZ (hT:dN C) {a:Act} (h:aH F A w0 φ st a.tmps w) {o:Oper} {t:TypeId} {x:Operand} (ho:o.op= .box t x) {K:TS→Ev R} (hd: ∀d,o.dst=some d→d<a.tmps.size) (hk:(jJ C st o K).holds cf lp Q):I0 C F A w0 φ st o a w K cf lp Q:=by
 unfold jJ at hk;rw[ho] at hk;simp only at hk
 split at hk
 ·rename_i d cs gz hc
  split at hk
  ·rename_i hw
   have hcs:=mL (cQ hT h t x) hc
   have hn:=(MT h hw (t:=t) (arr:=(a.eval x).cells) hcs).Eu (d:=d) (e:= .bp d 0) (v:= .pointer (some ⟨w.heap.size,0,none⟩)) (hd d gz) (by
    show _=Value.pointer (some (((φ.box d ⟨w.heap.size,0,none⟩).β d).add 0))
    rw[oQ,Addr.add_zero'])
   refine⟨.value (.pointer (some ⟨w.heap.size,0,none⟩)),_,_,_,?_,.inl rfl,⟨_,by rw[gz];exact hn⟩,hk,by simp,fun k hk _=>(jK.alloc w _).block k hk⟩;unfold execOp;rw[ho];simp[Instr.box,newVar,newRow]
  ·exact hk.elim
 ·exact hk.elim
theorem yQ {P:Program} {tt:TypeId→gn} {t:TypeId} (h:wH P tt t) {ad:Addr} (hs:ad.spot=none) {v:Value} (hv:v.cells.size=(tt t).size) (h1: ∀x∈v.cells.toList,x.oneCell'=true)
 (hc: ∀j,j<v.cells.size→(w.cell? (ad.add j)).isSome=true∧w.frozen? (ad.add j)=false):(Instr.storeAt t (.pointer (some ad)) v).run P w= .ok () (w.setCells ad.block ad.off v.cells.toList):=by
 obtain⟨i,z,g1,g2,_⟩:=h.info;have Bd: ∀j,ad.add j=⟨ad.block,ad.off+j,none⟩:=fun j=>oq j hs;have hst:=run_storeCells_cells (P:=P) ad.block ad.off v.cells.toList 0 w (fun j hj=>by rw[mF,←Bd];exact(hc j (by simpa using hj)).1) (fun j hj=>by rw[mF,←Bd];exact(hc j (by simpa using hj)).2) h1
 have had:(⟨ad.block,ad.off,none⟩:Addr)=ad:=by cases ad;simp_all
 rw[had,mF] at hst;simp only[Instr.storeAt,Instr.sureAddr,storeVar,sizeOf,typeInfo,Sem.run_bind,Sem.run_pure,Result.andThen];simp[g1,g2,hv,hst]
theorem xe: ∀{cs:List CE},CB cs=false→ ∀e∈cs,e≠ .gone
 |[],_,e,he=>by cases he
 |c::r,h,e,he=>by
  cases c with
  |gone=>cases h
  |_=>
   rcases cu.1 he with rfl|he
   ·simp
   ·exact xe (cs:=r) h e he
theorem wI.one {cs:List CE} {v:Value} (h:wI st.ob w φ cs v) (hb: ∀o b,aa o st.ob=some b→iU w φ o b) (hg:CB cs=false): ∀x∈v.cells.toList,x.oneCell'=true:=by
 intro x hx;obtain⟨j,hj,rfl⟩:=List.mem_iff_getElem.1 hx
 have hj':j<cs.length:=by rw[←h.1];simpa using hj
 obtain⟨y,h1,_,h3⟩:=h.2 j _ (aX hj')
 have UP:j<v.cells.size:=by simpa using hj
 rw[oI UP] at h1;simp only[bg] at h1;rw[Array.getElem_toList,h1];exact Ln h3 (xe hg _ (oK hj')) hb
theorem KB {α:Type} {old cs:List α} {off j:Nat} {e:α} (h:(old.take off++cs++old.drop (off+cs.length))[j]?=some e) (hle:off+cs.length≤old.length):
 (off≤j∧j<off+cs.length∧cs[j-off]?=some e)∨((j<off∨off+cs.length≤j)∧old[j]?=some e):=by
 have hto:(old.take off).length=off:=by rw[eM];omega
 rw[tT] at h
 by_cases h1:j<off
 ·rw[iE az,Be,aZ h1] at h
  exact .inr ⟨.inl h1,h⟩
 ·rw[jo az,hto] at h
  by_cases h2:j<off+cs.length
  ·rw[iE az] at h
   exact .inl ⟨by omega,h2,h⟩
  ·rw[jo az,kJ,show off+cs.length+(j-off-cs.length)=j by omega] at h
   exact .inr ⟨.inr az,h⟩
theorem xK {α:Type} {old cs:List α} {off:Nat} (hle:off+cs.length≤old.length):(old.take off++cs++old.drop (off+cs.length)).length=old.length:=by
 simp only[cW,eM,iF];omega
theorem H6 {a:Act} (hT:dN C) (h:aH F A w0 φ st a.tmps w) {o:Oper} {t:TypeId} {p x:Operand} (ho:o.op= .store t p x) (gz:o.dst=none) {cs:List CE} (hkn:known (C.tt t)=true) (hcs:wI st.ob w φ cs (a.eval x))
 (hsz:cs.length=(C.tt t).size) {b off:Nat} (hp:lW C st 0 p= .bp b off) {st':TS} (hs:CV b off cs st=some st') {K:TS→Ev R} (hk:(K st').holds cf lp Q):I0 C F A w0 φ st o a w K cf lp Q:=by
 unfold CV at hs
 split at hs
 ·rename_i old hb
  split at hs
  ·rename_i Vv hle
   cases hs
   have hle:=lU hle;simp only[dg,pN] at Vv;obtain⟨hw,hg⟩:=Vv;have R1:=cQ hT h 0 p;rw[hp] at R1;have R1:a.eval p= .pointer (some ((φ.β b).add off)):=R1;have nE:=(h.sep.spot b old hb).1 hw;have Bd: ∀j,(φ.β b).add j=⟨(φ.β b).block,(φ.β b).off+j,none⟩:=fun j=>oq j nE;obtain⟨bx1,bx2,bx3,bx4⟩:=h.sep.box b old hb hw;have LZ:(a.eval x).cells.size=cs.length:=hcs.1
   have hrun:=yQ (w:=w) (hT t hkn) (ad:=(φ.β b).add off) (vt off nE) (v:=a.eval x) (by rw[LZ,hsz]) (hcs.one h.obj hg) (fun j hj=>by
    rw[Addr.add_add]
    have hj:off+j<old.length:=by rw[LZ] at hj;omega
    obtain⟨v,c1,_⟩:=h.box b old hb (off+j) _ (aX hj)
    exact⟨by rw[c1];rfl,h.sep.soft b old (off+j) hb hw hj⟩)
   rw[bO,Bd off] at hrun;simp only at hrun;have yl: ∀k,k<w.heap.size→k≠(φ.β b).block→(w.setCells (φ.β b).block ((φ.β b).off+off) (a.eval x).cells.toList).heap[k]?=w.heap[k]?:=fun k hk hne=>dx _ _ _ _ hk hne;have hlt:(φ.β b).block<w.heap.size:=(h.sep.spot b old hb).2.1
   have hnew:=h.z6 (w':=w.setCells (φ.β b).block ((φ.β b).off+off) (a.eval x).cells.toList) hb hw (xK hle) (h.frm.setCells bx3) (by rw[(iH _ _ _ _).2.2.2];exact cq _) yl
    (fun j hj=>by rw[World.frozen?_setCells];exact h.sep.soft b old j hb hw (by rw[xK hle] at hj;exact hj))
    (fun j e he=>by
      rcases KB he hle with⟨l1,l2,l3⟩|⟨l1,l2⟩
      ·obtain⟨y,y1,y2,y3⟩:=hcs.2 _ e l3
       have hin:=World.cell?_setCells_in (φ.β b).block (a.eval x).cells.toList ((φ.β b).off+off) w (fun j' hj'=>by
        have hj':j'<cs.length:=by rw[←LZ];simpa using hj'
        obtain⟨v,c1,_⟩:=h.box b old hb (off+j') _ (aX az);rw[Bd] at c1
        rw[show(φ.β b).off+off+j'=(φ.β b).off+(off+j') by omega,c1];rfl) (j-off) (by rw[rF,LZ];omega)
       refine⟨y,?_,y2,y3⟩;rw[Bd,show(φ.β b).off+j=(φ.β b).off+off+(j-off) by omega,hin]
       have UP:j-off<(a.eval x).cells.size:=by rw[LZ];omega
       rw[oI UP] at y1;rw[Array.getElem_toList,←y1]
      ·obtain⟨v,c1,c2,c3⟩:=h.box b old hb j e l2
       refine⟨v,?_,c2,c3⟩;rw[World.cell?_setCells_out]
       ·exact c1
       ·intro _ _
        rw[Bd,rF,LZ];simp only
        omega)
   refine⟨.skip,undef,_,_,?_,.inr ⟨rfl,rfl⟩,⟨φ,by rw[gz];exact hnew⟩,hk,by rw[(iH _ _ _ _).2.2.2];exact cq _,fun k hk PB=> ?_⟩
   ·unfold execOp
    rw[ho];simp only[Sem.run_bind,R1,Bd,hrun,Result.andThen]
    rfl
   ·refine yl k hk fun e=>PB (.inl ⟨b,old,?_,hb,hw,e⟩)
    unfold writes;rw[ho];simp only[hp];exact .head _
  ·cases hs
 ·cases hs
end Go.T
namespace Go.T
variable {F : Nat → Prop} {A : Arg} {w0 w w' : World} {φ φ' : Fp} {st st' cF jD : TS} {tm xB : Array Value} {C : hD}
variable {R : Type} {cf : Cf} {lp : Lp} {Q : R → Prop}
def kY (rows:List (List TC)) (i f:Nat) (cs:List TC):List (List TC):=match rows[i]? with
 |some r=>rows.set i (r.take f++cs++r.drop (f+cs.length))
 |none=>rows
attribute [local semireducible] setRow in
theorem mQ (rows:List (List TC)) (i:Int) (f:Nat) (cs:List TC):setRow rows i f cs=kY rows i.toNat f cs:=rfl
theorem fW (rows:List (List TC)) (i f:Nat) (cs:List TC):(kY rows i f cs).length=rows.length:=by
 unfold kY;split<;>simp
theorem sR {rows:List (List TC)} {i f:Nat} {cs row:List TC} (hrow:rows[i]?=some row) (hf:f+cs.length≤row.length) {i' f':Nat} {tc:TC} (h:p6 (kY rows i f cs) i' f'=some tc):
 (i'=i∧f≤f'∧f'<f+cs.length∧cs[f'-f]?=some tc)∨((i'≠i∨f'<f∨f+cs.length≤f')∧p6 rows i' f'=some tc):=by
 unfold kY at h;simp only[hrow] at h
 by_cases hi:i'=i
 ·subst hi
  have hlt:=(List.getElem?_eq_some_iff.1 hrow).1;simp only[p6,List.getElem?_set_self hlt,Option.bind_some] at h;rcases KB h hf with⟨a,b,c⟩|⟨a,b⟩
  ·exact .inl ⟨rfl,a,b,c⟩
  ·exact .inr ⟨.inr a,by simp[p6,hrow,b]⟩
 ·simp only[p6,List.getElem?_set_ne (Ne.symm hi)] at h
  exact .inr ⟨.inl hi,h⟩
theorem yR {z:Nat} {rows:List (List TC)} (hw: ∀r∈rows,r.length=z) {i f:Nat} {cs row:List TC} (hrow:rows[i]?=some row) (hf:f+cs.length≤row.length): ∀r∈kY rows i f cs,r.length=z:=by
 intro r hr;unfold kY at hr;simp only[hrow] at hr;rcases List.mem_or_eq_of_mem_set hr with hr|rfl
 ·exact hw r hr
 ·rw[xK hf];exact hw row (ee hrow)
theorem aj.mono' {w:World} {Rd S S':Nat→Prop} {m:Mode} {t:TC} {v:Value} (h:aj w Rd m S t v) (hS:m≠ .snap→ ∀b,S b→S' b):aj w Rd m S' t v:=by
 by_cases hm:m= .snap
 ·subst hm;exact h.ko fun _ h=>h
 ·exact h.mono (hS hm)
theorem aj.Lq {w w':World} {Rd S:Nat→Prop} {t:TC} {v:Value} (h:aj w Rd .deep S t v) (hS: ∀b,S b→w'.heap[b]?=w.heap[b]?):aj w' Rd .deep S t v:=
 (((h.xd rfl:aj w zW .deep S t v).move (R':=zW) (fun _ h=>h.elim) fun _=>hS).xd rfl:aj w' Rd .deep S t v)
theorem aj.put {Rd S:Nat→Prop} {m:Mode} {z n c:Nat} {rows:List (List TC)} {ad:Addr} (h:aj w Rd m S (.sub z rows) (.slice (some ad) n c)) (hm:m≠ .snap) {i f:Nat} {ts row:List TC} (hrow:rows[i]?=some row) (hf:f+ts.length≤row.length)
 {vs:List Value} (hl:vs.length=ts.length) (h1: ∀v∈vs,v.oneCell'=true) {X:Nat→Nat→Prop} (hX: ∀(j:Nat) (t:TC) (v:Value),ts[j]?=some t→vs[j]?=some v→aj w Rd m.nx (X j) t v)
 (TP:m= .deep→ ∀j k,j<ts.length→X j k→ ¬S k∧ ∀j',j'<ts.length→X j' k→j'=j) (TQ: ∀k,Rd k→k<w.heap.size∧k≠ad.block) (hS: ∀k,S k→k<w.heap.size) (V5: ∀j k,j<ts.length→X j k→k<w.heap.size):
 ad.spot=none∧S ad.block∧(∀j,j<vs.length→(w.cell? (ad.add (i*z+f+j))).isSome=true∧w.frozen? (ad.add (i*z+f+j))=false)∧
 aj (w.setCells ad.block (ad.off+(i*z+f)) vs) Rd m (fun k=>S k∨(m= .deep∧ ∃j,j<ts.length∧X j k)) (.sub z (kY rows i f ts)) (.slice (some ad) n c):=by
 cases h with
 |sub _ _ _ _ _ _ u T k hn=>
  have hlt:=(List.getElem?_eq_some_iff.1 hrow).1;have hrl:=k.width row (ee hrow);obtain⟨Qg,nE,hall⟩:=(k.own hm).2 ad rfl;have Bd: ∀j,ad.add j=⟨ad.block,ad.off+j,none⟩:=fun j=>oq j nE
  have inb: ∀j,j<ts.length→i*z+f+j<c*z:=fun j hj=>by
   have:i*z+f+j<(i+1)*z:=by rw[ni];omega
   exact fG this (lJ _ (by have:=k.len;omega))
  have there: ∀j,j<vs.length→(w.cell? (ad.add (i*z+f+j))).isSome=true∧w.frozen? (ad.add (i*z+f+j))=false:=fun j hj=>by
   obtain⟨⟨x,hx⟩,hfz⟩:=hall (i*z+f+j) (inb j az);rw[Bd];exact⟨by rw[hx];rfl,hfz⟩
  have yl: ∀b,b<w.heap.size→b≠ad.block→(w.setCells ad.block (ad.off+(i*z+f)) vs).heap[b]?=w.heap[b]?:=fun b hb hne=>dx _ _ _ _ hb hne;have Vw: ∀j b,j<ts.length→m= .deep→X j b→b≠ad.block:=fun j b hj G9 hb e=>(TP G9 j b hj hb).1 (by rw[e];exact Qg)
  have hin: ∀j (hj:j<vs.length),(w.setCells ad.block (ad.off+(i*z+f)) vs).cell? (ad.add (i*z+f+j))=some vs[j]:=fun j hj=>by
   have:=World.cell?_setCells_in ad.block vs (ad.off+(i*z+f)) w (fun j' hj'=>by
    have:=(there j' hj').1;rw[Bd] at this
    rw[show ad.off+(i*z+f)+j'=ad.off+(i*z+f+j') by omega];exact this) j hj
   rw[Bd,show ad.off+(i*z+f+j)=ad.off+(i*z+f)+j by omega];exact this
  have hout: ∀p,(p<i*z+f∨i*z+f+vs.length≤p)→(w.setCells ad.block (ad.off+(i*z+f)) vs).cell? (ad.add p)=w.cell? (ad.add p):=fun p hp=>by
   refine World.cell?_setCells_out _ _ _ _ _ fun _ _=> ?_;rw[Bd];simp only;omega
  refine⟨nE,Qg,there,?_⟩
  let inr:Nat→Nat→Prop:=fun i' f'=>i'=i∧f≤f'∧f'<f+ts.length
  have dec: ∀i' f',Decidable (inr i' f'):=fun _ _=>inferInstanceAs (Decidable (_∧_∧_))
  have key:=aj.sub (w:=w.setCells ad.block (ad.off+(i*z+f)) vs) (R:=Rd) m (fun b=>S b∨(m= .deep∧ ∃j,j<ts.length∧X j b)) z (kY rows i f ts) (some ad) c
   (fun i' f'=>if i'=i∧f≤f'∧f'<f+ts.length then vs.getD (f'-f) undef else u i' f') (fun i' f' b=>if i'=i∧f≤f'∧f'<f+ts.length then m= .deep∧X (f'-f) b else T i' f' b) ?_ ?_
  ·rw[fW] at key;exact key
  ·refine⟨by rw[fW];exact k.len,k.cap,k.z0,yR k.width hrow hf,fun _=>⟨ad,rfl⟩,?_,fun e=>absurd e hm,fun _=>⟨fun e=>(by cases e),?_⟩,fun hm LX ad' e i=>(by cases e;rw[World.frozen?_setCells];exact k.soft hm LX ad rfl i),?_⟩
   ·intro ad' e i' f' tc ht
    cases e
    rcases sR hrow hf ht with⟨rfl,a,b,hc⟩|⟨hn',hc⟩
    ·rw[aZ ⟨rfl,a,b⟩]
     have hj:f'-f<vs.length:=by omega
     have:=hin (f'-f) hj;rw[show i'*z+f+(f'-f)=i'*z+f' by omega] at this;rw[this];simp[List.getD,aX hj]
    ·rw[aR az]
     rw[hout]
     ·exact k.cell ad rfl i' f' tc hc
     ·obtain⟨_,hf',_⟩:=oR k.width hc
      by_cases hi:i'=i
      ·subst hi;omega
      ·rcases Nat.lt_or_gt_of_ne hi with hi|hi
       ·left
        have:i'*z+z≤i*z:=by rw[←CQ];exact lJ _ hi
        omega
       ·right
        have:i*z+z≤i'*z:=by rw[←CQ];exact lJ _ hi
        omega
   ·intro ad' e
    cases e
    refine⟨.inl Qg,nE,fun j hj=> ?_⟩;obtain⟨⟨x,hx⟩,hfz⟩:=hall j hj;refine⟨?_,by rw[World.frozen?_setCells];exact hfz⟩;have:=World.isSome_setCells ad.block vs (ad.off+(i*z+f)) w ⟨ad.block,ad.off+j,none⟩ (by rw[hx];rfl);exact Option.isSome_iff_exists.1 this
   ·intro G9 i' f' b hb
    by_cases hr:i'=i∧f≤f'∧f'<f+ts.length
    ·rw[aZ hr] at hb
     have hj:f'-f<ts.length:=by omega
     refine⟨.inr ⟨G9,_,hj,hb.2⟩,fun ad' e=>(by cases e;exact Vw _ b hj G9 hb.2),fun i2 f2 hb2=> ?_⟩
     by_cases Cx:i2=i∧f≤f2∧f2<f+ts.length
     ·rw[aZ Cx] at hb2
      have:=(TP G9 _ b hj hb.2).2 _ az hb2.2;omega
     ·rw[aR Cx] at hb2
      exact absurd (k.kE G9 i2 f2 b hb2).1 (TP G9 _ b hj hb.2).1
    ·rw[aR hr] at hb
     obtain⟨d1,d2,d3⟩:=k.kE G9 i' f' b hb;refine⟨.inl d1,d2,fun i2 f2 hb2=> ?_⟩
     by_cases Cx:i2=i∧f≤f2∧f2<f+ts.length
     ·rw[aZ Cx] at hb2
      exact absurd d1 (TP G9 _ b az hb2.2).1
     ·rw[aR Cx] at hb2
      exact d3 i2 f2 hb2
  ·intro i' f' tc ht
   rcases sR hrow hf ht with⟨rfl,a,b',hc⟩|⟨hn',hc⟩
   ·rw[aZ ⟨rfl,a,b'⟩]
    have hj:f'-f<vs.length:=by omega
    have hx:=hX (f'-f) tc vs[f'-f] hc (aX hj)
    have hv:vs.getD (f'-f) undef=vs[f'-f]:=by simp[List.getD,aX hj]
    rw[hv];refine(aj.move hx (fun b hb=>⟨hb,yl b (TQ b hb).1 (TQ b hb).2⟩) fun SY b hb=>yl b (V5 _ b az hb) (Vw _ b az (oh SY) hb)).mono' fun SY b hb=> ?_;rw[aZ ⟨rfl,a,b'⟩];exact⟨oh SY,hb⟩
   ·rw[aR az]
    refine(aj.move (hn i' f' tc hc) (fun b hb=>⟨hb,yl b (TQ b hb).1 (TQ b hb).2⟩) fun SY b hb=> ?_).mono fun b hb=>by rw[aR az];exact hb
    obtain⟨d1,d2,_⟩:=k.kE (oh SY) i' f' b hb;exact yl b (hS b d1) (d2 ad rfl)
theorem aj.inner {Rd S:Nat→Prop} {z n c:Nat} {rows:List (List TC)} {ad:Addr} (h:aj w Rd .deep S (.sub z rows) (.slice (some ad) n c)) {i f:Nat} {tc:TC} (ht:p6 rows i f=some tc):
 ∃V1 T0,w.cell? (ad.add (i*z+f))=some V1∧aj w Rd .deep T0 tc V1∧(∀k,T0 k→S k∧k≠ad.block)∧S ad.block∧
  ∀(w':World) (tc':TC) (T1:Nat→Prop),aj w' Rd .deep T1 tc' V1→(∀k,S k→ ¬T0 k→w'.heap[k]?=w.heap[k]?)→(∀k,T1 k→T0 k∨ ¬S k)→
   aj w' Rd .deep (fun k=>(S k∧ ¬T0 k)∨T1 k) (.sub z (kY rows i f [tc'])) (.slice (some ad) n c):=by
 cases h with
 |sub _ _ _ _ _ _ u T k hn=>
  obtain⟨row,hrow,hfr⟩: ∃row,rows[i]?=some row∧row[f]?=some tc:=by
   unfold p6 at ht
   cases hr:rows[i]? with
   |none=>rw[hr] at ht;cases ht
   |some row=>rw[hr] at ht;exact⟨row,rfl,ht⟩
  have hf:f+1≤row.length:=(List.getElem?_eq_some_iff.1 hfr).1;obtain⟨Qg,nE,hall⟩:=(k.own dI).2 ad rfl;have TT: ∀b,T i f b→S b∧b≠ad.block:=fun b hb=>⟨(k.kE rfl i f b hb).1,(k.kE rfl i f b hb).2.1 ad rfl⟩;refine⟨u i f,T i f,k.cell ad rfl i f tc ht,hn i f tc ht,TT,Qg,fun w' tc' T1 h1 hsame UQ=> ?_⟩;have Er:w'.heap[ad.block]?=w.heap[ad.block]?:=hsame _ Qg fun hb=>(TT _ hb).2 rfl;have key:=aj.sub (w:=w') (R:=Rd) .deep (fun b=>(S b∧ ¬T i f b)∨T1 b) z (kY rows i f [tc']) (some ad) c u (fun i' f' b=>if i'=i∧f'=f then T1 b else T i' f' b) ?_ ?_
  ·rw[fW] at key;exact key
  ·refine⟨by rw[fW];exact k.len,k.cap,k.z0,yR k.width hrow hf,fun _=>⟨ad,rfl⟩,?_,fun e=>(by cases e),fun _=>⟨fun e=>(by cases e),?_⟩,fun hm LX ad' e i=>(by cases e;rw[gJ (w:=w) (a:=⟨ad.block,i,none⟩) Er];exact k.soft dI LX ad rfl i),?_⟩
   ·intro ad' e i' f' t' ht'
    cases e
    rw[dr (w:=w) (by rw[bO];exact Er)];rcases sR hrow hf ht' with⟨rfl,a,b,hc⟩|⟨_,hc⟩
    ·have:f'=f:=by simp at b;omega
     subst this;exact k.cell ad rfl _ _ tc ht
    ·exact k.cell ad rfl i' f' t' hc
   ·intro ad' e
    cases e
    refine⟨.inl ⟨Qg,fun hb=>(TT _ hb).2 rfl⟩,nE,fun j hj=> ?_⟩;obtain⟨⟨x,hx⟩,hfz⟩:=hall j hj;exact⟨⟨x,by rw[dr (w:=w) (by exact Er)];exact hx⟩,by rw[gJ (w:=w) (by exact Er)];exact hfz⟩
   ·intro _ i' f' b hb
    by_cases hr:i'=i∧f'=f
    ·rw[aZ hr] at hb
     have hne:b≠ad.block:=fun e=>by
      subst e;rcases UQ _ hb with h|h
      ·exact(TT _ h).2 rfl
      ·exact h Qg
     refine⟨.inr hb,fun ad' e=>(by cases e;exact hne),fun i2 f2 hb2=> ?_⟩
     by_cases Cx:i2=i∧f2=f
     ·exact⟨Cx.1.trans hr.1.symm,Cx.2.trans hr.2.symm⟩
     ·rw[aR Cx] at hb2
      rcases UQ _ hb with h|h
      ·have:=(k.kE rfl i2 f2 b hb2).2.2 i f h
       exact absurd ⟨this.1.symm,this.2.symm⟩ Cx
      ·exact absurd (k.kE rfl i2 f2 b hb2).1 h
    ·rw[aR hr] at hb
     obtain⟨d1,d2,d3⟩:=k.kE rfl i' f' b hb;refine⟨.inl ⟨d1,fun hb0=>hr (by have:=d3 i f hb0;exact⟨this.1.symm,this.2.symm⟩)⟩,d2,fun i2 f2 hb2=> ?_⟩
     by_cases Cx:i2=i∧f2=f
     ·rw[aZ Cx] at hb2
      rcases UQ _ hb2 with h|h
      ·have:=d3 i f h
       exact absurd ⟨this.1.symm,this.2.symm⟩ hr
      ·exact absurd d1 h
     ·rw[aR Cx] at hb2
      exact d3 i2 f2 hb2
  ·intro i' f' t' ht'
   rcases sR hrow hf ht' with⟨rfl,a,b,hc⟩|⟨hn',hc⟩
   ·have:f'=f:=by simp at b;omega
    subst this;simp at hc;subst hc
    exact h1.mono fun b hb=>by rw[aZ ⟨rfl,rfl⟩];exact hb
   ·have hr: ¬(i'=i∧f'=f):=by simp at hn';omega
    refine(aj.Lq (hn i' f' t' hc) fun b hb=> ?_).mono fun b hb=>by rw[aR hr];exact hb
    obtain⟨d1,d2,d3⟩:=k.kE rfl i' f' b hb;exact hsame b d1 fun hb0=>hr (by have:=d3 i f hb0;exact⟨this.1.symm,this.2.symm⟩)
end Go.T
namespace Go.T
variable {F : Nat → Prop} {A : Arg} {w0 w w' : World} {φ φ' : Fp} {st st' cF jD : TS} {tm xB : Array Value} {C : hD}
variable {R : Type} {cf : Cf} {lp : Lp} {Q : R → Prop}
structure mD (F:Nat→Prop) (w0 w:World) (φ:Fp) (st:TS) (k:Nat):Prop where
 lt:k<w.heap.size
 new:w0.heap.size≤k∨F k
 I: ¬φ.I k
 S: ∀o,aA st.ob o→ ¬φ.S o k
 B: ∀b cs,aa b st.bx=some cs→(φ.β b).block≠k
theorem aH.jm (h:aH F A w0 φ st tm w) {o k:Nat} (ho:aA st.ob o) (hk:φ.S o k) {b:Nat} {cs:List CE} (hb:aa b st.bx=some cs):(φ.β b).block≠k:=fun e=>by
 subst e
 cases wY:rE b with
 |true=>exact(h.sep.box b cs hb wY).2.1 o ho hk
 |false=>
  have h1:=h.sep.iR _ ((h.sep.spot b cs hb).2.2 wY);rcases (h.sep.fresh o _ ho hk).2 with h3|h3
  ·omega
  ·exact h1.2 h3
theorem aH.free (h:aH F A w0 φ st tm w) (hs:cR st' st) {k:Nat} (hk: ∃o,aA st.ob o∧ ¬aA st'.ob o∧φ.S o k):mD F w0 w φ st' k:=by
 obtain⟨o,a1,a2,a3⟩:=hk
 exact⟨(h.sep.fresh o k a1 a3).1,(h.sep.fresh o k a1 a3).2,h.sep.read o k a1 a3,fun o' ho' hk=>by
  have:=h.sep.apart o o' k a1 (hs.dom ho') a3 hk
  subst this;exact a2 ho',fun b cs hb=>by
  obtain⟨cs0,c0,_⟩:=hs.bx b cs hb
  exact h.jm a1 a3 c0⟩
theorem H7 (h:aH F A w0 φ st tm w) (h1:aH F A w0 φ cF tm w) {ct:List It} {X:Nat→Nat→Prop} {Zp:Nat→Prop} (p:g8 w φ st cF ct X Zp) {r:Nat} {B b':OB} (hr:aa r cF.ob=some B) (hz:b'.z=B.z) (hl:b'.rows.length=B.rows.length)
 {Zt Xr:Nat→Prop} {gb off:Nat} {vs:List Value} (hg:φ.S r gb) (V6: ∀k,Xr k→ ¬Zt k∧(φ.S r k∨ ∃j,j<ct.length∧X j k)) (V7: ∀k,Zt k→Zp k∨φ.S r k)
 (hc:aj (w.setCells gb off vs) (fun k=>φ.I k∨Zt k) b'.m Xr (.sub b'.z b'.rows) (φ.V r)):Rel F A w0 (nH [(r,b')] cF) tm (w.setCells gb off vs):=by
 have hin:aA cF.ob r:=⟨_,hr⟩;have hsize:=(iH gb vs off w).2.2.2
 have lookW: ∀{o b},aa o [(r,b')]=some b→o=r∧b=b':=fun {o b} ho=>by
  simp only[aa] at ho
  cases hb:Nat.beq r o with
  |true=>rw[hb] at ho;cases ho;exact⟨(eB hb).symm,rfl⟩
  |false=>rw[hb] at ho;cases ho
 have neW: ∀{o},aa o [(r,b')]=none→o≠r:=fun {o} ho e=>by subst e;simp[aa] at ho
 have frS: ∀{k},φ.S r k→k<w.heap.size∧(w0.heap.size≤k∨F k)∧ ¬φ.I k∧(∀d,aA cF.ob d→aa d [(r,b')]=none→ ¬φ.S d k)∧ ∀b cs,aa b cF.bx=some cs→(φ.β b).block≠k:=fun {k} hk=>
  ⟨(h1.sep.fresh r k hin hk).1,(h1.sep.fresh r k hin hk).2,h1.sep.read r k hin hk,fun d hd hn hk'=>neW hn (h1.sep.apart d r k hd hin hk' hk),fun b cs hb=>h1.jm hin hk hb⟩
 refine⟨_,h1.wrote (w':=w.setCells gb off vs) [(r,b')] (fun _ k=>Xr k) Zt (fun k=>k=gb) (h1.frm.setCells (frS hg).2.1) (by rw[hsize];exact cq _) (fun k hk hn=>dx _ _ _ _ hk hn)
  (fun k e=>by subst e;exact(frS hg).2.1) (fun k e=>by subst e;exact(frS hg).2.2.1) (fun k o e ho hn=>by subst e;exact(frS hg).2.2.2.1 o ho hn) (fun b cs hb e=>(frS hg).2.2.2.2 b cs hb e) (fun o b ho=> ?_) (fun k hk=> ?_)⟩
 ·obtain⟨rfl,rfl⟩:=lookW ho
  refine⟨B,hr,hz,hl,hc,fun k hk=> ?_⟩;obtain⟨x1,x2⟩:=V6 k hk;rcases x2 with x2|⟨j,hj,x2⟩
  ·obtain⟨f1,f2,f3,f4,f5⟩:=frS x2
   exact⟨by rw[hsize];exact f1,f2,f3,x1,f4,fun d b hb _=>(lookW hb).1,fun b cs hb _=>f5 b cs hb⟩
  ·have fr:=h.free p.sub (p.src j k hj x2).2
   exact⟨by rw[hsize];exact fr.lt,fr.new,fr.I,x1,fun d hd _=>fr.S d hd,fun d b hb _=>(lookW hb).1,fun b cs hb _=>fr.B b cs hb⟩
 ·rcases V7 k hk with hz|hz
  ·have fr:=h.free p.sub (p.srcZ k hz)
   exact⟨by rw[hsize];exact fr.lt,fr.new.elim .inl fun hF=> .inr (.inl hF),fun d hd _=>fr.S d hd,fun b cs hb _=>fr.B b cs hb⟩
  ·obtain⟨f1,f2,f3,f4,f5⟩:=frS hz
   exact⟨by rw[hsize];exact f1,f2.elim .inl fun hF=> .inr (.inl hF),f4,fun b cs hb _=>f5 b cs hb⟩
theorem xL {a:Act} (hT:dN C) (h:aH F A w0 φ st a.tmps w) {o:Oper} {t:TypeId} {q x:Operand} (ho:o.op= .store t q x) (gz:o.dst=none) {cs:List CE} (hkn:known (C.tt t)=true) (hcs:wI st.ob w φ cs (a.eval x))
 (hsz:cs.length=(C.tt t).size) {r:Nat} {path:Option (Int×Nat)} {i:Int} {f:Nat} (hq:lW C st 0 q= .er r path i f) {K:TS→Ev R} (hk:(yz r path i f cs st K).holds cf lp Q):I0 C F A w0 φ st o a w K cf lp Q:=by
 have SZ:=cQ hT h 0 q;rw[hq] at SZ;obtain⟨b,hb,hi,ad,n,c,hV,Qh⟩:=SZ;unfold yz at hk
 split at hk
 ·rename_i ts cF d1 hab
  split at hk
  ·rename_i d z rows Hq
   have vlen:(a.eval x).cells.toList.length=cs.length:=by simpa using hcs.1
   have hce: ∀(j:Nat) (e:CE),cs[j]?=some e→ ∃v,(a.eval x).cells.toList[j]?=some v∧cg st.ob w φ e v:=fun j e he=>by
    obtain⟨y,y1,_,y3⟩:=hcs.2 j e he;exact⟨y,by simpa using y1,y3⟩
   have fin: ∀{ad':Addr} {b':OB},a.eval q= .pointer (some ad')→ad'.spot=none→(∀j,j<(a.eval x).cells.size→(w.cell? (ad'.add j)).isSome=true∧w.frozen? (ad'.add j)=false)→(∀y∈(a.eval x).cells.toList,y.oneCell'=true)→φ.S r ad'.block→
    Rel F A w0 (nH [(r,b')] cF) a.tmps (w.setCells ad'.block ad'.off (a.eval x).cells.toList)→(K (nH [(r,b')] cF)).holds cf lp Q→I0 C F A w0 φ st o a w K cf lp Q:=fun {ad' b'} hv hs hc h1 hS pG hk=>by
    have hrun:=yQ (w:=w) (hT t hkn) hs (v:=a.eval x) (by rw[hcs.1,hsz]) h1 hc;refine⟨.skip,undef,_,_,?_,.inr ⟨rfl,rfl⟩,by rw[gz];exact pG,hk,by rw[(iH _ _ _ _).2.2.2];exact cq _,fun k hk PB=> ?_⟩
    ·unfold execOp
     rw[ho];simp only[Sem.run_bind,hv,hrun,Result.andThen]
     rfl
    ·refine dx _ _ _ _ hk fun e=>PB (.inr ⟨r,?_,⟨b,hb⟩,by rw[e];exact hS⟩)
     unfold writes;rw[ho];simp only[hq];exact .head _
   have one: ∀{M:Mode} {X:Nat→Nat→Prop} {Z:Nat→Prop},ts.length=cs.length→g8 w φ st cF (cO M ts (a.eval x).cells.toList) X Z→ ∀y∈(a.eval x).cells.toList,y.oneCell'=true:=fun {M X Z} hl p y hy=>by
    obtain⟨j,hj,rfl⟩:=List.mem_iff_getElem.1 hy;exact mP (p.ok j _ (je (aX az) (aX hj)))
   cases path with
   |none=>
    simp only at hk;obtain⟨row,hrow,hk⟩:=hk;obtain⟨_,hrow⟩:=lF hrow;simp only at hk
    split at hk
    ·rename_i hle
     have hle:=lU hle
     obtain⟨h1,hl,hsub,os,tk⟩:=wK (if d&&d1 then .deep else .snap) cs st _ ts cF d1 h (cR.refl _) vlen hce (by
      cases hd:d&&d1 with
      |true=>simp only[dg] at hd;exact .inr ⟨hd.2,rfl⟩
      |false=>exact .inl rfl) hab
     obtain⟨X,Zp,p⟩:=tk.parts h;have:=hsub.ob r _ Hq;rw[hb] at this
     cases this
     have hO:=h1.obj r _ Hq;unfold iU at hO;rw[hV] at hO;have hin:aA cF.ob r:=⟨_,Hq⟩;have hlen:(cO (if(d&&d1)=true then Mode.deep else .snap) ts (a.eval x).cells.toList).length=ts.length:=eU az;have itm: ∀(j:Nat) (tc:TC) (v:Value),ts[j]?=some tc→(a.eval x).cells.toList[j]?=some v→aj w (fun k=>φ.I k∨Zp k) (if(d&&d1)=true then Mode.deep else .snap) (X j) tc v:=fun j tc v e1 e2=>p.ok j _ (je e1 e2);have Ek:a.eval q= .pointer (some (ad.add (i.toNat*z+f))):=Qh
     obtain⟨Zt,Sr,g1,g2,g3,g4,g5⟩: ∃Zt Sr:Nat→Prop,aj w (fun k=>φ.I k∨Zt k) (OB.m ⟨d&&d1,z,setRow rows i f ts⟩) Sr (.sub z rows) (.slice (some ad) n c)∧(∀k,Sr k→φ.S r k∧ ¬Zt k)∧(∀k,Zt k→(Zp k∨φ.S r k)∧k≠ad.block)∧
      (∀(j:Nat) (tc:TC) (v:Value),ts[j]?=some tc→(a.eval x).cells.toList[j]?=some v→aj w (fun k=>φ.I k∨Zt k) (OB.m ⟨d&&d1,z,setRow rows i f ts⟩).nx (X j) tc v)∧((d&&d1)=true→ ∀k,Zt k→Zp k):=by
      have adS:φ.S r ad.block:=by
       cases hO with
       |sub _ _ _ _ _ _ u T k hn=>exact(k.own (by unfold OB.m;split<;>simp)).2 ad rfl|>.1
      have zpn: ∀k,Zp k→k≠ad.block:=fun k hk e=>(h.free p.sub (p.srcZ k hk)).S r hin (by rw[e];exact adS)
      cases hd:d&&d1 with
      |true=>
       rw[hd] at itm
       have K5:d=true:=by simp only[dg] at hd;exact hd.1
       subst K5;refine⟨Zp,φ.S r,hO.jL fun k hk=> .inl hk,fun k hk=>⟨hk,fun hz=>(h.free p.sub (p.srcZ k hz)).S r hin hk⟩,fun k hk=>⟨.inl hk,zpn k hk⟩,itm,fun _ k hk=>hk⟩
      |false=>
       rw[hd] at itm;refine⟨fun k=>Zp k∨(φ.S r k∧ ¬Dc .top (.slice (some ad) n c) (φ.S r) k),Dc .top (.slice (some ad) n c) (φ.S r),?_,fun k hk=>⟨hk.1,fun hz=> ?_⟩,fun k hk=> ?_,fun j tc v e1 e2=> ?_,fun e=>by cases e⟩
       ·exact hO.out (m:= .top) (by unfold OB.m;split<;>simp) (fun e=>by cases e) (fun k hk=> .inl hk) fun k hk hn=> .inr (.inr ⟨hk,hn⟩)
       ·rcases hz with hz|hz
        ·exact(h.free p.sub (p.srcZ k hz)).S r hin hk.1
        ·exact hz.2 hk
       ·rcases hk with hk|hk
        ·exact⟨.inl hk,zpn k hk⟩
        ·exact⟨.inr hk.1,fun e=>hk.2 ⟨hk.1,ad,n,c,rfl,e⟩⟩
       ·exact(itm j tc v e1 e2).ko (S':=X j) fun k hk=>hk.elim .inl fun h=> .inr (.inl h)
     obtain⟨ps,pS,pt,pc⟩:=g1.put (by unfold OB.m;split<;>simp) hrow hle (vs:=(a.eval x).cells.toList) az (one hl p) g4 (fun G9 j k hj hk=>by
      obtain⟨s1,s2⟩:=p.src j k (by rw[hlen];exact hj) hk
      exact⟨fun hS=>(h.free p.sub s2).S r hin (g2 k hS).1,fun j' hj' hk'=>p.apart _ _ k (by rw[hlen];exact hj') (by rw[hlen];exact hj) hk' hk⟩)
      (fun k hk=>by
        rcases hk with hk|hk
        ·refine⟨(h.sep.ro k hk).1,fun e=> ?_⟩
         have adS:φ.S r ad.block:=by
          cases hO with
          |sub _ _ _ _ _ _ u T k hn=>exact(k.own (by unfold OB.m;split<;>simp)).2 ad rfl|>.1
         exact h1.sep.read r _ hin adS (by rw[←e];exact hk)
        ·refine⟨?_,(g3 k hk).2⟩
         rcases (g3 k hk).1 with hz|hz
         ·exact(h.free p.sub (p.srcZ k hz)).lt
         ·exact(h1.sep.fresh r k hin hz).1)
      (fun k hk=>(h1.sep.fresh r k hin (g2 k hk).1).1) (fun j k hj hk=>(h.free p.sub (p.src j k (by rw[hlen];exact hj) hk).2).lt)
     refine fin Ek (vt _ ps) (fun j hj=>by rw[Addr.add_add];exact pt j (by simpa using hj)) (one hl p) (by rw[bO];exact(g2 _ pS).1) ?_ hk;rw[bO,oq _ ps];refine H7 h h1 p Hq (b':=⟨d&&d1,z,setRow rows i f ts⟩) rfl (by simp only[mQ,fW]) (g2 _ pS).1 (Zt:=Zt) (Xr:=fun k=>Sr k∨((OB.m ⟨d&&d1,z,setRow rows i f ts⟩)= .deep∧ ∃j,j<ts.length∧X j k)) (fun k hk=> ?_) (fun k hk=>(g3 k hk).1) ?_
     ·rcases hk with hk|⟨G9,j,hj,hk⟩
      ·exact⟨(g2 k hk).2,.inl (g2 k hk).1⟩
      ·refine⟨fun hz=> ?_,.inr ⟨j,by rw[hlen];exact hj,hk⟩⟩
       have K5:(d&&d1)=true:=by
        unfold OB.m at G9
        cases hd:d&&d1 with
        |true=>rfl
        |false=>simp[hd] at G9
       exact(p.src j k (by rw[hlen];exact hj) hk).1 (g5 K5 k hz)
     ·show aj _ _ (OB.m ⟨d&&d1,z,setRow rows i f ts⟩) _ (.sub z (setRow rows i f ts)) _
      rw[hV,mQ];exact pc
    ·exact hk.elim
   |some pq=>
    obtain⟨i0,f0⟩:=pq;simp only at hk
    split at hk
    ·obtain⟨row0,N4,hk⟩:=hk
     obtain⟨_,N4⟩:=lF N4;simp only at hk
     split at hk
     ·rename_i z1 kV Rv
      obtain⟨row,hrow,hk⟩:=hk;obtain⟨_,hrow⟩:=lF hrow;simp only at hk
      split at hk
      ·rename_i hle
       have hle:=lU hle;obtain⟨h1,hl,hsub,os,tk⟩:=wK .deep cs st _ ts cF true h (cR.refl _) vlen hce (.inr ⟨rfl,rfl⟩) hab;obtain⟨X,Zp,p⟩:=tk.parts h;have:=hsub.ob r _ Hq;rw[hb] at this
       cases this
       have hO:=h1.obj r _ Hq;unfold iU at hO;rw[hV] at hO;have hin:aA cF.ob r:=⟨_,Hq⟩;have hlen:(cO Mode.deep ts (a.eval x).cells.toList).length=ts.length:=eU az;obtain⟨_,z1',rows1',SQ,ad1,n1,c1,hcell,R1⟩:=Qh;have Vx:p6 rows i0.toNat f0=some (.sub z1 kV):=ot N4 Rv;rw[Vx] at SQ
       cases SQ
       obtain⟨V1,T0,v1,v2,v3,v4,v5⟩:=aj.inner (hO.jL (R':=fun k=>φ.I k∨Zp k) fun k hk=> .inl hk:aj w (fun k=>φ.I k∨Zp k) .deep (φ.S r) (.sub z rows) (.slice (some ad) n c)) Vx
       have:V1= .slice (some ad1) n1 c1:=by have hh:=v1.symm.trans hcell;simpa using hh
       subst this;have XS: ∀j k,j<ts.length→X j k→ ¬φ.S r k:=fun j k hj hk=>(h.free p.sub (p.src j k (by rw[hlen];exact hj) hk).2).S r hin
       have ad1S:T0 ad1.block:=by
        cases v2 with
        |sub _ _ _ _ _ _ u T k hn=>exact(k.own dI).2 ad1 rfl|>.1
       obtain⟨ps,pS,pt,pc⟩:=v2.put dI hrow hle (vs:=(a.eval x).cells.toList) az (one hl p) (X:=X) (fun j tc v e1 e2=>p.ok j _ (je e1 e2)) (fun _ j k hj hk=>
        ⟨fun hS=>XS j k hj hk (v3 k hS).1,fun j' hj' hk'=>p.apart _ _ k (by rw[hlen];exact hj') (by rw[hlen];exact hj) hk' hk⟩)
        (fun k hk=>by
          rcases hk with hk|hk
          ·exact⟨(h.sep.ro k hk).1,fun e=>h1.sep.read r _ hin (v3 _ ad1S).1 (by rw[←e];exact hk)⟩
          ·have fr:=h.free p.sub (p.srcZ k hk)
           exact⟨fr.lt,fun e=>fr.S r hin (by rw[e];exact(v3 _ ad1S).1)⟩)
        (fun k hk=>(h1.sep.fresh r k hin (v3 k hk).1).1) (fun j k hj hk=>(h.free p.sub (p.src j k (by rw[hlen];exact hj) hk).2).lt)
       have Ek:a.eval q= .pointer (some (ad1.add (i.toNat*z1+f))):=R1;refine fin Ek (vt _ ps) (fun j hj=>by rw[Addr.add_add];exact pt j (by simpa using hj)) (one hl p) (by rw[bO];exact(v3 _ ad1S).1) ?_ hk;rw[bO,oq _ ps]
       have hnew:=v5 _ _ _ pc (fun k hk hn=>dx _ _ _ _ (h1.sep.fresh r k hin hk).1 fun e=>hn (by rw[e];exact ad1S)) (fun k hk=>by
        rcases hk with hk|⟨_,j,hj,hk⟩
        ·exact .inl hk
        ·exact .inr (XS j k hj hk))
       refine H7 h h1 p Hq (b':=⟨true,z,setRow rows i0 f0 [.sub z1 (setRow kV i f ts)]⟩) rfl (by simp only[mQ,fW]) (v3 _ ad1S).1 (Zt:=Zp) (Xr:=fun k=>(φ.S r k∧ ¬T0 k)∨(T0 k∨(Mode.deep= .deep∧ ∃j,j<ts.length∧X j k))) (fun k hk=> ?_) (fun k hk=> .inl hk) ?_
       ·rcases hk with hk|hk|⟨_,j,hj,hk⟩
        ·exact⟨fun hz=>(h.free p.sub (p.srcZ k hz)).S r hin hk.1,.inl hk.1⟩
        ·exact⟨fun hz=>(h.free p.sub (p.srcZ k hz)).S r hin (v3 k hk).1,.inl (v3 k hk).1⟩
        ·exact⟨(p.src j k (by rw[hlen];exact hj) hk).1,.inr ⟨j,by rw[hlen];exact hj,hk⟩⟩
       ·show aj _ _ .deep _ (.sub z (setRow rows i0 f0 [.sub z1 (setRow kV i f ts)])) _
        rw[hV,mQ,mQ];exact hnew
      ·exact hk.elim
     ·exact hk.elim
    ·exact hk.elim
  ·exact hk.elim
 ·exact hk.elim
theorem MW {a:Act} (hT:dN C) (h:aH F A w0 φ st a.tmps w) {o:Oper} {t:TypeId} {q x:Operand} (ho:o.op= .store t q x) {K:TS→Ev R} (hk:(jJ C st o K).holds cf lp Q):I0 C F A w0 φ st o a w K cf lp Q:=by
 unfold jJ at hk;rw[ho] at hk;simp only at hk
 split at hk
 ·rename_i cs gz hkn hc
  have hcs:=mL (cQ hT h t x) hc
  split at hk
  ·rename_i b off hsz hp
   split at hk
   ·rename_i st' hs
    exact H6 hT h ho gz hkn hcs (eB hsz) hp hs hk
   ·exact hk.elim
  ·rename_i r i f hsz hp
   split at hk
   ·have SZ:=cQ hT h 0 q
    rw[hp] at SZ;obtain⟨b,hb,_⟩:=SZ;obtain⟨h',hce⟩:=h.rM hb
    have UR:wI (rM r st).ob w (φ.Gv r) (cs.map (CU r)) (a.eval x):=by
     refine⟨by rw[cm];exact hcs.1,fun j e he=> ?_⟩;rw[gm] at he
     cases hj:cs[j]? with
     |none=>rw[hj] at he;cases he
     |some e0=>
      rw[hj] at he;simp only[ic,bg] at he;subst he;obtain⟨y,y1,y2,y3⟩:=hcs.2 j e0 hj;exact⟨y,y1,y2,hce _ _ y3⟩
    have G7:lW C (rM r st) 0 q= .er r none i f:=by
     cases q with
     |tmp n=>
      have hp:st.get n= .er r none i f:=hp;show(rM r st).get n=_;unfold T.rM;rw[hb];simp only;rw[get_map _ _ _ rfl,hp]
      rfl
     |_=>exact hp
    obtain⟨nx,v,w',st',d1,d2,d3,d4,d5,d6⟩:=xL hT h' ho gz hkn UR (by rw[cm];exact eB hsz) G7 hk;refine⟨nx,v,w',st',d1,d2,d3,d4,d5,fun k hk PB=>d6 k hk fun hw=>PB ?_⟩
    have e1:writes C st o=[2*r]:=by unfold writes;rw[ho];simp only[hp]
    have e2:writes C (rM r st) o=[2*r]:=by unfold writes;rw[ho];simp only[G7]
    rw[e1];rw[e2] at hw;rcases hw with⟨b',cs',hm,_⟩|⟨o',hm,_,hS⟩
    ·simp only[fk] at hm;omega
    ·simp only[fk] at hm
     have:o'=r:=by omega
     subst this;exact .inr ⟨o',.head _,⟨b,hb⟩,hS.1⟩
   ·exact xL hT h ho gz hkn hcs (eB hsz) hp hk
  ·rename_i r path i f hn hsz hp
   exact xL hT h ho gz hkn hcs (eB hsz) hp hk
  ·exact hk.elim
 ·exact hk.elim
end Go.T
namespace Go.T
variable {F : Nat → Prop} {A : Arg} {w0 w w' : World} {φ φ' : Fp} {st st' cF jD : TS} {tm xB : Array Value} {C : hD}
variable {R : Type} {cf : Cf} {lp : Lp} {Q : R → Prop}
theorem yS (h0:aH F A w0 φ st tm w) (h:aH F A w0 φ st' tm w) {dp:Bool} {z:Nat} {rows:List (List TC)} {vs:List Value} {X:Nat→Nat→Prop} {Z:Nat→Prop} {d:Nat}
 (p:g8 w φ st st' (cO (if dp then .deep else .snap) rows.flatten vs) X Z) (hz:0<z) (sE: ∀r∈rows,r.length=z) (hl:vs.length=rows.length*z) {c:Nat} (hc:rows.length≤c) (Pz:c≤maxLen)
 (g:jK w w') (hlt:w.heap.size<w'.heap.size) (hcell: ∀(j:Nat) (v:Value),vs[j]?=some v→w'.cell? ⟨w.heap.size,j,none⟩=some v)
 (hall: ∀j,j<c*z→(∃x,w'.cell? ⟨w.heap.size,j,none⟩=some x)∧w'.frozen? ⟨w.heap.size,j,none⟩=false) (El:1<z→ ∀i,w'.frozen? ⟨w.heap.size,i,none⟩=false) (hd:d<tm.size):
 Rel F A w0 (pK d ⟨dp,z,rows⟩ st') (tm.setIfInBounds d (.slice (some ⟨w.heap.size,0,none⟩) rows.length c)) w':=by
 have hlen:(cO (if dp then Mode.deep else .snap) rows.flatten vs).length=rows.length*z:=by rw[eU (by rw[bS sE,hl]),bS sE]
 exact MU h0 h p hz sE hl (ad:=⟨w.heap.size,0,none⟩) hc Pz rfl (h.frm.Jf g) g.size (fun k hk _=>g.block k hk) (G:=fun _=>False) (fun k hk=>hk.elim)
  (fun k hk=>⟨id,fun e=>by have:=(h0.free p.sub (p.srcZ k hk)).lt;rw[e] at this;simp at this⟩)
  (fun i k hi hk=>⟨id,fun e=>by have:=(h0.free p.sub (p.src i k (by rw[hlen];exact hi) hk).2).lt;rw[e] at this;simp at this⟩)
  (.inl ⟨cq _,hlt⟩) (fun j v hj=>by rw[add_lit,ia];exact hcell j v hj) (fun j hj=>by simp only[ia];exact hall j hj) El hd
theorem KC {z:Nat}: ∀(ps:List (Nat×Value)) (n:Nat) (cs:Array Value),(∀(j:Nat) p,ps[j]?=some p→p.1=n+j∧p.2.cells.size=z)→(n+ps.length)*z≤cs.size→
 ∃cs',Instr.fill (fun i=>some (i*z,z)) cs ps=some cs'∧cs'.size=cs.size∧(∀j,j<n*z→cs'[j]?=cs[j]?)∧ ∀j,j<ps.length*z→cs'[n*z+j]?=(ps.flatMap fun p=>p.2.cells.toList)[j]?
 |[],n,cs,_,_=>⟨cs,rfl,rfl,fun _ _=>rfl,fun j hj=>by simp at hj⟩
 |(i,v)::r,n,cs,hp,hle=>by
  obtain⟨h1,h2⟩:=hp 0 _ rfl;simp only[mF] at h1 h2;subst h1;simp only[e7] at hle
  have V8:i*z+z≤cs.size:=by
   have:(i+1)*z≤(i+(r.length+1))*z:=lJ _ az;rw[ni] at this;omega
  obtain⟨g1,g2⟩:=Ak (i*z) v.cells.toList 0 cs (by simp[h2];omega)
  obtain⟨cs',k1,k2,k3,k4⟩:=KC r (i+1) (v.cells.zipIdx.foldl (fun(cs:Array Value) (p:Value×Nat)=>cs.setIfInBounds (i*z+p.2) p.1) cs) (fun j p hj=>by
   obtain⟨a,b⟩:=hp (j+1) p (by simpa using hj)
   exact⟨by omega,b⟩) (by
   have e1:v.cells.zipIdx.foldl (fun(cs:Array Value) (p:Value×Nat)=>cs.setIfInBounds (i*z+p.2) p.1) cs=(v.cells.toList.zipIdx 0).foldl (fun(cs:Array Value) (p:Value×Nat)=>cs.setIfInBounds (i*z+p.2) p.1) cs:=by
    rw[←Array.foldl_toList,Array.toList_zipIdx]
   rw[e1,g1]
   have:i+1+r.length=i+(r.length+1):=by omega
   rw[this];exact hle)
  have e1:v.cells.zipIdx.foldl (fun(cs:Array Value) (p:Value×Nat)=>cs.setIfInBounds (i*z+p.2) p.1) cs=(v.cells.toList.zipIdx 0).foldl (fun(cs:Array Value) (p:Value×Nat)=>cs.setIfInBounds (i*z+p.2) p.1) cs:=by
   rw[←Array.foldl_toList,Array.toList_zipIdx]
  refine⟨cs',?_,by rw[k2,e1,g1],fun j hj=> ?_,fun j hj=> ?_⟩
  ·unfold Instr.fill
   simp only[h2,ne_eq,not_true_eq_false,decide_false,CM,decide_eq_true_eq];rw[aR az];exact k1
  ·rw[k3 j (by rw[ni];omega),e1,g2 j,aR az]
  ·rw[List.flatMap_cons]
   by_cases Xi:j<z
   ·rw[k3 _ (by rw[ni];omega),e1,g2,aZ (by simp[h2];omega),iE (by simp[h2];omega)]
    simp
   ·rw[jo (by simp[h2];omega)]
    have:=k4 (j-z) (by simp only[e7,ni] at hj;omega);rw[show(i+1)*z+(j-z)=i*z+j by rw[ni];omega] at this;rw[this];simp[h2]
theorem De {P:Program} {t e:TypeId} {i:TypeInfo} {zv:Value} (ht:P.underlying t=some (.slice e)) (hi:P.info? e=some i) (hz:i.zero=some zv) (parts:Array (Nat×Value)) {len:Nat}
 (hp: ∀(j:Nat) p,parts.toList[j]?=some p→p.1=j∧p.2.cells.size=i.size) (hl:parts.size=len) (hle:len*i.size≤16777216):
 ∃cells,(Instr.buildSlice t len parts).run P w= .ok (.slice (some ⟨w.heap.size,0,none⟩) len len) (w.alloc (.cells cells e))∧cells.size=len*i.size∧ ∀j,j<len*i.size→cells[j]?=(parts.toList.flatMap fun p=>p.2.cells.toList)[j]?:=by
 have S0: ¬(len*i.size>16777216):=by omega
 obtain⟨cs',k1,k2,_,k4⟩:=KC (z:=i.size) parts.toList 0 ((Array.range (len*i.size)).map ((if len*i.size=0 then #[] else zv.cells)[· % (if len*i.size=0 then #[] else zv.cells).size]!)) (fun j p hj=>by rw[ia];exact hp j p hj) (by simp[hl]);refine⟨cs',?_,by rw[k2];simp,fun j hj=> ?_⟩
 ·unfold Instr.buildSlice
  by_cases h0:len*i.size=0
  ·have hr: ∀f:Nat→Value,(Array.range 0).map f= #[]:=fun f=>Array.eq_empty_of_size_eq_zero dI
   simp only[h0,if_true,hr] at k1;simp[run_underlying ht,sizeOf,typeInfo,hi,S0,h0,hr,k1,newRow]
  ·simp only[h0,if_false] at k1
   simp[run_underlying ht,sizeOf,typeInfo,zeroValue,hi,hz,S0,h0,k1,newRow]
 ·have:=k4 j (by rw[rF,hl];exact hj)
  simpa using this
theorem Fq (hT:dN C) {a:Act} {ty:TypeId} (M:Mode): ∀(l:List (Nat×Operand)) (n:Nat) (st:TS) (rs:List (List TC)) (st':TS) (dp:Bool),aH F A w0 φ st a.tmps w→(M= .snap∨dp=true∧M= .deep)→rowsOf C st ty l n=some (rs,st',dp)→
 aH F A w0 φ st' a.tmps w∧rs.length=l.length∧(∀r∈rs,r.length=(C.tt ty).size)∧(∀(j:Nat) p,l[j]?=some p→p.1=n+j∧(a.eval p.2).cells.size=(C.tt ty).size)∧
  ∃X Z,g8 w φ st st' (cO M rs.flatten (l.flatMap fun p=>(a.eval p.2).cells.toList)) X Z
 |[],n,st,rs,st',dp,h,hM,hr=>by
  cases hr
  exact⟨h,rfl,fun r hr=>(by cases hr),fun j p hj=>by simp at hj,_,_,g8.nil _⟩
 |(i,x)::l,n,st,rs,st',dp,h,hM,hr=>by
  simp only[rowsOf] at hr
  split at hr
  ·rename_i cs hin hcs
   have hin:=eB hin;have hok:=mL (cQ hT h ty x) hcs
   split at hr
   ·rename_i cs' cF d1 hsz hab
    have hsz:=eB hsz
    split at hr
    ·rename_i rs2 jD d2 Cx
     cases hr
     have vlen:(a.eval x).cells.toList.length=cs.length:=by simpa using hok.1
     obtain⟨h1,Bz,FY,os,tk⟩:=wK M cs st (a.eval x).cells.toList cs' cF d1 h (cR.refl _) vlen (fun j e he=>by
      obtain⟨y,y1,_,y3⟩:=hok.2 j e he
      exact⟨y,by simpa using y1,y3⟩) (by
      rcases hM with hM|⟨hd,hM⟩
      ·exact .inl hM
      ·simp only[dg] at hd;exact .inr ⟨hd.1,hM⟩) hab
     obtain⟨X1,Z1,p1⟩:=tk.parts h
     obtain⟨h2,yj,He,Hf,X2,Z2,p2⟩:=Fq hT M l (n+1) cF rs2 _ d2 h1 (by
      rcases hM with hM|⟨hd,hM⟩
      ·exact .inl hM
      ·simp only[dg] at hd;exact .inr ⟨hd.2,hM⟩) Cx
     have key:=p1.app h p2;rw[←q9 az] at key;refine⟨h2,by simp[yj],fun r hr=> ?_,fun j p hj=> ?_,_,_,key⟩
     ·rcases cu.1 hr with rfl|hr
      ·rw[Bz,hsz]
      ·exact He r hr
     ·cases j with
      |zero=>simp only[cP,bg] at hj;subst hj;exact⟨hin,by rw[hok.1,hsz]⟩
      |succ j=>
       obtain⟨a1,a2⟩:=Hf j p (by simpa using hj);exact⟨by omega,a2⟩
    ·cases hr
   ·cases hr
  ·cases hr
theorem Ex (hT:dN C) {a:Act} (h:aH F A w0 φ st a.tmps w) {o:Oper} {t:TypeId} {n:Nat} {ps:Array (Nat×Operand)} (ho:o.op= .buildSlice t n ps) {K:TS→Ev R} (hd: ∀d,o.dst=some d→d<a.tmps.size) (hk:(jJ C st o K).holds cf lp Q):
 I0 C F A w0 φ st o a w K cf lp Q:=by
 unfold jJ at hk;rw[ho] at hk;simp only at hk
 split at hk
 ·rename_i d e gz he
  split at hk
  ·rename_i rs st' dp hb hr
   simp only[dg] at hb;obtain⟨⟨hn,hle⟩,Ho⟩:=hb;have hn:=eB hn;have hle:=lU hle;obtain⟨hkn,hnp⟩:=rU Ho;obtain⟨i,zv,g1,g2,g3,_⟩:=Gn (w:=w) (φ:=φ) hT hkn hnp (ob:=st.ob);obtain⟨h1,hl,hw,hp,X,Z,p⟩:=Fq hT (if dp then .deep else .snap) ps.toList 0 st rs st' dp h (by cases dp<;>simp) hr
   have zU:rs.length=n:=by rw[hl,hn];simp
   obtain⟨cells,c1,c2,c3⟩:=De (w:=w) (oD hT he).1 g1 g3 (ps.map fun(i,x)=>(i,a.eval x)) (len:=n) (fun j q hj=>by
    rw[Array.toList_map,gm] at hj
    cases hq:ps.toList[j]? with
    |none=>rw[hq] at hj;cases hj
    |some r=>
     rw[hq] at hj;simp only[ic,bg] at hj;subst hj;obtain⟨a1,a2⟩:=hp j r hq
     exact⟨by rw[a1,ia],by rw[g2];exact a2⟩) (by simp[hn]) (by rw[g2];exact hle)
   have hvl:(ps.toList.flatMap fun p=>(a.eval p.2).cells.toList).length=rs.length*(C.tt e).size:=by
    have: ∀(l:List (Nat×Operand)),(∀p∈l,(a.eval p.2).cells.size=(C.tt e).size)→(l.flatMap fun p=>(a.eval p.2).cells.toList).length=l.length*(C.tt e).size:=by
     intro l
     induction l with
     |nil=>intro _;simp
     |cons x r ih=>
      intro hx;rw[List.flatMap_cons,cW,ih fun p hp=>hx p (.tail _ hp),rF,hx x (.head _),e7,ni];omega
    rw[this _ fun p G7=> ?_,hl];obtain⟨j,hj,rfl⟩:=List.mem_iff_getElem.1 G7;exact(hp j _ (aX hj)).2
   have V9:((ps.map fun(i,x)=>(i,a.eval x)).toList.flatMap fun p=>p.2.cells.toList)=ps.toList.flatMap fun p=>(a.eval p.2).cells.toList:=by
    rw[Array.toList_map,List.flatMap_map]
   have pG:=yS (w':=w.alloc (.cells cells e)) (d:=d) h h1 p (hT e hkn).pos hw hvl (c:=n) az (by
    have hpos:=(hT e hkn).pos;have:n≤n*(C.tt e).size:=Nat.le_mul_of_pos_right n hpos
    simp only[maxLen];omega) (jK.alloc w _) dI (fun j v hj=>by
    rw[oS,c3 j (by
     have:=(List.getElem?_eq_some_iff.1 hj).1;rw[hvl,zU] at this
     rw[g2];exact this),V9]
    exact hj) (fun j hj=>⟨⟨cells[j]'(by rw[c2,g2];exact hj),by rw[oS];exact oI _⟩,lG _ _ _ _⟩) (fun _ i=>lG _ _ _ _) (hd d gz)
   rw[zU] at pG;refine⟨.value _,_,_,_,?_,.inl rfl,by rw[gz];exact pG,hk,by simp,fun k hk _=>(jK.alloc w _).block k hk⟩;unfold execOp;rw[ho];simp only[Sem.run_bind,c1,Result.andThen]
   rfl
  ·exact hk.elim
 ·exact hk.elim
theorem CF {z:Nat} {rows:List (List TC)} (hz:0<z) (sE: ∀r∈rows,r.length=z) {p:Nat} {tc:TC} (hp:rows.flatten[p]?=some tc):p6 rows (p/z) (p % z)=some tc:=by
 have hfl:=bS sE
 have hlt:p<rows.length*z:=by rw[←hfl];exact(List.getElem?_eq_some_iff.1 hp).1
 have hi:p/z<rows.length:=Nat.div_lt_of_lt_mul (by rw[Nat.mul_comm];exact hlt);have hrl:=sE _ (oK hi)
 have hf:p % z<(rows[p/z]).length:=by rw[hrl];exact Nat.mod_lt _ hz
 have h1:p6 rows (p/z) (p % z)=some (rows[p/z][p % z]):=by simp[p6,aX hi,aX hf]
 have h2:=(oR sE h1).1;rw[yt p z] at h2;rw[h1,←h2,hp]
theorem MX {Rd S:Nat→Prop} {m:Mode} {c:TC} (h:Jh c=true):aj w Rd m S c (Ow c):=by
 cases c with
 |any=>cases h
 |sc v=>cases v<;>first|exact .sc _ _ _ trivial|cases h
 |sub z rows=>cases rows with
  |nil=>exact qa (lU h)
  |cons _ _=>cases h
attribute [local semireducible] dH pI yw fits in
theorem Gx (hT:dN C) {a:Act} (h:aH F A w0 φ st a.tmps w) {o:Oper} {t:TypeId} {l c:Operand} (ho:o.op= .makeSlice t l c) {K:TS→Ev R} (hd: ∀d,o.dst=some d→d<a.tmps.size) (hk:(jJ C st o K).holds cf lp Q):
 I0 C F A w0 φ st o a w K cf lp Q:=by
 unfold jJ at hk;rw[ho] at hk;simp only at hk
 split at hk
 ·rename_i d e n n' gz he hl hc
  have hk2:(match(q7 (C.tt e)&&dH n n'&&pI 0 n&&fits (yw n) (C.tt e).bytes) with|true=>K (pK d ⟨true,(C.tt e).size,List.replicate (yw n) (C.tt e).zero⟩ st)|false=> .fail:Ev R).holds cf lp Q:=hk;clear hk
  split at hk2
  ·rename_i hb
   simp only[dg] at hb;obtain⟨⟨⟨Ho,R2⟩,h0⟩,hf⟩:=hb
   have R2:n=n':=by simpa [dH] using R2
   subst R2
   have h0:0≤n:=by simpa [pI] using h0
   have hf:n.toNat*(C.tt e).bytes≤140737488355328∧n.toNat≤140737488355328:=by simpa [fits,yw] using hf
   obtain⟨hkn,hnp⟩:=rU Ho;obtain⟨i,zv,g1,g2,g2b,g3,g4⟩:=(hT e hkn).info;obtain⟨z1,z2,z3,_⟩:=g4 hnp;obtain⟨kl,hkl⟩:=rR (cQ hT h 3 l) hl;obtain⟨kc,Wa⟩:=rR (cQ hT h 3 c) hc;have hpos:=(hT e hkn).pos
   have hzs:zv.cells.size=(C.tt e).size:=by rw[←rF,z1];simpa using z2
   have hby:(i.bytes:Int)*n≤281474976710656:=by
    have h1:=hf.1
    have e1:(i.bytes:Int)*n=((n.toNat*(C.tt e).bytes:Nat):Int):=by rw[g2b,Int.natCast_mul,Int.toNat_of_nonneg h0,Int.mul_comm]
    rw[e1];omega
   have hrun:=run_make (P:=C.P) w t e i zv (oD hT he).1 g1 g3 kl kc n n h0 (Int.le_refl _) hby az
   have hw: ∀r∈List.replicate (yw n) (C.tt e).zero,r.length=(C.tt e).size:=fun r hr=>by rw[List.eq_of_mem_replicate hr];exact z2
   have hlen:(List.replicate (yw n) (C.tt e).zero).length=n.toNat:=by simp[yw]
   have hvl:(madeCells zv.cells (n.toNat*i.size)).toList.length=(List.replicate (yw n) (C.tt e).zero).length*(C.tt e).size:=by rw[hlen];simp[madeCells,g2]
   have hval: ∀{j:Nat} {v:Value},(madeCells zv.cells (n.toNat*i.size)).toList[j]?=some v→zv.cells[j % (C.tt e).size]?=some v:=fun {j v} hj=>by
    have hlt:j<n.toNat*i.size:=by have:=(List.getElem?_eq_some_iff.1 hj).1;simpa [madeCells] using this
    simp[madeCells,hlt] at hj;have hm:j % zv.cells.size<zv.cells.size:=Nat.mod_lt _ (by rw[hzs];exact hpos);rw[getElem!_pos zv.cells _ hm] at hj;rw[←hj,←hzs,oI hm]
   have p:g8 w φ st st (cO (if true=true then .deep else .snap) (List.replicate (yw n) (C.tt e).zero).flatten (madeCells zv.cells (n.toNat*i.size)).toList) (fun _ _=>False) (fun _=>False):=by
    refine⟨fun j it hj=> ?_,fun _ _ _ hk=>hk.elim,fun _ hk=>hk.elim,fun _ _ _ _ _ hk=>hk.elim,cR.refl _⟩;obtain⟨tc,v,h1,h2,rfl⟩:=iO hj;have FZ:=CF hpos hw h1
    have J6:(C.tt e).zero[j % (C.tt e).size]?=some tc:=by
     unfold p6 at FZ
     cases hrow:(List.replicate (yw n) (C.tt e).zero)[j/(C.tt e).size]? with
     |none=>rw[hrow] at FZ;cases FZ
     |some row=>
      rw[hrow] at FZ;rw[List.eq_of_mem_replicate (ee hrow)] at FZ;exact FZ
    have hv:=hval h2;rw[←Hr,z1,gm,J6] at hv;simp only[ic,bg] at hv;subst hv;exact MX (List.all_eq_true.1 z3 tc (ee J6))
   have pG:=yS (w':=w.alloc (.cells (madeCells zv.cells (n.toNat*i.size)) e)) (d:=d) h h p hpos hw hvl (c:=n.toNat) (by rw[hlen];exact cq _) (by simp only[maxLen];omega) (jK.alloc w _) dI (fun j v hj=>by
    rw[oS];simpa using hj) (fun j hj=>⟨⟨_,by rw[oS];exact oI (by rw[size_madeCells,g2];exact hj)⟩,lG _ _ _ _⟩) (fun _ i=>lG _ _ _ _) (hd d gz)
   rw[hlen] at pG;refine⟨.value _,_,_,_,?_,.inl rfl,by rw[gz];exact pG,hk2,by simp,fun k hk _=>(jK.alloc w _).block k hk⟩;unfold execOp;rw[ho];simp only[hkl,Wa,Sem.run_bind,hrun,Result.andThen]
   rfl
  ·exact hk2.elim
 ·exact hk.elim
end Go.T
namespace Go.T
variable {F : Nat → Prop} {A : Arg} {w0 w w' : World} {φ φ' : Fp} {st st' sta cF jD : TS} {tm xB : Array Value} {C : hD}
variable {R : Type} {cf : Cf} {lp : Lp} {Q : R → Prop}
theorem Fs (w:World) (arr:Array Value) (t:TypeId) (fr:Nat×Nat) (j:Nat):(w.alloc (.cells arr t fr)).cell? ⟨w.heap.size,j,none⟩=arr[j]?:=by
 unfold World.cell?;simp only[heap_alloc_new]
 rfl
theorem H8 (w:World) (arr:Array Value) (t:TypeId) (fr:Nat×Nat) (j:Nat) (h:j<fr.1):(w.alloc (.cells arr t fr)).frozen? ⟨w.heap.size,j,none⟩=false:=by
 unfold World.frozen?;simp only[heap_alloc_new];obtain⟨a,b⟩:=fr;simp only at h ⊢;simp;omega
attribute [local semireducible] w7 in
theorem Df (s:ByteArray):w7 s=s.data.toList.map fun b=>[TC.sc (.int .u8 b.toNat)]:=rfl
theorem Jw (s:ByteArray):(w7 s).flatten=s.data.toList.map fun b=>TC.sc (.int .u8 b.toNat):=by
 rw[Df]
 induction s.data.toList with
 |nil=>rfl
 |cons b r ih=>simp only[List.map_cons,vf,ih];rfl
theorem jW (s:ByteArray):(w7 s).length=s.size:=by rw[Df,cm,rF];rfl
theorem Bj (s:ByteArray): ∀r∈w7 s,r.length=1:=fun r hr=>by
 rw[Df] at hr;obtain⟨_,_,rfl⟩:=List.mem_map.1 hr
 rfl
theorem Ft (s:ByteArray) (M:Mode) (st:TS):g8 w φ st st (cO M (w7 s).flatten (byteCells s)) (fun _ _=>False) (fun _=>False):=by
 refine⟨fun j it hj=> ?_,fun _ _ _ hk=>hk.elim,fun _ hk=>hk.elim,fun _ _ _ _ _ hk=>hk.elim,cR.refl _⟩;obtain⟨tc,v,h1,h2,rfl⟩:=iO hj;rw[Jw,gm] at h1;unfold byteCells at h2;rw[gm] at h2
 cases hb:s.data.toList[j]? with
 |none=>rw[hb] at h1;cases h1
 |some b=>
  rw[hb] at h1 h2;simp only[ic,bg] at h1 h2;subst h1 h2;exact .sc _ _ _ trivial
attribute [local semireducible] fits in
theorem KD {n b:Nat} (h:fits n b=true):n*b≤140737488355328∧n≤140737488355328:=tV h
theorem MY (hT:dN C) {a:Act} (h:aH F A w0 φ st a.tmps w) {o:Oper} {src dst:TypeId} {x:Operand} (ho:o.op= .convert src dst x) {K:TS→Ev R} (hd: ∀d,o.dst=some d→d<a.tmps.size) (hk:(jJ C st o K).holds cf lp Q):I0 C F A w0 φ st o a w K cf lp Q:=by
 have zZ:=hk;unfold jJ at hk;rw[ho] at hk;simp only at hk
 split at hk
 ·rename_i et hdt hst
  split at hk
  ·rename_i d s gz hu hs
   have hv:=Gh (cQ hT h src x) hs;have hrun:=run_bytes_of_string (P:=C.P) w src dst et s (C8 hT hst) (C9 hT hdt).1 (Gp hT hu);have hge:=grownCap_ge w s.size 0 et
   have hsz:(bytesRow s (grownCap w s.size 0 et)).size=grownCap w s.size 0 et:=by
    have:s.data.size=s.size:=rfl;simp[bytesRow,this];omega
   have hk2:(match fits s.size 1 with|true=>K (pK d ⟨true,1,w7 s⟩ st)|false=> .fail:Ev R).holds cf lp Q:=hk;clear hk
   split at hk2
   ·rename_i hfit
    have hbig:s.size≤maxLen:=by
     have:s.size*1≤140737488355328∧s.size≤140737488355328:=KD hfit;simp only[maxLen];omega
    have pG:=yS (w':=w.drew.alloc (.cells (bytesRow s (grownCap w s.size 0 et)) et ((bytesRow s (grownCap w s.size 0 et)).size,(bytesRow s (grownCap w s.size 0 et)).size+1))) (d:=d) (dp:=true) (z:=1) h h (Ft s _ st)
     Nat.one_pos (Bj s) (by rw[byteCells_length,jW,Nat.mul_one]) (c:=grownCap w s.size 0 et) (by rw[jW];exact hge) (grownCap_le_maxLen w s.size 0 et hbig) ((jK.drew w).trans (jK.alloc _ _)) dI
     (fun j v hj=>by
       have hj0:=hj
       have hjl:j<s.size:=by have:=(List.getElem?_eq_some_iff.1 hj).1;rwa [byteCells_length] at this
       show(w.drew.alloc _).cell? ⟨w.drew.heap.size,j,none⟩=_;rw[Fs];unfold bytesRow;rw[Array.getElem?_append_left (by rw[Array.size_map];exact hjl)];unfold byteCells at hj0
       simpa using hj0)
     (fun j hj=>by
       rw[Nat.mul_one] at hj;show(∃x,(w.drew.alloc _).cell? ⟨w.drew.heap.size,j,none⟩=_)∧(w.drew.alloc _).frozen? ⟨w.drew.heap.size,j,none⟩=_
       exact⟨⟨_,by rw[Fs];exact oI (by rw[hsz];exact hj)⟩,H8 _ _ _ _ _ (by simp only[hsz];exact hj)⟩) (fun LX=>absurd LX az) (hd d gz)
    rw[jW] at pG;refine⟨.value _,_,_,_,?_,.inl rfl,by rw[gz];exact pG,hk2,by simp,fun k hk _=>((jK.drew w).trans (jK.alloc _ _)).block k hk⟩;unfold execOp;rw[ho];simp only[hv,Sem.run_bind,hrun,Result.andThen]
    rfl
   ·exact hk2.elim
  ·exact hk.elim
 ·exact KA hT h hd hk
theorem Dg {Rd S:Nat→Prop} {m:Mode} {z:Nat} {rows:List (List TC)} {v:Value} (hr:aj w Rd m S (.sub z rows) v) {tx e':TypeId} (hk:C.P.underlying tx=some (.slice e')) {size:Nat} (hsz:size=z) {vs:List Value} (hl:vs.length=rows.length*z)
 (hcell: ∀ad n c,v= .slice (some ad) n c→ ∀(j:Nat) (x:Value),vs[j]?=some x→w.cell? (ad.add j)=some x) (h1: ∀x∈vs,x.oneCell'=true):Src C.P size tx v rows.length vs w:=by
 subst hsz
 cases hr with
 |sub _ _ _ _ Ad c u T k hn=>
  cases Ad with
  |none=>
   have hne:rows=[]:=Classical.byContradiction fun hne=>by obtain⟨ad,h⟩:=k.addr hne;cases h
   subst hne;have:vs=[]:=w5 (by simpa using hl);subst this;exact Src.ofNil w hk c
  |some ad=>exact Src.ofSlice w hk ad _ c vs hl (hcell ad _ _ rfl) h1
theorem aj.vals {Rd S:Nat→Prop} {m:Mode} {z:Nat} {rows:List (List TC)} {v:Value} (hr:aj w Rd m S (.sub z rows) v): ∃vals:List Value,vals.length=rows.length*z∧(∀r∈rows,r.length=z)∧0<z∧
 (∀ad n c,v= .slice (some ad) n c→ ∀(j:Nat) (x:Value),vals[j]?=some x→w.cell? (ad.add j)=some x)∧ ∀(p:Nat) (tc:TC) (x:Value),rows.flatten[p]?=some tc→vals[p]?=some x→ ∃T,aj w Rd m.nx T tc x:=by
 cases hr with
 |sub _ _ _ _ Ad c u T k hn=>
  have hz:=k.z0;have hfl:=bS k.width;refine⟨(List.range (rows.length*z)).map fun p=>u (p/z) (p % z),by simp,k.width,hz,?_,fun p tc x h1 h2=> ?_⟩
  ·intro ad n c' e j x hx
   cases e
   have hlt:j<rows.length*z:=by have:=(List.getElem?_eq_some_iff.1 hx).1;simpa using this
   simp[hlt] at hx;subst hx;obtain⟨tc,PA⟩: ∃tc,rows.flatten[j]?=some tc:=⟨_,aX (by rw[hfl];exact hlt)⟩;have:=k.cell ad rfl _ _ tc (CF hz k.width PA);rw[yt j z] at this;exact this
  ·have hlt:p<rows.length*z:=by have:=(List.getElem?_eq_some_iff.1 h2).1;simpa using this
   simp[hlt] at h2;subst h2;exact⟨_,hn _ _ tc (CF hz k.width h1)⟩
theorem Fu (hT:dN C) {t t' ty e:TypeId} {P:Program} (hP:P=C.P) (ht:P.underlying t=some (.slice e)) (Ho:q7 (C.tt e)=true) (h0:aH F A w0 φ st tm w) (h1:aH F A w0 φ cF tm w) {d:Nat} (hd:d<tm.size) {dp:Bool} {z:Nat} (hz:z=(C.tt e).size)
 {rows aQ:List (List TC)} {wz tP:List Value} {X1 X2:Nat→Nat→Prop} {Z1 Z2:Nat→Prop} (p1:g8 w φ st sta (cO (if dp then .deep else .snap) rows.flatten wz) X1 Z1) (p2:g8 w φ sta cF (cO (if dp then .deep else .snap) aQ.flatten tP) X2 Z2)
 (hw1: ∀r∈rows,r.length=z) (He: ∀r∈aQ,r.length=z) (Bz:wz.length=rows.length*z) (yj:tP.length=aQ.length*z) {Ad:Option Addr} {c:Nat} (hc:rows.length≤c) (Pz:c≤maxLen) {x:Value} (hs:Src P z t' x aQ.length tP w)
 (hA:(Ad=none∧rows=[]∧c=0)∨ ∃ad,Ad=some ad∧ad.spot=none∧(∃o,aA st.ob o∧ ¬aA sta.ob o∧φ.S o ad.block)∧(∀(j:Nat) (v:Value),wz[j]?=some v→w.cell? (ad.add j)=some v)∧
   (∀j,j<c*z→(∃x,w.cell? ⟨ad.block,ad.off+j,none⟩=some x)∧w.frozen? ⟨ad.block,ad.off+j,none⟩=false)∧(∀i k,X1 i k→k≠ad.block)∧(∀k,Z1 k→k≠ad.block)∧(1<z→ ∀i,w.frozen? ⟨ad.block,i,none⟩=false))
 (hf:fits (rows.length+aQ.length) (C.tt e).bytes=true):
 ∃v w',(Builtin.append_ #[t,t'] ty #[.slice Ad rows.length c,x]).run P w= .ok v w'∧Rel F A w0 (pK d ⟨dp,z,rows++aQ⟩ cF) (tm.setIfInBounds d v) w'∧w.heap.size≤w'.heap.size∧ ∀k,k<w.heap.size→(∀ad,Ad=some ad→k≠ad.block)→w'.heap[k]?=w.heap[k]?:=by
 subst hP;obtain⟨Wb,zV⟩:=KD hf;obtain⟨hkn,hnp⟩:=rU Ho;obtain⟨i,zv,g1,g2,g2b,g3,g4⟩:=(hT e hkn).info;obtain⟨z1,z2,z3,_⟩:=g4 hnp;have hpos:=(hT e hkn).pos
 have hzs:zv.cells.size=(C.tt e).size:=by rw[←rF,z1];simpa using z2
 have J6:0<z:=by omega
 have isz:i.size=z:=by rw[g2,hz]
 have p:=p1.app h0 p2;have Ry:=bS hw1;have S1:=bS He;rw[←q9 (by rw[Ry,Bz]),←J9] at p;have S2: ∀r∈rows++aQ,r.length=z:=fun r hr=>(List.mem_append.1 hr).elim (hw1 r) (He r)
 have Rz:(wz++tP).length=(rows++aQ).length*z:=by rw[cW,cW,ni,Bz,yj]
 have hs':Src C.P i.size t' x aQ.length tP w:=by rw[isz];exact hs
 have big:rows.length+aQ.length≤maxLen:=by simp only[maxLen];omega
 have grow:c<rows.length+aQ.length→(∃olds:List Value,olds=wz∧(Builtin.firstCells i.size rows.length (.slice Ad rows.length c)).run C.P w.drew= .ok olds.toArray w.drew)→
  ∃v w',(Builtin.append_ #[t,t'] ty #[.slice Ad rows.length c,x]).run C.P w= .ok v w'∧Rel F A w0 (pK d ⟨dp,z,rows++aQ⟩ cF) (tm.setIfInBounds d v) w'∧w.heap.size≤w'.heap.size∧ ∀k,k<w.heap.size→(∀ad,Ad=some ad→k≠ad.block)→w'.heap[k]?=w.heap[k]?:=fun hg ⟨olds,ho,Qf⟩=>by
  rw[ho] at Qf;have hr:=run_append_grow_src (P:=C.P) w t t' ty e i zv ht g1 g3 Ad rows.length c wz Qf x aQ.length tP hs' hg (by simp only[maxLen] at big;omega) (growslice_fits hg (by rw[g2b];exact Wb));have hge:=grownCap_ge w (rows.length+aQ.length) c e;have Wc:=grownCap_le_maxLen w (rows.length+aQ.length) c e big
  have hsize:((wz++tP).toArray++Builtin.zeroCells zv.cells (grownCap w (rows.length+aQ.length) c e-(rows.length+aQ.length))).size=grownCap w (rows.length+aQ.length) c e*z:=by
   rw[Array.size_append,size_zeroCells,List.size_toArray,Rz,hzs,←hz,cW,←ni]
   congr 1;omega
  have pG:=yS (w':=w.drew.alloc (.cells ((wz++tP).toArray++Builtin.zeroCells zv.cells (grownCap w (rows.length+aQ.length) c e-(rows.length+aQ.length))) e)) (d:=d) h0 h1 p J6 S2 Rz
   (c:=grownCap w (rows.length+aQ.length) c e) (by rw[cW];exact hge) Wc ((jK.drew w).trans (jK.alloc _ _)) dI
   (fun j v hj=>by
     have hlt:=(List.getElem?_eq_some_iff.1 hj).1;have e1:=oS w.drew ((wz++tP).toArray++Builtin.zeroCells zv.cells (grownCap w (rows.length+aQ.length) c e-(rows.length+aQ.length))) e j;refine e1.trans ?_;rw[Array.getElem?_append_left (by simpa using hlt)]
     simpa using hj)
   (fun j hj=>⟨⟨_,(oS w.drew _ e j).trans (oI (by rw[hsize];exact hj))⟩,lG w.drew _ e j⟩) (fun _ i=>lG w.drew _ e i) hd
  rw[cW] at pG;exact⟨_,_,hr,pG,by simp,fun k hk _=>((jK.drew w).trans (jK.alloc _ _)).block k hk⟩
 rcases hA with⟨rfl,rfl,rfl⟩|⟨ad,rfl,nE,US,hcell,hall,Wd,We,El⟩
 ·by_cases hn:aQ.length=0
  ·have Ru:aQ=[]:=w5 hn
   subst Ru;have Qi:tP=[]:=w5 (by simpa using yj);subst Qi;exact⟨_,w,run_append_nothing w t t' ty e i ht g1 none _ _ (cq _) x hs',Lo h1 J6 hd,cq _,fun _ _ _=>rfl⟩
  ·refine grow nF ⟨_,rfl,?_⟩
   have Qi:wz=[]:=w5 (by simpa using Bz);subst Qi;exact run_firstCells_none w.drew i.size 0 0 0
 ·have Wf: ∀i k,i<aQ.length*z→X2 i k→k≠ad.block:=fun i k hi hk e=>by
   subst e;obtain⟨o,o1,o2,o3⟩:=US;obtain⟨o',q1,q2,q3⟩:=(p2.src i _ (by rw[eU (by rw[S1,yj]),S1];exact hi) hk).2;have:=h0.sep.apart o o' _ o1 (p1.sub.dom q1) o3 q3;subst this;exact o2 q1
  have N5: ∀k,Z2 k→k≠ad.block:=fun k hk e=>by
   subst e;obtain⟨o,o1,o2,o3⟩:=US;obtain⟨o',q1,q2,q3⟩:=p2.srcZ _ hk;have:=h0.sep.apart o o' _ o1 (p1.sub.dom q1) o3 q3;subst this;exact o2 q1
  by_cases hroom:rows.length+aQ.length≤c
  ·have inb: ∀j,j<tP.length→rows.length*z+j<c*z:=fun j hj=>by
    have:rows.length*z+aQ.length*z≤c*z:=by rw[←ni];exact lJ _ hroom
    omega
   have had:(⟨ad.block,ad.off,none⟩:Addr)=ad:=by cases ad;simp_all
   have hr:=run_append_room_src (P:=C.P) w t t' ty e i ht g1 ad.block ad.off rows.length c x aQ.length tP hs' hroom
    (fun j hj=>by obtain⟨⟨y,hy⟩,_⟩:=hall _ (inb j hj);rw[isz,pR,hy];rfl) (fun j hj=>by obtain⟨_,hy⟩:=hall _ (inb j hj);rw[isz,pR];exact hy)
   rw[had,isz] at hr
   have RA: ∃o,aA st.ob o∧ ¬aA cF.ob o∧φ.S o ad.block:=let ⟨o,o1,o2,o3⟩:=US;⟨o,o1,fun hd=>o2 (p2.sub.dom hd),o3⟩
   have fr:=h0.free p.sub RA;obtain⟨s1,s2,s3,s4⟩:=iH ad.block tP (ad.off+rows.length*z) w
   have S3: ∀j,j<c*z→(∃x,(w.setCells ad.block (ad.off+rows.length*z) tP).cell? ⟨ad.block,ad.off+j,none⟩=some x)∧(w.setCells ad.block (ad.off+rows.length*z) tP).frozen? ⟨ad.block,ad.off+j,none⟩=false:=fun j hj=>by
    obtain⟨⟨y,hy⟩,hz⟩:=hall j hj;exact⟨Option.isSome_iff_exists.1 (World.isSome_setCells _ _ _ w _ (by rw[hy];rfl)),by rw[World.frozen?_setCells];exact hz⟩
   have hcl: ∀{i k:Nat},i<(rows++aQ).length*z→(if i<(cO (if dp=true then Mode.deep else .snap) rows.flatten wz).length then X1 i k else X2 (i-(cO (if dp=true then Mode.deep else .snap) rows.flatten wz).length) k)→k≠ad.block:=fun {i k} hi hk=>by
    rw[eU (by rw[Ry,Bz]),Ry] at hk
    by_cases hlt:i<rows.length*z
    ·rw[aZ hlt] at hk;exact Wd i k hk
    ·rw[aR hlt] at hk;exact Wf _ k (by rw[cW,ni] at hi;omega) hk
   have pG:=MU (w':=w.setCells ad.block (ad.off+rows.length*z) tP) (d:=d) h0 h1 p J6 S2 Rz (ad:=ad) (c:=c) (by rw[cW];exact hroom) Pz nE (h0.frm.setCells fr.new) (by rw[s4];exact cq _)
    (G:=fun k=>k=ad.block) (fun k hk hn=>dx _ _ _ _ hk hn) (fun k hk=>by subst hk;exact RA) (fun k hk=>by
      have:k≠ad.block:=hk.elim (We k) (N5 k)
      exact⟨this,this⟩) (fun i k hi hk=>⟨hcl hi hk,hcl hi hk⟩) (.inr RA) (fun j v hj=>by
      rw[oq j nE]
      by_cases hlt:j<rows.length*z
      ·rw[World.cell?_setCells_out _ _ _ _ _ (fun _ _=>by simp only;omega),←oq j nE]
       rw[iE az] at hj;exact hcell j v hj
      ·rw[jo az,Bz] at hj
       have S4:=(List.getElem?_eq_some_iff.1 hj).1
       have:=World.cell?_setCells_in ad.block tP (ad.off+rows.length*z) w (fun j' hj'=>by
        obtain⟨⟨y,hy⟩,_⟩:=hall _ (inb j' hj');rw[pR,hy];rfl) (j-rows.length*z) S4
       rw[show ad.off+rows.length*z+(j-rows.length*z)=ad.off+j by omega] at this;rw[this];rw[aX S4] at hj
       exact hj) S3 (fun LX i=>by rw[World.frozen?_setCells];exact El LX i) hd
   rw[cW] at pG;exact⟨_,_,hr,pG,by rw[s4];exact cq _,fun k hk hn=>dx _ _ _ _ hk (hn ad rfl)⟩
  ·refine grow az ⟨wz,rfl,?_⟩
   exact run_firstCells_some w.drew i.size rows.length ad rows.length c wz (by rw[isz];exact Bz) (by simpa using hcell)
end Go.T
namespace Go.T
structure Dh where
 tc:TC
 val:Value
 own:Nat→Prop
def Dh.ok (w:World) (t:Dh):Prop:=aj w (fun _=>False) .deep t.own t.tc t.val
def Dh.apart (a b:Dh):Prop:= ∀k,a.own k→ ¬b.own k
def OK (w:World) (b off:Nat) (L:List Value):Prop:= ∀k y,L[k]?=some y→w.cell? ⟨b,off+k,none⟩=some y
def Sl (w:World) (b off n:Nat):Prop:= ∀j,j<n→w.frozen? ⟨b,off+j,none⟩=false
theorem aj.Uc {w:World} {R R' S:Nat→Prop} {c:TC} {v:Value} (h:aj w R .deep S c v):aj w R' .deep S c v:=by
 generalize hm:Mode.deep=m at h
 induction h with
 |any _ _ _ h=>exact .any _ _ _ h
 |sc _ _ _ h=>exact .sc _ _ _ h
 |sub m S z rows A c u T h hn ih=>
  subst hm;exact .sub _ _ z rows A c u T {h with read:=fun hm=>by cases hm} fun i f tc ht=>ih i f tc ht rfl
structure xM (w:World) (S:Nat→Prop) (z:Nat) (rows:List (List TC)) (v:Value) (A:Option Addr) (c:Nat) (ct:List Dh):Prop where
 val:v= .slice A rows.length c
 le:rows.length≤c
 cap:c≤maxLen
 z0:0<z
 width: ∀r∈rows,r.length=z
 tcs:rows.flatten=ct.map (·.tc)
 ok: ∀t∈ct,t.ok w
 kE:ct.Pairwise Dh.apart
 sub: ∀t∈ct,∀k,t.own k→S k∧ ∀ad,A=some ad→k≠ad.block
 none:A=none→c=0
 row: ∀ad,A=some ad→S ad.block∧ad.spot= .none∧(∃sp,OK w ad.block ad.off (ct.map (·.val)++sp)∧(ct.map (·.val)++sp).length=c*z)∧Sl w ad.block ad.off (c*z)∧(1<z→ ∀i,w.frozen? ⟨ad.block,i,.none⟩=false)
theorem aj.opened {w:World} {R S:Nat→Prop} {z:Nat} {rows:List (List TC)} {v:Value} (h:aj w R .deep S (.sub z rows) v): ∃A c ct,xM w S z rows v A c ct:=by
 cases h with
 |sub _ _ _ _ A c u T k hn=>
  have hz:=k.z0;have hfl:=bS k.width;have FZ: ∀p tc,rows.flatten[p]?=some tc→p6 rows (p/z) (p % z)=some tc:=fun p tc h=>CF hz k.width h;refine⟨A,c,(List.range (rows.length*z)).map fun p=>⟨rows.flatten.getD p default,u (p/z) (p % z),T (p/z) (p % z)⟩,rfl,k.len,k.cap,hz,k.width,?_,?_,?_,?_,(k.own dI).1,?_⟩
  ·apply List.ext_getElem
   ·simp[hfl]
   ·intro p h1 h2
    simp only[List.getElem_map,List.getElem_range,jF,aX h1];rfl
  ·intro t ht
   obtain⟨p,hp,rfl⟩:=List.mem_map.1 ht;have hp:=List.mem_range.1 hp
   have hs:rows.flatten[p]?=some (rows.flatten.getD p default):=by
    rw[jF,aX az];rfl
   exact(hn _ _ _ (FZ p _ hs)).Uc
  ·rw[List.pairwise_map]
   refine(List.nodup_range (n:=rows.length*z)).imp_of_mem ?_;intro a b ha hb hab k' h1 h2;have:=(k.kE rfl _ _ _ h1).2.2 _ _ h2
   apply hab
   rw[←yt a z,←yt b z,this.1,this.2]
  ·intro t ht k' hk
   obtain⟨p,hp,rfl⟩:=List.mem_map.1 ht;exact⟨(k.kE rfl _ _ _ hk).1,(k.kE rfl _ _ _ hk).2.1⟩
  ·intro ad ha
   obtain⟨hS,hs,hc⟩:=(k.own dI).2 ad ha;refine⟨hS,hs,⟨(List.range (c*z-rows.length*z)).map fun j=>(w.cell? ⟨ad.block,ad.off+(rows.length*z+j),.none⟩).getD default,?_,?_⟩,fun j hj=>(hc j hj).2,fun h1 i=>k.soft dI h1 ad ha i⟩
   ·intro j y hj
    by_cases hl:j<rows.length*z
    ·rw[iE (by simpa using hl)] at hj
     simp[hl] at hj;subst hj
     have UN:rows.flatten[j]?=some (rows.flatten.getD j default):=by
      rw[jF,aX az];rfl
     have:=k.cell ad ha _ _ _ (FZ j _ UN);rw[yt j z] at this;obtain⟨b0,o0,s0⟩:=ad
     cases hs
     rwa [Addr.add_lit] at this
    ·rw[jo (by simpa using hl)] at hj
     have hlt:=(List.getElem?_eq_some_iff.1 hj).1;simp at hj hlt
     obtain⟨q1,rfl⟩:=by simpa [hlt] using hj
     obtain⟨x,hx⟩:=(hc j az).1;rw[show rows.length*z+(j-rows.length*z)=j by omega,hx];rfl
   ·have:=lJ z k.len
    simp;omega
theorem xM.rep {w:World} {S:Nat→Prop} {z:Nat} {rows:List (List TC)} {v:Value} {A:Option Addr} {c:Nat} {ct:List Dh} (h:xM w S z rows v A c ct) {R:Nat→Prop}:aj w R .deep S (.sub z rows) v:=by
 rw[h.val];have hfl:=bS h.width
 have IW:ct.length=rows.length*z:=by have:=congrArg List.length h.tcs;rw[hfl,cm] at this;exact this.symm
 have tO: ∀{i f:Nat} {tc:TC},p6 rows i f=some tc→ ∃t,ct[i*z+f]?=some t∧t.tc=tc∧f<z∧i<rows.length:=fun {i f tc} ht=>by
  obtain⟨h1,h2,h3⟩:=oR h.width ht;rw[h.tcs,gm] at h1
  cases hq:ct[i*z+f]? with
  |none=>rw[hq] at h1;cases h1
  |some t=>rw[hq] at h1;exact⟨t,rfl,by simpa using h1,h2,h3⟩
 have UT: ∀{i f i' f':Nat},f<z→f'<z→i*z+f=i'*z+f'→i=i'∧f=f':=fun {i f i' f'} h1 h2 e=>by
  have e1:(i*z+f)/z=i:=by rw[Nat.mul_comm,Nat.mul_add_div h.z0,Nat.div_eq_of_lt h1,mF]
  have e2:(i'*z+f')/z=i':=by rw[Nat.mul_comm,Nat.mul_add_div h.z0,Nat.div_eq_of_lt h2,mF]
  have:i=i':=by rw[←e1,e,e2]
  subst this;exact⟨rfl,by omega⟩
 refine .sub _ _ z rows A c (fun i f=>(ct[i*z+f]?.map (·.val)).getD default) (fun i f k=>f<z∧ ∃t,ct[i*z+f]?=some t∧t.own k) ⟨h.le,h.cap,h.z0,h.width,?_,?_,fun hm=>(by cases hm),fun _=>⟨h.none,?_⟩,?_,?_⟩ ?_
 ·intro hne
  cases hA:A with
  |none=>
   have h1:=h.none hA;have h2:=h.le;rw[h1] at h2;exact absurd (w5 az) hne
  |some ad=>exact⟨ad,rfl⟩
 ·intro ad ha i f tc ht
  obtain⟨t,h1,rfl,h2,h3⟩:=tO ht;obtain⟨_,hs,⟨sp,hr,_⟩,_⟩:=h.row ad ha;have:=hr (i*z+f) t.val (by rw[iE (by rw[cm];exact(List.getElem?_eq_some_iff.1 h1).1),gm,h1];rfl);obtain⟨b0,o0,s0⟩:=ad
  cases hs
  rw[Addr.add_lit,h1];exact this
 ·intro ad ha
  obtain⟨hS,hs,⟨sp,hr,hl⟩,hf,_⟩:=h.row ad ha;refine⟨hS,hs,fun j hj=>⟨⟨_,hr j _ (aX (by rw[hl];exact hj))⟩,hf j hj⟩⟩
 ·intro _ h1 ad ha i
  exact(h.row ad ha).2.2.2.2 h1 i
 ·rintro _ i f k ⟨hf,t,ht,hk⟩
  have hm:=ee ht;refine⟨(h.sub t hm k hk).1,(h.sub t hm k hk).2,fun i' f'=> ?_⟩;rintro⟨hf',t',ht',hk'⟩
  by_cases e:i*z+f=i'*z+f'
  ·have:=UT hf hf' e
   exact⟨this.1.symm,this.2.symm⟩
  ·have hp:=List.pairwise_iff_getElem.1 h.kE
   obtain⟨l1,e1⟩:=List.getElem?_eq_some_iff.1 ht;obtain⟨l2,e2⟩:=List.getElem?_eq_some_iff.1 ht';rcases Nat.lt_or_gt_of_ne e with hlt|hlt
   ·exact absurd hk' (by have:=hp _ _ l1 l2 hlt;rw[e1,e2] at this;exact this k hk)
   ·exact absurd hk (by have:=hp _ _ l2 l1 hlt;rw[e1,e2] at this;exact this k hk')
 ·intro i f tc ht
  obtain⟨t,h1,rfl,h2,h3⟩:=tO ht;have:=h.ok t (ee h1)
  have e:(ct[i*z+f]?.map (·.val)).getD default=t.val:=by rw[h1];rfl
  show aj w R .deep _ t.tc ((ct[i*z+f]?.map (·.val)).getD default);rw[e];exact aj.mono (aj.Uc this) fun k hk=>⟨h2,t,h1,hk⟩
theorem OK.put {w:World} {b off:Nat} {L us:List Value} (h:OK w b off L) {p:Nat} (hp:p+us.length≤L.length):OK (w.setCells b (off+p) us) b off (L.take p++us++L.drop (p+us.length)):=by
 intro k y hk
 have hs: ∀j,j<us.length→(w.cell? ⟨b,off+p+j,none⟩).isSome=true:=fun j hj=>by
  rw[pR,h (p+j) _ (aX az)];rfl
 by_cases h1:k<p
 ·rw[tT,iE (by rw[eM];omega),Be,aZ h1] at hk
  rw[World.cell?_setCells_out b us _ _ _ (fun _ _=> .inl (by show off+k<off+p;omega))];exact h k y hk
 ·by_cases h2:k<p+us.length
  ·rw[tT,jo (by rw[eM];omega),iE (by rw[eM];omega),eM,Nat.min_eq_left az] at hk
   have hl:k-p<us.length:=by omega
   have:=World.cell?_setCells_in b us (off+p) w hs (k-p) hl;rw[show off+p+(k-p)=off+k by omega] at this;rw[this,←hk,aX hl]
  ·rw[jo (by rw[cW,eM];omega),kJ,cW,eM,Nat.min_eq_left az] at hk
   rw[World.cell?_setCells_out b us _ _ _ (fun _ _=> .inr (by show off+p+us.length≤off+k;omega))];exact h k y (by rw[←hk];congr 1;omega)
theorem Km {w:World} {a:Addr} {y:Value} (h:w.cell? a=some y):a.block<w.heap.size:=by
 unfold World.cell? at h
 split at h
 ·rename_i hh;exact(Array.getElem?_eq_some_iff.1 hh).1
 ·cases h
end Go.T
namespace Go.T
variable {F : Nat → Prop} {A : Arg} {w0 w w' : World} {φ φ' φ1 : Fp} {st st' sta cF : TS} {tm xB : Array Value} {C : hD}
theorem sS {z:Nat}: ∀{rows:List (List TC)},(∀r∈rows,r.length=z)→ ∀i,(rows.take i).flatten=rows.flatten.take (i*z)
 |[],_,i=>by simp
 |r::rs,hw,0=>by simp
 |r::rs,hw,i+1=>by
  have hr:=hw r (.head _);rw[List.take_succ_cons,vf,vf,sS (fun r hr=>hw r (.tail _ hr)) i,CQ,List.take_append,hr];rw[PM (by omega:r.length≤i*z+z),show i*z+z-z=i*z by omega]
theorem sU {z:Nat}: ∀{rows:List (List TC)},(∀r∈rows,r.length=z)→ ∀i,(rows.drop i).flatten=rows.flatten.drop (i*z)
 |[],_,i=>by simp
 |r::rs,hw,0=>by simp
 |r::rs,hw,i+1=>by
  have hr:=hw r (.head _);rw[List.drop_succ_cons,vf,sU (fun r hr=>hw r (.tail _ hr)) i,CQ,List.drop_append,hr];rw[yq (by omega:r.length≤i*z+z),pP,show i*z+z-z=i*z by omega]
def Dh.out (t:Dh):Dh:=⟨.any,t.val,fun _=>False⟩
theorem Bk {z:Nat}: ∀n,(List.replicate n (List.replicate z TC.any)).flatten=List.replicate (n*z) TC.any
 |0=>by simp
 |n+1=>by
  rw[List.replicate_succ,vf,Bk n,CQ,Nat.add_comm,List.replicate_append_replicate]
theorem OL (l:List Dh):(l.map Dh.out).map (·.tc)=List.replicate l.length .any:=by
 induction l with
 |nil=>rfl
 |cons a l ih=>rw[List.map_cons,List.map_cons,ih,e7,List.replicate_succ];rfl
theorem MZ (l:List Dh):(l.map Dh.out).map (·.val)=l.map (·.val):=by
 rw[List.map_map];rfl
attribute [local semireducible] eO au in
theorem xM.move {S:Nat→Prop} {z:Nat} {rows:List (List TC)} {v:Value} {Ad:Option Addr} {c:Nat} {ct:List Dh} (o:xM w S z rows v Ad c ct) {l h:Int} (h0:0≤l) (h1:l≤h) (h2:h≤rows.length):
 ∃S5 itm:List Dh,xM w (fun k=>S k∧ ¬ ∃t∈itm,t.own k) z (eO z rows l h) v Ad c S5∧(eO z rows l h).length=rows.length∧(au rows l h).flatten=itm.map (·.tc)∧itm.map (·.val)=((ct.map (·.val)).take (h.toNat*z)).drop (l.toNat*z)∧
  (∀t∈itm,t.ok w∧ ∀k,t.own k→S k∧ ∀ad,Ad=some ad→k≠ad.block)∧itm.Pairwise Dh.apart∧(∀r∈au rows l h,r.length=z):=by
 obtain⟨a,ha⟩: ∃a,a=l.toNat:=⟨_,rfl⟩;obtain⟨b,hb⟩: ∃b,b=h.toNat:=⟨_,rfl⟩
 have hab:a≤b:=by omega
 have L6:b≤rows.length:=by omega
 have lt:=o.width
 have li:ct.length=rows.length*z:=by
  have:=congrArg List.length o.tcs;rw[bS o.width,cm] at this;exact this.symm
 have e1:=lJ z hab;have e2:=lJ z L6;obtain⟨i1,hi1⟩: ∃i1,i1=ct.take (a*z):=⟨_,rfl⟩;obtain⟨i2,hi2⟩: ∃i2,i2=(ct.take (b*z)).drop (a*z):=⟨_,rfl⟩;obtain⟨i3,Qj⟩: ∃i3,i3=ct.drop (b*z):=⟨_,rfl⟩
 have hsplit:ct=i1++i2++i3:=by
  rw[hi1,hi2,Qj];have q1:=w6 (b*z) ct;have q2:=w6 (a*z) (ct.take (b*z));rw[List.take_take,Nat.min_eq_left e1] at q2;rw[q2,q1]
 have l1:i1.length=a*z:=by rw[hi1,eM];omega
 have l2:i2.length=(b-a)*z:=by rw[hi2,iF,eM,Nat.sub_mul];omega
 have hd:=o.kE;rw[hsplit] at hd;obtain⟨d12,d3,d123⟩:=List.pairwise_append.1 hd;obtain⟨d1,d2,dc⟩:=List.pairwise_append.1 d12
 have m1: ∀t∈i1,t∈ct:=fun t ht=>by rw[hsplit];exact fj _ (fj _ ht)
 have m2: ∀t∈i2,t∈ct:=fun t ht=>by rw[hsplit];exact fj _ (jq _ ht)
 have m3: ∀t∈i3,t∈ct:=fun t ht=>by rw[hsplit];exact jq _ ht
 have hv:(i1++i2.map Dh.out++i3).map (·.val)=ct.map (·.val):=by
  rw[hsplit];simp only[vg,MZ]
 have hlen:(eO z rows l h).length=rows.length:=by
  unfold eO;rw[←ha,←hb];simp only[cW,eM,List.length_replicate,iF];omega
 have hfl:(eO z rows l h).flatten=(i1++i2.map Dh.out++i3).map (·.tc):=by
  unfold eO;rw[←ha,←hb,J9,J9,sS lt,sU lt,Bk,vg,vg,OL,l2,o.tcs,hi1,Qj,Hs,CO]
 have anyA: ∀t∈i2.map Dh.out,∀k,¬t.own k:=fun t ht k hk=>by
  obtain⟨t0,_,rfl⟩:=List.mem_map.1 ht;exact hk
 refine⟨i1++i2.map Dh.out++i3,i2,⟨?_,by rw[hlen];exact o.le,o.cap,o.z0,fun r hr=> ?_,hfl,fun t ht=> ?_,?_,fun t ht k hk=> ?_,o.none,fun ad e=> ?_⟩,hlen,?_,?_,fun t ht=>⟨o.ok t (m2 t ht),fun k hk=>o.sub t (m2 t ht) k hk⟩,d2,fun r hr=> ?_⟩
 ·rw[hlen];exact o.val
 ·unfold eO at hr
  rcases List.mem_append.1 hr with hr|hr
  ·rcases List.mem_append.1 hr with hr|hr
   ·exact lt r (rI hr)
   ·rw[List.eq_of_mem_replicate hr,List.length_replicate]
  ·exact lt r (vh hr)
 ·rcases List.mem_append.1 ht with ht|ht
  ·rcases List.mem_append.1 ht with ht|ht
   ·exact o.ok t (m1 t ht)
   ·obtain⟨t0,h0,rfl⟩:=List.mem_map.1 ht
    have:=o.ok t0 (m2 t0 h0);exact .any _ _ _ ⟨mP this,aj.cells this⟩
  ·exact o.ok t (m3 t ht)
 ·refine List.pairwise_append.2 ⟨List.pairwise_append.2 ⟨d1,?_,fun x hx y hy k _ hk=>anyA y hy k hk⟩,d3,fun x hx y hy=> ?_⟩
  ·rw[List.pairwise_map]
   exact d2.imp fun _ k hk=>hk.elim
  ·rcases List.mem_append.1 hx with hx|hx
   ·exact d123 x (fj _ hx) y hy
   ·exact fun k hk=>(anyA x hx k hk).elim
 ·rcases List.mem_append.1 ht with ht|ht
  ·rcases List.mem_append.1 ht with ht|ht
   ·exact⟨⟨(o.sub t (m1 t ht) k hk).1,fun⟨t',ht',hk'⟩=>dc t ht t' ht' k hk hk'⟩,(o.sub t (m1 t ht) k hk).2⟩
   ·exact(anyA t ht k hk).elim
  ·exact⟨⟨(o.sub t (m3 t ht) k hk).1,fun⟨t',ht',hk'⟩=>d123 t' (jq _ ht') t ht k hk' hk⟩,(o.sub t (m3 t ht) k hk).2⟩
 ·obtain⟨r1,r2,r3,r4⟩:=o.row ad e
  refine⟨⟨r1,fun⟨t,ht,hk⟩=>(o.sub t (m2 t ht) _ hk).2 ad e rfl⟩,r2,?_,r4⟩;rw[hv];exact r3
 ·unfold au
  rw[←ha,←hb,sU (fun r hr=>lt r (rI hr)),sS lt,o.tcs,hi2,CO,Hs]
 ·rw[←ha,←hb,hi2,CO,Hs]
 ·unfold au at hr
  exact lt r (rI (vh hr))
theorem aH.Sm (h:aH F A w0 φ st tm w) {o g:Nat} {z:Nat} {rows:List (List TC)} (hb:aa o st.ob=some ⟨true,z,rows⟩) {l hh:Int} (h0:0≤l) (h1:l≤hh) (h2:hh≤rows.length) (hg:g≠0) (RB:g≠o):
 ∃φ2,aH F A w0 φ2 (xD g o ⟨true,z,rows⟩ l hh st) tm w∧φ2.β=φ.β∧(∀d,d≠g→φ2.V d=φ.V d)∧(∀d k,d≠g→φ2.S d k→φ.S d k)∧
  ∃vs X,vs.length=(au rows l hh).length*z∧(∀r∈au rows l hh,r.length=z)∧(∀vX,tX z rows.length l hh (φ.V o) vX→ ∀ad n c,vX= .slice (some ad) n c→ ∀(j:Nat) (x:Value),vs[j]?=some x→w.cell? (ad.add j)=some x)∧
   ∀sta:TS,aA sta.ob g→g8 w φ2 sta (T.iT g sta) (cO .deep (au rows l hh).flatten vs) X (fun _=>False):=by
 have hin:aA st.ob o:=⟨_,hb⟩;have hO:aj w φ.I .deep (φ.S o) (.sub z rows) (φ.V o):=h.obj o _ hb;obtain⟨Ad,c,ct,op⟩:=hO.opened;obtain⟨S5,itm,op',e1,e2,e3,e4,e5,e6⟩:=op.move h0 h1 h2;have hS: ∀t∈itm,∀k,t.own k→φ.S o k:=fun t ht k hk=>((e4 t ht).2 k hk).1
 have w1:=h.nG (w':=w) (b':=⟨true,z,eO z rows l hh⟩) (X:=fun k=>φ.S o k∧ ¬ ∃t∈itm,t.own k) hb rfl e1 op'.rep h.frm (cq _) (fun _ _ _=>rfl)
  (fun k hk=>h.sep.fresh o k hin hk.1) (fun k hk=>h.sep.read o k hin hk.1) (fun k d hk hne hd hs=>hne (h.sep.apart d o k hd hin hs hk.1)) (fun b cs Bc hw hk=>(h.sep.box b cs Bc hw).2.1 o hin hk.1)
 have kk: ∀d,aA (T.nG o ⟨true,z,eO z rows l hh⟩ st).ob d→aA st.ob d:=fun d hd=>by
  have:aA (jk o ⟨true,z,eO z rows l hh⟩ st.ob) d:=hd;rw[fm] at this;exact this.elim (fun e=>e▸hin) id
 have w2:=w1.vj (o:=g) (b:=⟨true,1,[]⟩) (X:=fun k=> ∃t∈itm,t.own k) (v:= .slice none 0 0) hg (qa (Nat.lt_succ_self 0)) (fun k ⟨t,ht,hk⟩=>h.sep.fresh o k hin (hS t ht k hk)) (fun k ⟨t,ht,hk⟩=>h.sep.read o k hin (hS t ht k hk))
  (fun k d ⟨t,ht,hk⟩ hne hd hs=>by
    by_cases e:d=o
    ·subst e
     have hs:(if d=d then φ.S d k∧ ¬ ∃t∈itm,t.own k else φ.S d k):=hs;rw[aZ rfl] at hs;exact hs.2 ⟨t,ht,hk⟩
    ·rw[nV e] at hs
     exact e (h.sep.apart d o k (kk d hd) hin hs (hS t ht k hk)))
  (fun b cs Bc hw ⟨t,ht,hk⟩=>by
    obtain⟨cs0,hc0,_⟩:=eg _ b cs Bc
    exact(h.sep.box b cs0 hc0 hw).2.1 o hin (hS t ht _ hk))
 have lits:ct.length=rows.length*z:=by
  have:=congrArg List.length op.tcs;rw[bS op.width,cm] at this;exact this.symm
 have litm:itm.length=(au rows l hh).length*z:=by
  have:=congrArg List.length e2;rw[bS e6,cm] at this;exact this.symm
 refine⟨_,w2,rfl,fun d hd=> ?_,fun d k hd hs=> ?_,itm.map (·.val),fun i k=> ∃t,itm[i]?=some t∧t.own k,by rw[cm];exact litm,e6,fun vX hc ad n c' ev j x hj=> ?_,fun sta hgd=>⟨fun i it hi=> ?_,fun i k hi hk=>⟨id,g,hgd,fun hd=>(fP.1 hd).1 rfl,?_⟩,fun k hk=>hk.elim,fun i j k hi hj hk hk'=> ?_,cR.kill sta g⟩⟩
 ·show(if d=g then _ else if d=o then φ.V o else φ.V d)=φ.V d
  rw[aR hd]
  split
  ·subst_vars;rfl
  ·rfl
 ·rw[nV hd] at hs
  by_cases e:d=o
  ·subst e
   have hs:(if d=d then φ.S d k∧ ¬ ∃t∈itm,t.own k else φ.S d k):=hs;rw[aZ rfl] at hs;exact hs.1
  ·rw[nV e] at hs;exact hs
 ·obtain⟨c1,c2,c3,A0,A',c0,f1,f2,f3,f4,f5⟩:=hc
  rw[op.val] at f1
  cases f1
  rw[ev] at f2
  cases f2
  obtain⟨ad0,hA⟩: ∃ad0,Ad=some ad0:=by
   cases hA:Ad with
   |none=>have:=f4 hA;cases this
   |some ad0=>exact⟨ad0,rfl⟩
  obtain⟨_,hsp,⟨sp,hr,hrl⟩,_⟩:=op.row ad0 hA;rw[e3] at hj;have hjl:=(List.getElem?_eq_some_iff.1 hj).1;rw[iF,eM,cm,lits] at hjl;rw[kJ,Be] at hj
  split at hj
  ·have hbz:hh.toNat*z≤rows.length*z:=lJ z az
   have hx:=hr _ x (by rw[iE (by rw[cm,lits];exact fG RN hbz)];exact hj);have hle:=op.le;have hz:=op.z0
   have hne:c≠l.toNat:=fun e=>by
    have:hh.toNat≤l.toNat:=by omega
    have:=lJ z this;omega
   have:=f3 hne;rw[hA] at this;simp only[ic,bg] at this;obtain⟨b0,o0,s0⟩:=ad0
   cases hsp
   rw[this,Addr.add_add,Addr.add_lit];rw[←pR] at hx;rw[show o0+(l.toNat*z+j)=o0+l.toNat*z+j by omega];exact hx
  ·cases hj
 ·obtain⟨tc,v,t1,t2,rfl⟩:=iO hi
  rw[e2,gm] at t1;rw[gm] at t2
  cases hq:itm[i]? with
  |none=>rw[hq] at t1;cases t1
  |some t=>
   rw[hq] at t1 t2;simp only[ic,bg] at t1 t2;subst t1 t2;exact aj.mono (aj.Uc (e4 t (ee hq)).1) fun k hk=>⟨t,rfl,hk⟩
 ·obtain⟨t,ht,hk⟩:=hk
  show(if g=g then ∃t∈itm,t.own k else _);rw[aZ rfl];exact⟨t,ee ht,hk⟩
 ·obtain⟨t,ht,hk⟩:=hk
  obtain⟨t',ht',hk'⟩:=hk';obtain⟨l1,q1⟩:=List.getElem?_eq_some_iff.1 ht;obtain⟨l2,q2⟩:=List.getElem?_eq_some_iff.1 ht';have hp:=List.pairwise_iff_getElem.1 e5;rcases Nat.lt_trichotomy i j with hlt|rfl|hlt
  ·exact absurd hk' (by have:=hp _ _ l1 l2 hlt;rw[q1,q2] at this;exact this k hk)
  ·rfl
  ·exact absurd hk (by have:=hp _ _ l2 l1 hlt;rw[q1,q2] at this;exact this k hk')
end Go.T
namespace Go.T
variable {F : Nat → Prop} {A : Arg} {w0 w w' : World} {φ φ' : Fp} {st st' sta cF jD : TS} {tm xB : Array Value} {C : hD}
variable {R : Type} {cf : Cf} {lp : Lp} {Q : R → Prop}
theorem Fv {e:TypeId} {z:Nat} (h:z8 C e z=true):q7 (C.tt e)=true∧z=(C.tt e).size:=by
 unfold z8 at h
 split at h
 ·exact⟨by assumption,eB h⟩
 ·cases h
attribute [local semireducible] cN in
theorem Di {rows:List (List TC)} (h:cN rows=true): ∀(p:Nat) (tc:TC),rows.flatten[p]?=some tc→ ∃v,tc= .sc v:=fun p tc hp=>by
 have hm:=ee hp;obtain⟨r,hr,hc⟩:=List.mem_flatten.1 hm;have h1:=List.all_eq_true.1 h r hr;have h2:=List.all_eq_true.1 h1 tc hc
 cases tc with
 |any=>cases h2
 |sc v=>exact⟨v,rfl⟩
 |sub z rows=>cases h2
structure Q0 (w:World) (φ:Fp) (st sta:TS) (dp:Bool) (z:Nat) (rows:List (List TC)) (vS:Value) (M:Mode) (wz:List Value) (X1:Nat→Nat→Prop) (Z1:Nat→Prop) (Ad:Option Addr) (c:Nat):Prop where
 val:vS= .slice Ad rows.length c
 parts:g8 w φ st sta (cO M rows.flatten wz) X1 Z1
 width: ∀r∈rows,r.length=z
 len:wz.length=rows.length*z
 le:rows.length≤c
 max:c≤maxLen
 at':(Ad=none∧rows=[]∧c=0)∨ ∃ad,Ad=some ad∧ad.spot=none∧(∃o,aA st.ob o∧ ¬aA sta.ob o∧φ.S o ad.block)∧(∀(j:Nat) (v:Value),wz[j]?=some v→w.cell? (ad.add j)=some v)∧
    (∀j,j<c*z→(∃x,w.cell? ⟨ad.block,ad.off+j,none⟩=some x)∧w.frozen? ⟨ad.block,ad.off+j,none⟩=false)∧(∀i k,X1 i k→k≠ad.block)∧(∀k,Z1 k→k≠ad.block)∧(1<z→ ∀i,w.frozen? ⟨ad.block,i,none⟩=false)
theorem yT (h:aH F A w0 φ st tm w) {cs:CE} {vS:Value} (hc:cg st.ob w φ cs vS) {o:Option Nat} {z:Nat} {dp:Bool} {rows:List (List TC)} (hb:q8 st cs=some (o,z,dp,rows)) {M:Mode} (hM:M= .snap∨M= .deep∧dp=true):
 0<z∧aH F A w0 φ (jr o st) tm w∧ ∃wz X1 Z1 Ad c,Q0 w φ st (jr o st) dp z rows vS M wz X1 Z1 Ad c:=by
 unfold q8 at hb
 split at hb
 ·cases hb
  obtain⟨rfl,hz⟩:=hc;exact⟨hz,h,[],_,_,none,0,rfl,g8.nil _,fun r hr=>(by cases hr),by simp,cq _,Bf _,.inl ⟨rfl,rfl,rfl⟩⟩
 ·rename_i o' cut
  cases hl:aa o' st.ob with
  |none=>rw[hl] at hb;cases hb
  |some b=>
   obtain⟨d0,z0,jE⟩:=b;rw[hl] at hb
   cases hb
   obtain⟨b0,e0,u9⟩:=hc;rw[hl] at e0
   cases e0
   have hr:=iU.cut (h.obj o' _ hl) u9
   have hm:OB.m ⟨dp,z,jE⟩≠ .snap:=by unfold OB.m;split<;>simp
   obtain⟨wz,X1,Z1,l1,p1,a1⟩:=aj.parts h ⟨_,hl⟩ hr hm (M:=M) (hM.imp id fun⟨e1,e2⟩=>⟨e1,by rw[e2];rfl⟩);obtain⟨_,_,sE,hz,_⟩:=hr.vals;refine⟨hz,h.iT o',wz,X1,Z1,?_⟩
   cases hr with
   |sub _ _ _ _ Ad c u T k hn=>
    refine⟨Ad,c,rfl,p1,sE,l1,k.len,k.cap,?_⟩
    cases Ad with
    |none=>
     have hne:Hw cut jE=[]:=Classical.byContradiction fun hne=>by obtain⟨ad,h⟩:=k.addr hne;cases h
     exact .inl ⟨rfl,hne,(k.own hm).1 rfl⟩
    |some ad=>
     obtain⟨hS,hs,hall⟩:=(k.own hm).2 ad rfl;obtain⟨q1,q2,q3⟩:=a1 ad _ _ rfl;exact .inr ⟨ad,rfl,hs,⟨o',⟨_,hl⟩,fun hd=>(fP.1 hd).1 rfl,hS⟩,q1,hall,q2,q3,fun LX=>k.soft hm LX ad rfl⟩
 ·cases hb
theorem OM (h:aH F A w0 φ st tm w) {kG:TS} (hsub:cR st kG) {cx:CE} {vX:Value} (hc:cg kG.ob w φ cx vX) {tx e':TypeId} (hk:C.P.underlying tx=some (.slice e')) {z:Nat} {rows:List (List TC)} {cF:TS} {d1:Bool} (hab:jI cx st=some (.sub z rows,cF,d1))
 {M:Mode} (hM:M= .snap∨M= .deep∧d1=true):aH F A w0 φ cF tm w∧ ∃tP X2 Z2,g8 w φ st cF (cO M rows.flatten tP) X2 Z2∧(∀r∈rows,r.length=z)∧tP.length=rows.length*z∧Src C.P z tx vX rows.length tP w:=by
 unfold jI at hab
 split at hab
 ·cases hab
 ·cases hab
  obtain⟨rfl,hz⟩:=hc;exact⟨h,[],_,_,g8.nil _,fun r hr=>(by cases hr),by simp,Src.ofNil w hk 0⟩
 ·rename_i o cut
  cases hl:aa o st.ob with
  |none=>rw[hl] at hab;cases hab
  |some b=>
   obtain⟨d0,z0,jE⟩:=b;rw[hl] at hab
   cases hab
   obtain⟨b0,e0,u9⟩:=hc;rw[hsub.ob _ _ hl] at e0
   cases e0
   have hr:=iU.cut (h.obj o _ hl) u9
   have hm:OB.m ⟨d1,z,jE⟩≠ .snap:=by unfold OB.m;split<;>simp
   obtain⟨wz,X1,Z1,l1,p1,a1⟩:=aj.parts h ⟨_,hl⟩ hr hm (M:=M) (hM.imp id fun⟨e1,e2⟩=>⟨e1,by rw[e2];rfl⟩);obtain⟨_,_,sE,hz,_⟩:=hr.vals;refine⟨h.iT o,wz,X1,Z1,p1,sE,l1,Dg hr hk rfl l1 (fun ad n c e=>(a1 ad n c e).1) fun y hy=> ?_⟩;obtain⟨j,hj,rfl⟩:=List.mem_iff_getElem.1 hy;exact mP (p1.ok j _ (je (aX (by rw[bS sE,←l1];exact hj)) (aX hj)))
 ·rename_i l z0 jE
  cases hab
  have UO:M= .snap:=hM.elim id fun⟨_,e⟩=>by cases e
  subst UO;have hr:=hc.2.1;obtain⟨vs,l1,sE,hz,hcell,rC⟩:=hr.vals
  have hok: ∀(i:Nat) (it:It),(cO .snap rows.flatten vs)[i]?=some it→it.1= .snap∧aj w (fun k=>φ.I k∨False) .snap zW it.2.1 it.2.2:=fun i it hi=>by
   obtain⟨tc,v,h1,h2,rfl⟩:=iO hi;obtain⟨T,hT⟩:=rC i tc v h1 h2;exact⟨rfl,hT.ko fun k hk=>hk.elim .inl fun⟨d,hd,_⟩=>by cases hd⟩
  refine⟨h,vs,fun _ _=>False,fun _=>False,⟨fun i it hi=> ?_,fun _ _ _ hk=>hk.elim,fun _ hk=>hk.elim,fun _ _ _ _ _ hk=>hk.elim,cR.refl _⟩,sE,l1,Dg hr hk rfl l1 hcell fun y hy=> ?_⟩
  ·obtain⟨e1,e2⟩:=hok i it hi
   rw[e1];exact e2
  ·obtain⟨j,hj,rfl⟩:=List.mem_iff_getElem.1 hy
   exact mP (hok j _ (je (aX (by rw[bS sE,←l1];exact hj)) (aX hj))).2
 ·cases hab
theorem Lr (h:aH F A w0 φ st tm w) {cx:CE} {vX:Value} (hc:cg st.ob w φ cx vX) {tx e':TypeId} (hk:C.P.underlying tx=some (.slice e')) {z:Nat} {rows:List (List TC)} (hr:jl st cx=some (z,rows)) (hsc:cN rows=true) (M:Mode) (sta:TS):
 ∃tP,g8 w φ sta sta (cO M rows.flatten tP) (fun _ _=>False) (fun _=>False)∧(∀r∈rows,r.length=z)∧tP.length=rows.length*z∧Src C.P z tx vX rows.length tP w:=by
 obtain⟨rC,_⟩:=lM h hc hr;obtain⟨vs,l1,sE,hz,hcell,K6⟩:=rC.vals
 have hok: ∀(M:Mode) (i:Nat) (it:It),(cO M rows.flatten vs)[i]?=some it→ ∃v,it=(M,.sc v,v)∧BE v:=fun M i it hi=>by
  obtain⟨tc,v,h1,h2,rfl⟩:=iO hi;obtain⟨T,hT⟩:=K6 i tc v h1 h2;obtain⟨v',rfl⟩:=Di hsc i tc h1
  cases hT with
  |sc _ _ _ hs=>exact⟨_,rfl,hs⟩
 refine⟨vs,⟨fun i it hi=> ?_,fun _ _ _ hk=>hk.elim,fun _ hk=>hk.elim,fun _ _ _ _ _ hk=>hk.elim,cR.refl _⟩,sE,l1,Dg rC hk rfl l1 hcell fun y hy=> ?_⟩
 ·obtain⟨v,rfl,hs⟩:=hok M i it hi
  exact .sc _ _ _ hs
 ·obtain⟨j,hj,rfl⟩:=List.mem_iff_getElem.1 hy
  obtain⟨v,e1,hs⟩:=hok .deep j _ (je (aX (by rw[bS sE,←l1];exact hj)) (aX hj))
  have:vs[j]=v:=by have:=congrArg (fun it:It=>it.2.2) e1;exact this
  rw[this]
  cases v<;>first|rfl|cases hs
theorem Bl {g o p:Nat} {b:OB} {l h:Int} (h1:p≠g) (h2:p≠o):aa p (xD g o b l h st).ob=aa p st.ob:=by
 show aa p (jk g _ (kL g (jk o _ st.ob)))=_;rw[c6,aR h1,eT,aR h1,c6,aR h2]
theorem Dj {g o:Nat} {b:OB} {l h:Int}:aA (xD g o b l h st).ob g:=by
 refine⟨⟨true,1,[]⟩,?_⟩;show aa g (jk g _ (kL g (jk o _ st.ob)))=_;rw[c6,aZ rfl]
theorem Jx (hT:dN C) {a:Act} (h:aH F A w0 φ st a.tmps w) {o:Oper} {s x:Operand} {t t':TypeId} (ho:o.op= .call {callee:= .builtin .append,args:= #[s,x],argTypes:= #[t,t']}) {K:TS→Ev R} (hd: ∀d,o.dst=some d→d<a.tmps.size) {d:Nat} (gz:o.dst=some d)
 {e:TypeId} (he:q0 C t=some e) {cs cx:CE} (hcs:pJ (lW C st t s)=some cs) {oo:Option Nat} {z:Nat} {dp:Bool} {rows:List (List TC)} (hb:q8 st cs=some (oo,z,dp,rows)) (hsz:z8 C e z=true) {e2:TypeId} (R4:C.P.underlying t'=some (.slice e2)) (Ok:cg st.ob w φ cs (a.eval s)) (PC:cg st.ob w φ cx (a.eval x))
 {aQ:List (List TC)} {cF:TS} (PD:I9 d oo dp cx st=some (z,aQ,cF)) (hfit:fits (rows.length+aQ.length) (C.tt e).bytes=true) (hk:(K (pK d ⟨dp,z,rows++aQ⟩ cF)).holds cf lp Q):I0 C F A w0 φ st o a w K cf lp Q:=by
 obtain⟨Ho,hz⟩:=Fv hsz;unfold I9 at PD
 split at PD
 ·rename_i o' l hh
  split at PD
  ·rename_i z0 jE hl Qk
   simp only[bg,tU] at PD;obtain⟨rfl,rfl,rfl⟩:=PD;rw[Bool.or_eq_false_iff] at Qk;obtain⟨Oi,TU⟩:=Qk
   have RB:mC d 1 0≠o':=fun e=>by rw[e] at TU;simp at TU
   have Wg:mC d 1 0≠0:=by unfold mC;omega
   have R5: ∀p,oo=some p→p≠o'∧p≠mC d 1 0:=fun p e=>by
    rw[e] at Oi;simp only[Bool.or_eq_false_iff] at Oi;exact⟨lV Oi.1,lV Oi.2⟩
   obtain⟨b0,hb0,u9⟩:=PC;rw[hl] at hb0
   cases hb0
   have u9:tX z0 jE.length l hh (φ.V o') (a.eval x):=u9;obtain⟨φ2,h2,eβ,eV,eS,tP,X2,yj,He,hcell,RC⟩:=h.Sm (g:=mC d 1 0) hl u9.1 u9.2.1 u9.2.2.1 Wg RB
   have Ql:cg (xD (mC d 1 0) o' ⟨true,z0,jE⟩ l hh st).ob w φ2 cs (a.eval s)∧q8 (xD (mC d 1 0) o' ⟨true,z0,jE⟩ l hh st) cs=some (oo,z0,true,rows):=by
    unfold q8 at hb ⊢
    split at hb
    ·cases hb
     exact⟨Ok,rfl⟩
    ·rename_i p cut
     obtain⟨bp,Vy,Wh⟩:=Ok;rw[Vy] at hb;obtain⟨dq,zq,rq⟩:=bp;simp only[bg,tU] at hb;obtain⟨rfl,rfl,rfl,rfl⟩:=hb;obtain⟨n1,n2⟩:=R5 p rfl;have hlk:=Bl (st:=st) (b:=⟨true,zq,jE⟩) (l:=l) (h:=hh) n2 n1;rw[Vy] at hlk;refine⟨⟨_,hlk,?_⟩,?_⟩
     ·rw[eV p n2];exact Wh
     ·simp only[hlk]
    ·cases hb
   obtain⟨_,hka,wz,X1,Z1,Ad,c,hB⟩:=yT h2 Ql.1 Ql.2 (M:= .deep) (.inr ⟨rfl,rfl⟩)
   have S6:aA (jr oo (xD (mC d 1 0) o' ⟨true,z0,jE⟩ l hh st)).ob (mC d 1 0):=by
    cases oo with
    |none=>exact Dj
    |some p=>exact fP.2 ⟨fun e=>(R5 p rfl).2 e.symm,Dj⟩
   have p2:=RC _ S6
   have hsrc:Src C.P z0 t' (a.eval x) (au jE l hh).length tP w:=by
    refine Dg (iU.cut (cut:=some (l,hh)) (h.obj o' _ hl) u9) R4 rfl yj (fun ad n c e=>hcell _ u9 ad n c e) fun y hy=> ?_;obtain⟨j,hj,rfl⟩:=List.mem_iff_getElem.1 hy;exact mP (p2.ok j _ (je (aX (by rw[bS He,←yj];exact hj)) (aX hj)))
   obtain⟨v,w',hrun,pG,hsize,hframe⟩:=Fu (ty:=o.type) hT rfl (oD hT he).1 Ho h2 (hka.iT (mC d 1 0)) (hd d gz) (dp:=true) hz hB.parts p2 hB.width He hB.len yj hB.le hB.max hsrc hB.at' hfit;refine⟨.value v,v,w',_,?_,.inl rfl,by rw[gz];exact pG,hk,hsize,fun k hk PB=>hframe k hk fun ad Em e=>PB ?_⟩
   ·rw[nt ho]
    simp only[builtin,Sem.run_bind]
    have:(#[s,x].map a.eval)= #[a.eval s,a.eval x]:=by simp
    rw[this,hB.val,hrun]
    rfl
   ·rcases hB.at' with⟨e0,_⟩|⟨ad',e0,_,⟨o2,o21,o22,o23⟩,_⟩
    ·rw[Em] at e0;cases e0
    ·rw[Em] at e0
     cases e0
     cases oo with
     |none=>exact absurd o21 o22
     |some p=>
      have:o2=p:=Classical.byContradiction fun hne=>o22 (fP.2 ⟨hne,o21⟩);subst this;obtain⟨n1,n2⟩:=R5 o2 rfl
      have g1: ∃q,pJ (lW C st t s)=some (.ref o2 q):=by
       unfold q8 at hb
       split at hb
       ·cases hb
       ·rename_i p cut
        split at hb
        ·simp only[bg,tU] at hb
         obtain⟨rfl,_⟩:=hb;exact⟨_,hcs⟩
        ·cases hb
       ·cases hb
      obtain⟨q,g1⟩:=g1
      have g2:aA st.ob o2:=by
       obtain⟨b2,hb2⟩:=o21;rw[Bl n2 n1] at hb2;exact⟨b2,hb2⟩
      refine .inr ⟨o2,?_,g2,by rw[e];exact eS o2 _ n2 o23⟩;unfold writes;rw[ho];simp only;refine List.mem_map.2 ⟨o2,?_,rfl⟩
      revert g1
      cases lW C st t s with
      |v tup es=>
       unfold pJ
       split
       ·rename_i e0 e1
        intro g1
        cases g1
        simp only[TE.v.injEq] at e1;obtain⟨rfl,rfl⟩:=e1;exact .head _
       ·intro g1;cases g1
       ·intro g1;cases g1
      |_=>intro g1;simp[pJ] at g1
  ·cases PD
 ·cases PD
theorem ON (h:aH F A w0 φ st tm w) {cx:CE} {vX:Value} (hc:cg st.ob w φ cx vX) {tx e':TypeId} (hk:C.P.underlying tx=some (.slice e')) {z:Nat} {rows:List (List TC)} (hr:Mh st cx=some (z,rows)) (sta:TS):
 ∃tP,g8 w φ sta sta (cO .snap rows.flatten tP) (fun _ _=>False) (fun _=>False)∧(∀r∈rows,r.length=z)∧tP.length=rows.length*z∧Src C.P z tx vX rows.length tP w:=by
 unfold Mh at hr
 split at hr
 ·rename_i o' cut
  split at hr
  ·rename_i z0 jE hl
   cases hr
   obtain⟨b0,hb0,u9⟩:=hc;rw[hl] at hb0
   cases hb0
   have rC:=iU.cut (h.obj o' _ hl) u9;obtain⟨vs,l1,sE,hz,hcell,K6⟩:=rC.vals
   have hok: ∀(i:Nat) (it:It),(cO .snap (Hw cut jE).flatten vs)[i]?=some it→it.1= .snap∧aj w (fun k=>φ.I k∨False) .snap zW it.2.1 it.2.2:=fun i it hi=>by
    obtain⟨tc,v,t1,t2,rfl⟩:=iO hi;obtain⟨T,hT⟩:=K6 i tc v t1 t2;exact⟨rfl,hT.ko fun k hk=> .inl hk⟩
   refine⟨vs,⟨fun i it hi=> ?_,fun _ _ _ hk=>hk.elim,fun _ hk=>hk.elim,fun _ _ _ _ _ hk=>hk.elim,cR.refl _⟩,sE,l1,Dg rC hk rfl l1 hcell fun y hy=> ?_⟩
   ·obtain⟨e1,e2⟩:=hok i it hi
    rw[e1];exact e2.mono fun k hk=>hk.elim
   ·obtain⟨j,hj,rfl⟩:=List.mem_iff_getElem.1 hy
    exact mP (hok j _ (je (aX (by rw[bS sE,←l1];exact hj)) (aX hj))).2
  ·cases hr
 ·cases hr
theorem Ls (hT:dN C) {a:Act} (h:aH F A w0 φ st a.tmps w) {o:Oper} {args:Array Operand} {ts:Array TypeId} (ho:o.op= .call {callee:= .builtin .append,args,argTypes:=ts}) {K:TS→Ev R} (hd: ∀d,o.dst=some d→d<a.tmps.size) (hk:(jJ C st o K).holds cf lp Q):
 I0 C F A w0 φ st o a w K cf lp Q:=by
 unfold jJ at hk;rw[ho] at hk;simp only at hk
 split at hk
 ·rename_i d s x t t' gz h1 h2
  have e1:args= #[s,x]:=by cases args;simp at h1;subst h1;rfl
  have e2:ts= #[t,t']:=by cases ts;simp at h2;subst h2;rfl
  subst e1 e2;have UU:=cQ hT h t s;have R0:=cQ hT h t' x
  have fin: ∀{dp:Bool} {z:Nat} {e:TypeId} {rows aQ:List (List TC)} {sta cF:TS} {wz tP:List Value} {X1 X2:Nat→Nat→Prop} {Z1 Z2:Nat→Prop} {Ad:Option Addr} {c:Nat} {cs:CE} {oo:Option Nat},
   q0 C t=some e→pJ (lW C st t s)=some cs→q8 st cs=some (oo,z,(match dp with|true=>true|false=>false),rows)∨True→z8 C e z=true→Q0 w φ st sta dp z rows (a.eval s) (if dp then .deep else .snap) wz X1 Z1 Ad c→(∀ad,Ad=some ad→ ∃o',pJ (lW C st t s)=some (.ref o' none)∨(∃q,pJ (lW C st t s)=some (.ref o' q))∧True)→
   (∀ad,Ad=some ad→ ∃o' q,pJ (lW C st t s)=some (.ref o' q)∧aA st.ob o'∧φ.S o' ad.block)→
   aH F A w0 φ cF a.tmps w→g8 w φ sta cF (cO (if dp then .deep else .snap) aQ.flatten tP) X2 Z2→(∀r∈aQ,r.length=z)→tP.length=aQ.length*z→Src C.P z t' (a.eval x) aQ.length tP w→fits (rows.length+aQ.length) (C.tt e).bytes=true→
   (K (pK d ⟨dp,z,rows++aQ⟩ cF)).holds cf lp Q→I0 C F A w0 φ st o a w K cf lp Q:=by
   intro dp z e rows aQ sta cF wz tP X1 X2 Z1 Z2 Ad c cs oo he hcs _ hsz hb _ hown Hq p2 He yj hsrc hfit hk;obtain⟨Ho,hz⟩:=Fv hsz;obtain⟨v,w',hrun,pG,hsize,hframe⟩:=Fu (ty:=o.type) hT rfl (oD hT he).1 Ho h Hq (hd d gz) hz hb.parts p2 hb.width He hb.len yj hb.le hb.max hsrc hb.at' hfit;refine⟨.value v,v,w',_,?_,.inl rfl,by rw[gz];exact pG,hk,hsize,fun k hk PB=>hframe k hk fun ad Em e=>PB ?_⟩
   ·rw[nt ho]
    simp only[builtin,Sem.run_bind]
    have:(#[s,x].map a.eval)= #[a.eval s,a.eval x]:=by simp
    rw[this,hb.val,hrun]
    rfl
   ·obtain⟨o',q,g1,g2,g3⟩:=hown ad Em
    refine .inr ⟨o',?_,g2,by rw[e];exact g3⟩;unfold writes;rw[ho];simp only;refine List.mem_map.2 ⟨o',?_,rfl⟩
    revert g1
    cases lW C st t s with
    |v tup es=>
     unfold pJ
     split
     ·rename_i e0 e1
      intro g1
      cases g1
      simp only[TE.v.injEq] at e1;obtain⟨rfl,rfl⟩:=e1;exact .head _
     ·intro g1;cases g1
     ·intro g1;cases g1
    |_=>intro g1;simp[pJ] at g1
  unfold Kf at hk
  split at hk
  ·rename_i e cs cx he hcs UW
   obtain⟨_,Ok⟩:=p7 UU hcs;obtain⟨_,PC⟩:=p7 R0 UW
   have hown: ∀{oo:Option Nat} {z:Nat} {dp dp':Bool} {rows:List (List TC)} {M:Mode} {wz:List Value} {X1:Nat→Nat→Prop} {Z1:Nat→Prop} {Ad:Option Addr} {c:Nat},q8 st cs=some (oo,z,dp,rows)→Q0 w φ st (jr oo st) dp' z rows (a.eval s) M wz X1 Z1 Ad c→
    ∀ad,Ad=some ad→ ∃o' q,pJ (lW C st t s)=some (.ref o' q)∧aA st.ob o'∧φ.S o' ad.block:=fun {oo z dp dp' rows M wz X1 Z1 Ad c} hb hB ad Em=>by
    unfold q8 at hb
    split at hb
    ·cases hb
     rcases hB.at' with⟨e0,_⟩|⟨ad',e0,_,⟨o',o1,o2,o3⟩,_⟩
     ·rw[Em] at e0;cases e0
     ·exact absurd o1 o2
    ·rename_i o' cut
     cases hl:aa o' st.ob with
     |none=>rw[hl] at hb;cases hb
     |some b=>
      obtain⟨d0,z0,jE⟩:=b;rw[hl] at hb
      cases hb
      rcases hB.at' with⟨e0,_⟩|⟨ad',e0,_,⟨o2,o21,o22,o23⟩,_⟩
      ·rw[Em] at e0;cases e0
      ·rw[Em] at e0
       cases e0
       have:o2=o':=Classical.byContradiction fun hne=>o22 (fP.2 ⟨hne,o21⟩);subst this;exact⟨o2,cut,hcs,o21,o23⟩
    ·cases hb
   split at hk
   ·rename_i oo z dp rows hb UX
    split at hk
    ·rename_i b hsz hz1
     have hk2:(match fits (rows.length+b.size) (C.tt e).bytes with|true=>K (pK d ⟨dp,z,rows++w7 b⟩ (jr oo st))|false=> .fail:Ev R).holds cf lp Q:=hk;clear hk
     split at hk2
     ·rename_i hfit
      have hz1:=eB hz1;subst hz1;obtain⟨hz,hka,wz,X1,Z1,Ad,c,hB⟩:=yT h Ok hb (M:=if dp then .deep else .snap) (by cases dp<;>simp);have hv:=Gf PC
      exact fin (oo:=oo) he hcs (.inr trivial) hsz hB (fun ad Em=>let ⟨o',q,g,_⟩:=hown hb hB ad Em;⟨o',.inr ⟨⟨q,g⟩,trivial⟩⟩) (hown hb hB) hka (Ft b _ _) (Bj b) (by rw[byteCells_length,jW,Nat.mul_one])
       (by rw[hv,jW];exact Src.ofString w (C8 hT UX) b) (by rw[jW];exact hfit) hk2
     ·exact hk2.elim
    ·exact hk.elim
   ·rename_i oo z dp rows e2 hb L0
    have R4:=(C9 hT L0).1
    split at hk
    ·exact hk.elim
    ·rename_i hsz
     split at hk
     ·split at hk
      ·rename_i z' aQ hr
       split at hk
       ·rename_i ym
        have ym:=eB ym;subst ym;have hk2:(match(cN aQ&&fits (rows.length+aQ.length) (C.tt e).bytes) with|true=>K (pK d ⟨dp,z,rows++aQ⟩ (jr oo st))|false=> .fail:Ev R).holds cf lp Q:=hk;clear hk
        split at hk2
        ·rename_i hfit
         simp only[dg] at hfit;obtain⟨hz,hka,wz,X1,Z1,Ad,c,hB⟩:=yT h Ok hb (M:=if dp then .deep else .snap) (by cases dp<;>simp);obtain⟨tP,p2,He,yj,hsrc⟩:=Lr h PC R4 hr hfit.1 (if dp then .deep else .snap) (jr oo st);exact fin (oo:=oo) he hcs (.inr trivial) hsz hB (fun ad Em=>let ⟨o',q,g,_⟩:=hown hb hB ad Em;⟨o',.inr ⟨⟨q,g⟩,trivial⟩⟩) (hown hb hB) hka p2 He yj hsrc hfit.2 hk2
        ·exact hk2.elim
       ·exact hk.elim
      ·exact hk.elim
     ·split at hk
      ·rename_i z' aQ cF PD
       split at hk
       ·rename_i ym
        have ym:=eB ym;subst ym;have hk2:(match fits (rows.length+aQ.length) (C.tt e).bytes with|true=>K (pK d ⟨dp,z,rows++aQ⟩ cF)|false=> .fail:Ev R).holds cf lp Q:=hk;clear hk
        split at hk2
        ·rename_i hfit
         exact Jx hT h ho hd gz he hcs hb hsz R4 Ok PC PD hfit hk2
        ·exact hk2.elim
       ·exact hk.elim
      split at hk
      ·rename_i z' aQ Wi
       split at hk
       ·rename_i ym
        have ym:=eB ym;subst ym;have hk2:(match fits (rows.length+aQ.length) (C.tt e).bytes with|true=>K (pK d ⟨false,z,rows++aQ⟩ (jr oo st))|false=> .fail:Ev R).holds cf lp Q:=hk;clear hk
        split at hk2
        ·rename_i hfit
         obtain⟨hz,hka,wz,X1,Z1,Ad,c,hB⟩:=yT h Ok hb (M:= .snap) (.inl rfl);obtain⟨tP,p2,He,yj,hsrc⟩:=ON h PC R4 Wi (jr oo st);exact fin (oo:=oo) (dp:=false) he hcs (.inr trivial) hsz ⟨hB.val,hB.parts,hB.width,hB.len,hB.le,hB.max,hB.at'⟩ (fun ad Em=>let ⟨o',q,g,_⟩:=hown hb hB ad Em;⟨o',.inr ⟨⟨q,g⟩,trivial⟩⟩) (hown hb hB) hka p2 He yj hsrc hfit hk2
        ·exact hk2.elim
       ·exact hk.elim
      split at hk
      ·rename_i z' aQ cF d1 hab
       split at hk
       ·rename_i ym
        have ym:=eB ym;subst ym;have hk2:(match fits (rows.length+aQ.length) (C.tt e).bytes with|true=>K (pK d ⟨dp&&d1,z,rows++aQ⟩ cF)|false=> .fail:Ev R).holds cf lp Q:=hk;clear hk
        split at hk2
        ·rename_i hfit
         obtain⟨hz,hka,wz,X1,Z1,Ad,c,hB⟩:=yT h Ok hb (M:=if(dp&&d1) then .deep else .snap) (by cases dp<;>cases d1<;>simp);obtain⟨Hq,tP,X2,Z2,p2,He,yj,hsrc⟩:=OM hka hB.parts.sub PC R4 hab (M:=if(dp&&d1) then .deep else .snap) (by cases dp<;>cases d1<;>simp);exact fin (oo:=oo) (dp:=dp&&d1) he hcs (.inr trivial) hsz ⟨hB.val,hB.parts,hB.width,hB.len,hB.le,hB.max,hB.at'⟩ (fun ad Em=>let ⟨o',q,g,_⟩:=hown hb hB ad Em;⟨o',.inr ⟨⟨q,g⟩,trivial⟩⟩) (hown hb hB) Hq p2 He yj hsrc hfit hk2
        ·exact hk2.elim
       ·exact hk.elim
      ·exact hk.elim
   ·exact hk.elim
  ·exact hk.elim
 ·exact hk.elim
end Go.T
namespace Go.T
variable {F : Nat → Prop} {A : Arg} {w0 w w' : World} {φ φ' φ1 : Fp} {st st' sta cF : TS} {tm xB : Array Value} {C : hD}
variable {R : Type} {cf : Cf} {lp : Lp} {Q : R → Prop}
theorem Bm {P:Program} {e:TypeId} {z:Nat} {i:TypeInfo} (h:P.info? e=some i) (hz:i.size=z) (w:World):(sizeOf e).run P w= .ok z w:=by
 simp[sizeOf,typeInfo,h,hz]
theorem OO {R S:Nat→Prop} {m:Mode} {z:Nat} {rows:List (List TC)} {v:Value} (h:aj w R m S (.sub z rows) v): ∃A c,v= .slice A rows.length c∧(rows≠[]→ ∃ad,A=some ad):=by
 cases h with
 |sub _ _ _ _ A c u T k hn=>exact⟨A,c,rfl,k.addr⟩
def M0 (v:Value):Dh:=⟨.sc v,v,fun _=>False⟩
attribute [local semireducible] jH in
theorem qc (rows aQ:List (List TC)):jH rows aQ=aQ.take rows.length++rows.drop aQ.length:=rfl
theorem OP (hT:dN C) {a:Act} (h:aH F A w0 φ st a.tmps w) {o:Oper} {args:Array Operand} {ts:Array TypeId} (ho:o.op= .call {callee:= .builtin .copy,args,argTypes:=ts}) {K:TS→Ev R} (hd: ∀d,o.dst=some d→d<a.tmps.size) (hk:(jJ C st o K).holds cf lp Q):
 I0 C F A w0 φ st o a w K cf lp Q:=by
 unfold jJ at hk;rw[ho] at hk;simp only at hk
 split at hk
 ·rename_i s x t t' h1 h2
  have e1:args= #[s,x]:=by cases args;simp at h1;subst h1;rfl
  have e2:ts= #[t,t']:=by cases ts;simp at h2;subst h2;rfl
  subst e1 e2;have UU:=cQ hT h t s;have R0:=cQ hT h t' x;unfold PS at hk
  split at hk
  ·rename_i e r cx he hcs UW
   obtain⟨FY,Ok⟩:=p7 UU hcs;obtain⟨_,PC⟩:=p7 R0 UW
   split at hk
   ·rename_i z rows z' aQ hl hr Ho
    split at hk
    ·rename_i ym
     simp only[dg] at ym;have hz1:=eB ym.1;have Wj:=eB ym.2;subst hz1
     have hk2:(match cN aQ with
      |true=>(match o.dst with
       |some d=>K ((nG r ⟨true,z,jH rows aQ⟩ st).set d (one (.sc (.int .i64 (Int.ofNat (rJ aQ.length rows.length))))))
       |none=>K (nG r ⟨true,z,jH rows aQ⟩ st))
      |false=> .fail:Ev R).holds cf lp Q:=hk
     clear hk
     split at hk2
     ·rename_i hsc
      have hin:aA st.ob r:=⟨_,hl⟩;obtain⟨b0,hb0,Qi⟩:=Ok;rw[hl] at hb0
      cases hb0
      have Qi:a.eval s=φ.V r:=Qi;have hO:aj w φ.I .deep (φ.S r) (.sub z rows) (φ.V r):=h.obj r _ hl;obtain⟨Ad,c,ct,op⟩:=hO.opened;obtain⟨rC,_⟩:=lM h PC hr;obtain⟨vs,l1,sE,hz,hcell,K6⟩:=rC.vals;obtain⟨A',c',hxval,Wk⟩:=OO rC;obtain⟨hkn,hnp⟩:=rU Ho;obtain⟨i,zv,g1,g2,_⟩:=(hT e hkn).info
      have isz:i.size=z:=by rw[g2,Wj]
      have hU:=(oD hT he).1
      have lits:ct.length=rows.length*z:=by
       have:=congrArg List.length op.tcs;rw[bS op.width,cm] at this;exact this.symm
      obtain⟨us,N3⟩: ∃us,us=vs.take (rows.length*z):=⟨_,rfl⟩
      have lus:us.length=rJ aQ.length rows.length*z:=by
       rw[N3,eM,l1];rcases Nat.le_total aQ.length rows.length with hle|hle
       ·have:=lJ z hle
        rw[show rJ aQ.length rows.length=aQ.length from Nat.min_eq_left hle];omega
       ·have:=lJ z hle
        rw[show rJ aQ.length rows.length=rows.length from Nat.min_eq_right hle];omega
      have usS: ∀v∈vs,BE v:=fun v hv=>by
       obtain⟨j,hj,rfl⟩:=List.mem_iff_getElem.1 hv;obtain⟨tc,PA⟩: ∃tc,aQ.flatten[j]?=some tc:=⟨_,aX (by rw[bS sE,←l1];exact hj)⟩;obtain⟨T,hT⟩:=K6 j tc _ PA (aX hj);obtain⟨v',rfl⟩:=Di hsc j tc PA
       cases hT with
       |sc _ _ _ hs=>exact hs
      have tcV:aQ.flatten=vs.map .sc:=by
       apply List.ext_getElem
       ·rw[bS sE,cm,l1]
       ·intro j h1 h2
        rw[List.getElem_map];have PA:aQ.flatten[j]?=some aQ.flatten[j]:=aX h1
        have hj':j<vs.length:=by rw[cm] at h2;exact h2
        have hvs:vs[j]?=some vs[j]:=aX hj';obtain⟨T,hT⟩:=K6 j _ _ PA hvs;obtain⟨v',J5⟩:=Di hsc j _ PA;rw[J5] at hT ⊢
        cases hT with
        |sc _ _ _ hs=>rfl
      have one1: ∀v∈us,v.oneCell'=true:=fun v hv=>by
       have:=usS v (by rw[N3] at hv;exact rI hv)
       cases v<;>first|rfl|cases this
      have N6: ∀W:World,(∀x,W.cell? x=w.cell? x)→(Builtin.firstCells z (rJ aQ.length rows.length) (.slice A' aQ.length c')).run C.P W= .ok us.toArray W:=fun W hW=>by
       by_cases hne:aQ=[]
       ·have h0:us=[]:=w5 (by rw[lus,hne];simp)
        subst h0;subst hne
        cases A' with
        |none=>simp[Builtin.firstCells]
        |some ad=>exact run_firstCells_some W z _ ad _ c' [] dI (fun j v hj=>by simp at hj)
       ·obtain⟨ad,rfl⟩:=Wk hne
        refine run_firstCells_some W z _ ad _ c' us lus fun j v hj=> ?_;rw[hW];refine hcell ad _ _ hxval j v ?_;rw[N3,Be] at hj
        split at hj
        ·exact hj
        ·cases hj
      have PE:(jH rows aQ).length=rows.length:=by
       rw[qc,cW,eM,iF];omega
      have fin: ∀w',(Builtin.copy_ #[t,t'] o.type #[a.eval s,a.eval x]).run C.P w= .ok (goInt (rJ aQ.length rows.length)) w'→aH F A w0 (φ.add r (φ.S r) (φ.V r)) (nG r ⟨true,z,jH rows aQ⟩ st) a.tmps w'→w.heap.size≤w'.heap.size→(∀k,k<w.heap.size→ ¬φ.S r k→w'.heap[k]?=w.heap[k]?)→I0 C F A w0 φ st o a w K cf lp Q:=fun w' hrun pG hsz hfr=>by
       have run:(execOp a.eval o).run C.P w= .ok (.value (goInt (rJ aQ.length rows.length))) w':=by
        rw[nt ho];simp only[builtin,Sem.run_bind]
        have:(#[s,x].map a.eval)= #[a.eval s,a.eval x]:=by simp
        rw[this,hrun]
        rfl
       have wr: ∀k,k<w.heap.size→ ¬Wr st φ (writes C st o) k→w'.heap[k]?=w.heap[k]?:=fun k hk hn=>hfr k hk fun hS=>hn (.inr ⟨r,by
        unfold writes;rw[ho];simp only;refine List.mem_map.2 ⟨r,?_,rfl⟩
        revert hcs
        cases lW C st t s with
        |v tup es=>
         unfold pJ
         split
         ·rename_i e0 e1
          intro g1
          cases g1
          simp only[TE.v.injEq] at e1;obtain⟨rfl,rfl⟩:=e1;exact .head _
         ·intro g1;cases g1
         ·intro g1;cases g1
        |_=>intro g1;simp[pJ] at g1,hin,hS⟩)
       cases gz:o.dst with
       |none=>
        rw[gz] at hk2;exact⟨_,goInt (rJ aQ.length rows.length),w',_,run,.inl rfl,by rw[gz];exact⟨_,pG⟩,hk2,hsz,wr⟩
       |some d=>
        rw[gz] at hk2;refine⟨_,goInt (rJ aQ.length rows.length),w',_,run,.inl rfl,?_,hk2,hsz,wr⟩;rw[gz];exact⟨_,pG.Eu (v:=goInt (rJ aQ.length rows.length)) (hd d gz) ⟨_,rfl,_,rfl,rfl,rfl,trivial⟩⟩
      have hX:=fun k hk=>h.sep.fresh r k hin hk
      cases Em:Ad with
      |none=>
       have hc0:=op.none Em;have hle:=op.le;have Ru:rows=[]:=w5 az
       have I1:jH rows aQ=rows:=by rw[qc,Ru];simp
       refine fin w ?_ ?_ (cq _) fun _ _ _=>rfl
       ·rw[Qi,op.val,Em,hxval]
        simp only[Builtin.copy_,Builtin.lenOf];simp[run_underlying hU,Bm g1 isz,N6 w fun _=>rfl]
       ·refine h.nG hl rfl PE ?_ h.frm (cq _) (fun _ _ _=>rfl) hX (fun k hk=>h.sep.read r k hin hk) (fun k d hk hne hd hs=>hne (h.sep.apart d r k hd hin hs hk)) (fun b cs Bc hw hk=>(h.sep.box b cs Bc hw).2.1 r hin hk)
        show aj w φ.I .deep (φ.S r) (.sub z (jH rows aQ)) (φ.V r);rw[I1];exact hO
      |some ad=>
       obtain⟨S7,hsp,⟨sp,Hq,S8⟩,hfz,Vz⟩:=op.row ad Em;obtain⟨b,off,spot⟩:=ad
       cases hsp
       simp only at Hq S8 hfz Vz S7;have hle:=op.le;have elc:=lJ z hle
       have lmin:us.length≤rows.length*z:=by rw[lus];exact lJ z (Nat.min_le_right _ _)
       have lL:(ct.map (·.val)++sp).length=c*z:=S8;have hst:=run_storeCells_cells (P:=C.P) b off us 0 w (fun j hj=>by rw[mF,Hq j _ (aX az)];rfl) (fun j hj=>by rw[mF];exact hfz j az) one1;rw[mF] at hst;have r2:=Hq.put (p:=0) (us:=us) az;rw[mF,List.take_zero,pP,ia] at r2
       have hnew:xM (w.setCells b off us) (φ.S r) z (jH rows aQ) (φ.V r) Ad c (us.map M0++ct.drop (aQ.length*z)):=by
        have Qm:(us.map M0++ct.drop (aQ.length*z)).map (·.val)=us++(ct.map (·.val)).drop (aQ.length*z):=by
         rw[vg,List.map_map,CO]
         congr 1
         have:((fun t:Dh=>t.val)∘M0)=id:=rfl;rw[this,List.map_id]
        have IX:(ct.map (·.val)++sp).drop us.length=(ct.map (·.val)).drop (aQ.length*z)++sp:=by
         rcases Nat.le_total aQ.length rows.length with hq|hq
         ·have:=lJ z hq
          rw[lus,show rJ aQ.length rows.length=aQ.length from Nat.min_eq_left hq,List.drop_append_of_le_length (by rw[cm];omega)]
         ·have:=lJ z hq
          rw[lus,show rJ aQ.length rows.length=rows.length from Nat.min_eq_right hq,List.drop_append_of_le_length (by rw[cm];omega),yq (by rw[cm];omega),yq (by rw[cm];omega)]
        refine⟨by rw[PE];exact op.val,by rw[PE];exact op.le,op.cap,op.z0,fun q hq=> ?_,?_,fun t ht=> ?_,?_,fun t ht k hk=> ?_,op.none,fun ad e=> ?_⟩
        ·rw[qc] at hq
         rcases List.mem_append.1 hq with hq|hq
         ·exact sE q (rI hq)
         ·exact op.width q (vh hq)
        ·rw[qc,J9,sS sE,sU op.width,op.tcs,tcV,←Hs,←N3,vg,List.map_map,CO]
         rfl
        ·rcases List.mem_append.1 ht with ht|ht
         ·obtain⟨v,hv,rfl⟩:=List.mem_map.1 ht
          exact .sc _ _ _ (usS v (by rw[N3] at hv;exact rI hv))
         ·have hm:=vh ht
          refine(op.ok t hm).move (fun k hk=>hk.elim) fun _ k hk=> ?_;have hs:=op.sub t hm k hk;exact dx _ _ _ _ (hX k hs.1).1 (hs.2 _ Em)
        ·refine List.pairwise_append.2 ⟨?_,(op.kE.sublist (List.drop_sublist _ _)),fun x hx y hy k hk=> ?_⟩
         ·rw[List.pairwise_map]
          exact List.pairwise_of_forall fun _ _ k hk=>hk.elim
         ·obtain⟨v,hv,rfl⟩:=List.mem_map.1 hx
          exact hk.elim
        ·rcases List.mem_append.1 ht with ht|ht
         ·obtain⟨v,hv,rfl⟩:=List.mem_map.1 ht
          exact hk.elim
         ·exact op.sub t (vh ht) k hk
        ·rw[Em] at e
         cases e
         refine⟨S7,rfl,⟨sp,?_,?_⟩,fun j hj=> ?_,fun hz1 j=> ?_⟩
         ·rw[Qm,tT,←IX];exact r2
         ·rw[Qm,tT,←IX,cW,iF];omega
         ·rw[show(w.setCells b off us).frozen? ⟨b,off+j,none⟩=w.frozen? ⟨b,off+j,none⟩ from World.frozen?_setCells b us off w _];exact hfz j hj
         ·rw[show(w.setCells b off us).frozen? ⟨b,j,none⟩=w.frozen? ⟨b,j,none⟩ from World.frozen?_setCells b us off w _];exact Vz hz1 j
       have hsz:=(iH b us off w).2.2.2;refine fin (w.setCells b off us) ?_ ?_ (by rw[hsz];exact cq _) fun k hk hn=>dx _ _ _ _ hk fun e=>hn (by rw[e];exact S7)
       ·rw[Qi,op.val,Em,hxval]
        simp only[Builtin.copy_,Builtin.lenOf];simp[run_underlying hU,Bm g1 isz,N6 w fun _=>rfl,hst]
       ·refine h.nG hl rfl PE hnew.rep (h.frm.setCells (hX b S7).2) (by rw[hsz];exact cq _) (fun k hk hn=>dx _ _ _ _ hk fun e=>hn (by rw[e];exact S7)) (fun k hk=>by rw[hsz];exact hX k hk) (fun k hk=>h.sep.read r k hin hk) (fun k d hk hne hd hs=>hne (h.sep.apart d r k hd hin hs hk)) (fun b' cs Bc hw hk=>(h.sep.box b' cs Bc hw).2.1 r hin hk)
     ·exact hk2.elim
    ·exact hk.elim
   ·exact hk.elim
  ·exact hk.elim
 ·exact hk.elim
end Go.T
