import Derived.Test.YtlkjkfidmkdchaaGreatT2
import Derived.Deep.AppendSrc
import Derived.Deep.MidRow
import Derived.Deep.Upon
import Derived.Laws.MakeOwn
import Derived.Laws.IdiomStrings
import Derived.Laws.IdiomCopy
set_option linter.all false
namespace Go.T
variable {F : Nat → Prop} {A : Arg} {w0 w w' : World} {φ φ' : Fp} {st st' eM qf : TS} {tm IF : Array Value} {C : mG}
theorem uh: ∀(W:List (Nat×OB)) (ob:List (Nat×OB)) (d:Nat),an d (mh W ob)=match an d W with|some b=>some b|none=>an d ob
 |[],ob,d=>rfl
 |(i,b)::r,ob,d=>by
  simp only[mh,gf,an,uh r ob d]
  by_cases h:d=i
  ·subst h;simp
  ·rw[aJ h,beq_false (Ne.symm h)]
theorem VE {α:Type}: ∀{W:List (Nat×α)} {d:Nat},d∈u7 W↔ ∃b,an d W=some b
 |[],d=>by simp[u7,an]
 |(i,b)::r,d=>by
  simp only[u7,dJ,VE (W:=r),an]
  by_cases h:d=i
  ·subst h;simp
  ·rw[beq_false (Ne.symm h)];simp[h]
theorem LQ {α:Type} {W:List (Nat×α)} {d:Nat} (h:d∉u7 W):an d W=none:=by
 cases hd:an d W with
 |none=>rfl
 |some b=>exact absurd (VE.2 ⟨b,hd⟩) h
theorem IS {a l:List Nat} (h:w9 a l=true): ∃x,x∈a∧x∈l:=by
 induction a with
 |nil=>cases h
 |cons y r ih=>
  simp only[w9] at h
  cases h1:m8 y l with
  |true=>exact⟨y,.head _,mj.1 h1⟩
  |false=>rw[h1] at h;obtain⟨x,a,b⟩:=ih h;exact⟨x,.tail _ a,b⟩
def Fp.wr (φ:Fp) (W:List (Nat×OB)) (X:Nat→Nat→Prop) (Z:Nat→Prop):Fp:=
 {φ with I:=fun k=>φ.I k∨Z k,S:=fun d k=>match an d W with|some _=>X d k|none=>φ.S d k}
theorem TN {W:List (Nat×OB)} {X:Nat→Nat→Prop} {Z:Nat→Prop} {d k:Nat} (h:an d W=none):(φ.wr W X Z).S d k=φ.S d k:=by
 unfold Fp.wr;simp only[h]
theorem YP {W:List (Nat×OB)} {X:Nat→Nat→Prop} {Z:Nat→Prop} {d k:Nat} {b:OB} (h:an d W=some b):(φ.wr W X Z).S d k=X d k:=by
 unfold Fp.wr;simp only[h]
theorem bw.wrote (h:bw F A w0 φ st tm w) (W:List (Nat×OB)) (X:Nat→Nat→Prop) (Z G:Nat→Prop)
 (hf:J2 F w0 w') (hsz:w.heap.size≤w'.heap.size) (hw: ∀k,k<w.heap.size→ ¬G k→w'.heap[k]?=w.heap[k]?)
 (gF: ∀k,G k→w0.heap.size≤k∨F k) (gI: ∀k,G k→ ¬φ.I k) (gS: ∀k o,G k→aT st.ob o→an o W=none→ ¬φ.S o k) (gB: ∀b cs,an b st.bx=some cs→ ¬G (φ.β b).block)
 (hW: ∀o b',an o W=some b'→ ∃b,an o st.ob=some b∧b'.z=b.z∧b'.rows.length=b.rows.length∧av w' (fun k=>φ.I k∨Z k) b'.m (X o) (.sub b'.z b'.rows) (φ.V o)∧
   ∀k,X o k→k<w'.heap.size∧(w0.heap.size≤k∨F k)∧ ¬φ.I k∧ ¬Z k∧(∀d,aT st.ob d→an d W=none→ ¬φ.S d k)∧(∀d b,an d W=some b→X d k→d=o)∧ ∀b cs,an b st.bx=some cs→Bl b=true→(φ.β b).block≠k)
 (hZ: ∀k,Z k→k<w'.heap.size∧(w0.heap.size≤k∨F k∨A.sh k)∧(∀d,aT st.ob d→an d W=none→ ¬φ.S d k)∧ ∀b cs,an b st.bx=some cs→Bl b=true→(φ.β b).block≠k):
 bw F A w0 (φ.wr W X Z) (wJ W st) tm w':=by
 have q9: ∀d,aT (mh W st.ob) d↔aT st.ob d:=fun d=>by
  unfold aT;rw[uh]
  cases hd:an d W with
  |none=>rfl
  |some b=>obtain⟨b0,h0,_⟩:=hW d b hd;exact⟨fun _=>⟨b0,h0⟩,fun _=>⟨b,rfl⟩⟩
 have gA: ∀k,G k→ ¬A.all k:=fun k hg ha=>by
  have:=h.sep.oY k ha;rcases gF k hg with h3|h3
  ·omega
  ·exact this.2 h3
 have stI: ∀k,φ.I k→w'.heap[k]?=w.heap[k]?:=fun k hk=>hw k (h.sep.ro k hk).1 fun hg=>gI k hg hk
 have stS: ∀d k,an d W=none→d=0∨aT st.ob d→φ.S d k→w'.heap[k]?=w.heap[k]?:=fun d k hn hd hk=>hw k (h.sep.lt h.frm.size hd hk) fun hg=>by
  rcases hd with rfl|hd
  ·rw[h.sep.arg] at hk;exact gA k hg hk
  ·exact gS k d hg hd hn hk
 have w0n:an 0 W=none:=by
  cases h0:an 0 W with
  |none=>rfl
  |some b=>obtain⟨b0,h1,_⟩:=hW 0 b h0;exact absurd rfl (h.sep.nz 0 ⟨b0,h1⟩)
 have stR: ∀ds k,(∀d∈ds,an d W=none)→(∀d∈ds,d=0∨aT st.ob d)→rd φ ds k→rd (φ.wr W X Z) ds k∧w'.heap[k]?=w.heap[k]?:=fun ds k hn hd hk=>by
  rcases hk with hk|⟨d,hm,hk⟩
  ·exact⟨.inl (.inl hk),stI k hk⟩
  ·exact⟨.inr ⟨d,hm,by rw[TN (hn d hm)];exact hk⟩,stS d k (hn d hm) (hd d hm) hk⟩
 have stV: ∀p b1 ad n c i f tc u,an p W=none→an p st.ob=some b1→φ.V p= .slice (some ad) n c→zQ b1.rows i f=some tc→w.cell? (ad.add (i*b1.z+f))=some u→w'.cell? (ad.add (i*b1.z+f))=some u:=by
  intro p b1 ad n c i f tc u hne hp hv ht hcell;have hO:=h.obj p b1 hp;unfold o7 at hO;rw[hv] at hO
  have hS:φ.S p ad.block:=by
   cases hO with
   |sub _ _ _ _ _ _ u T k hn=>exact(k.own (by unfold OB.m;split<;>simp)).2 ad rfl|>.1
  rw[gT (w:=w)]
  ·exact hcell
  ·rw[cR];exact stS p _ hne (.inr ⟨b1,hp⟩) hS
 have cbox: ∀p cs,an p st.bx=some cs→w'.heap[(φ.β p).block]?=w.heap[(φ.β p).block]?:=fun p cs hp=>hw _ (h.sep.spot p cs hp).2.1 (gB p cs hp)
 have look1: ∀{d b},an d st.ob=some b→ ∃b',an d (mh W st.ob)=some b'∧b'.z=b.z∧b'.rows.length=b.rows.length∧(an d W=none→b'=b):=fun {d b} hb=>by
  rw[uh]
  cases hd:an d W with
  |none=>exact⟨b,hb,rfl,rfl,fun _=>rfl⟩
  |some b'=>
   obtain⟨b0,h0,h1,h2,_⟩:=hW d b' hd;rw[hb] at h0;cases h0;exact⟨b',rfl,h1,h2,fun e=>by cases e⟩
 have obj: ∀o b,an o (mh W st.ob)=some b→o7 w' (φ.wr W X Z) o b:=fun o b ho=>by
  rw[uh] at ho;unfold o7
  cases hd:an o W with
  |none=>
   rw[hd] at ho;refine(av.mono ((h.obj o b ho).move (fun k hk=>⟨.inl hk,stI k hk⟩) fun _ k hk=>stS o k hd (.inr ⟨b,ho⟩) hk) fun k hk=> ?_);rw[TN hd];exact hk
  |some b'=>
   rw[hd] at ho
   cases ho
   obtain⟨b0,h0,h1,h2,h3,_⟩:=hW o _ hd;refine av.mono h3 fun k hk=> ?_;rw[YP hd];exact hk
 have hce: ∀e v,ek st.ob w φ e v→ek (mh W st.ob) w' (φ.wr W X Z) (G9 (u7 W) e) v:=fun e v he=>by
  cases e with
  |ref p cut=>
   obtain⟨b1,h1,h2⟩:=he;obtain⟨b',g1,g2,g3,_⟩:=look1 h1;refine⟨b',g1,?_⟩
   cases cut with
   |none=>exact h2
   |some q=>obtain⟨l,r⟩:=q;simp only at h2 ⊢;rw[g2,g3];exact h2
  |snap ds loc z rows=>
   simp only[G9]
   cases hd:w9 ds (u7 W) with
   |true=>trivial
   |false=>
    have hn: ∀d∈ds,an d W=none:=fun d hm=>LQ (tw hd hm);obtain⟨h1,h2,h3⟩:=he;refine⟨fun d hm=>(h1 d hm).imp id (q9 d).2,h2.move (fun k hk=>stR ds k hn h1 hk) (fun hm=>absurd rfl hm),fun p i f hl=> ?_⟩;obtain⟨a1,b1,a2,a3,a4,ad,n,c,a5,a6⟩:=h3 p i f hl;obtain⟨b',g1,_,_,g4⟩:=look1 a2;have:=g4 (hn p a1);subst this;exact⟨a1,_,g1,a3,a4,ad,n,c,a5,stV p _ ad n c _ _ _ _ (hn p a1) a2 a5 a4 a6⟩
  |_=>exact he
 have Nx: ∀e v,(∀t es,e≠ .v t es)→dx st.ob w φ e v→dx (mh W st.ob) w' (φ.wr W X Z) (Cx (u7 W) e) v:=fun e v hv he=>by
  cases e with
  |v t es=>exact absurd rfl (hv t es)
  |ep ds cells=>
   simp only[Cx]
   cases hd:w9 ds (u7 W) with
   |true=>trivial
   |false=>
    have hn: ∀d∈ds,an d W=none:=fun d hm=>LQ (tw hd hm);obtain⟨h1,ad,h2,hr,h3⟩:=he;refine⟨fun d hm=>(h1 d hm).imp id (q9 d).2,ad,h2,fun hc=>(stR ds _ hn h1 (hr hc)).1,fun j tc hj=> ?_⟩;obtain⟨u,h4,h5⟩:=h3 j tc hj
    have hc:cells≠[]:=fun e=>by rw[e] at hj;simp at hj
    exact⟨u,by rw[gT (w:=w) (by rw[cR];exact(stR ds _ hn h1 (hr hc)).2)];exact h4,h5.move (fun k hk=>stR ds k hn h1 hk) (fun hm=>absurd rfl hm)⟩
  |er p path i f=>
   obtain⟨b1,h1,h2,ad,n,c,h3,h4⟩:=he;obtain⟨b',g1,g2,g3,g4⟩:=look1 h1
   cases path with
   |none=>exact⟨b',g1,h2,ad,n,c,h3,by simp only at h4 ⊢;rw[g2];exact h4⟩
   |some q=>
    obtain⟨i0,f0⟩:=q;simp only[Cx]
    cases hd:m8 p (u7 W) with
    |true=>trivial
    |false=>
     have hn:=LQ (fk.1 hd);have:=g4 hn;subst this;obtain⟨a1,z1,r5,a2,ad1,n1,c1,a3,a4⟩:=h4;exact⟨_,g1,h2,ad,n,c,h3,a1,z1,r5,a2,ad1,n1,c1,stV p _ ad n c _ _ _ _ hn h1 h3 a2 a3,a4⟩
  |_=>exact he
 have hsep: ∀bx',(∀b cs',an b bx'=some cs'→ ∃cs,an b st.bx=some cs∧cs'.length=cs.length)→Sep F A w0 w' (φ.wr W X Z) bx' (mh W st.ob):=fun bx' Ny=>by
  have hs:=h.sep.boxes Ny
  exact {
   arg:=by
    funext k
    rw[TN w0n,h.sep.arg]
   nz:=fun d hd=>h.sep.nz d ((q9 d).1 hd)
   apart:=fun d d' k h1 h2 h3 h4=>by
    have i1:=(q9 d).1 h1;have i2:=(q9 d').1 h2
    cases e1:an d W with
    |some b=>
     rw[YP e1] at h3;obtain⟨_,_,_,_,_,hx⟩:=hW d b e1;obtain⟨_,_,_,_,x5,x6,_⟩:=hx k h3
     cases e2:an d' W with
     |some b'=>rw[YP e2] at h4;exact(x6 d' b' e2 h4).symm
     |none=>rw[TN e2] at h4;exact absurd h4 (x5 d' i2 e2)
    |none=>
     rw[TN e1] at h3
     cases e2:an d' W with
     |some b'=>
      rw[YP e2] at h4;obtain⟨_,_,_,_,_,hx⟩:=hW d' b' e2;exact absurd h3 ((hx k h4).2.2.2.2.1 d i1 e1)
     |none=>rw[TN e2] at h4;exact h.sep.apart d d' k i1 i2 h3 h4
   read:=fun d k hd hk=>by
    have hd:=(q9 d).1 hd
    cases e1:an d W with
    |some b=>
     rw[YP e1] at hk;obtain⟨_,_,_,_,_,hx⟩:=hW d b e1;obtain⟨_,_,x3,x4,_⟩:=hx k hk;exact fun hi=>hi.elim x3 x4
    |none=>
     rw[TN e1] at hk;exact fun hi=>hi.elim (h.sep.read d k hd hk) fun hz=>(hZ k hz).2.2.1 d hd e1 hk
   fresh:=fun d k hd hk=>by
    have hd:=(q9 d).1 hd
    cases e1:an d W with
    |some b=>
     rw[YP e1] at hk;obtain⟨_,_,_,_,_,hx⟩:=hW d b e1;exact⟨(hx k hk).1,(hx k hk).2.1⟩
    |none=>
     rw[TN e1] at hk;exact⟨kE (h.sep.fresh d k hd hk).1 hsz,(h.sep.fresh d k hd hk).2⟩
   ro:=fun k hk=>hk.elim (fun hk=>⟨kE (h.sep.ro k hk).1 hsz,(h.sep.ro k hk).2⟩) fun hz=>⟨(hZ k hz).1,(hZ k hz).2.1⟩
   oY:=h.sep.oY
   box:=fun p cs hp HW=>by
    obtain⟨cs0,c1,_⟩:=Ny p cs hp;obtain⟨a1,a2,a3,a4⟩:=hs.box p cs hp HW;refine⟨fun hi=>hi.elim a1 fun hz=>(hZ _ hz).2.2.2 p cs0 c1 HW rfl,fun d hd hk=> ?_,a3,a4⟩;have hd:=(q9 d).1 hd
    cases e1:an d W with
    |some b=>
     rw[YP e1] at hk;obtain⟨_,_,_,_,_,hx⟩:=hW d b e1;exact(hx _ hk).2.2.2.2.2.2 p cs0 c1 HW rfl
    |none=>rw[TN e1] at hk;exact a2 d hd hk
   spot:=fun p cs hp=>⟨(hs.spot p cs hp).1,kE (hs.spot p cs hp).2.1 hsz,(hs.spot p cs hp).2.2⟩
   soft:=fun p cs j hp HW hj=>by
    obtain⟨cs0,c1,c2⟩:=Ny p cs hp;rw[nc (w:=w) (by rw[cR];exact cbox p cs0 c1)]
    exact h.sep.soft p cs0 j c1 HW au}
 have Ny: ∀b cs,an b st.bx=some cs→ ∀j,j<cs.length→w'.cell? ((φ.β b).add j)=w.cell? ((φ.β b).add j):=fun p cs hp j _=>gT (by rw[cR];exact cbox p cs hp)
 cases W with
 |nil=>
  have:=h.IN (f:=id) (g:=id) (k:=id) (φ':=φ.wr [] X Z) rfl rfl (fun e v he=> ?_) (fun e v hv he=> ?_) Ny obj (by rw[LN];exact hsep st.bx fun b cs hb=>⟨cs,hb,rfl⟩) hf
  ·rw[yo] at this;exact this
  ·have:=hce e v he
   have e1:G9 (u7 ([]:List (Nat×OB))) e=e:=by
    cases e with
    |snap ds l z rows=>simp only[G9];cases hd:w9 ds (u7 ([]:List (Nat×OB))) with
     |true=>obtain⟨x,_,hx⟩:=IS hd;cases hx
     |false=>rfl
    |_=>rfl
   rw[e1] at this;exact this
  ·have:=Nx e v hv he
   have e1:Cx (u7 ([]:List (Nat×OB))) e=e:=by
    cases e with
    |ep ds cells=>simp only[Cx];cases hd:w9 ds (u7 ([]:List (Nat×OB))) with
     |true=>obtain⟨x,_,hx⟩:=IS hd;cases hx
     |false=>rfl
    |er p path i f=>cases path<;>rfl
    |_=>rfl
   rw[e1] at this;exact this
 |cons a r=>exact h.IN (f:=G9 (u7 (a::r))) (g:=Cx (u7 (a::r))) (k:=mh (a::r)) rfl rfl hce Nx Ny obj (hsep _ (iX _)) hf
end Go.T
namespace Go.T
variable {F : Nat → Prop} {A : Arg} {w0 w w' : World} {φ φ' : Fp} {st st' eM qf : TS} {tm IF : Array Value} {C : mG}
variable {R : Type} {cf : Cf} {lp : Lp} {Q : R → Prop}
theorem adh {ob:List (Nat×OB)} {e:CE} {v:Value} (h:ek ob w φ e v) (hg:e≠ .gone) (hb: ∀o b,an o ob=some b→o7 w φ o b):v.oneCell'=true:=by
 cases e with
 |sc x=>obtain⟨rfl,h⟩:=h;cases v<;>first|rfl|cases h
 |nil z=>obtain⟨rfl,_⟩:=h;rfl
 |ref o cut=>
  obtain⟨b,h1,h2⟩:=h;have:=o7.cut (hb o b h1) h2
  cases this;rfl
 |snap ds l z rows=>have:=h.2.1;cases this;rfl
 |gone=>exact absurd rfl hg
theorem sM {Rd S:Nat→Prop} {m:Mode} {c:TC} {v:Value} (h:av w Rd m S c v):v.oneCell'=true:=by
 cases h with
 |any _ _ _ h=>exact h.1
 |sc _ _ _ h=>cases v<;>first|rfl|cases h
 |sub=>rfl
theorem ni (b:Nat): ∀(vs:List Value) (o:Nat) (w:World),(w.setCells b o vs).os=w.os∧(w.setCells b o vs).tape=w.tape∧(w.setCells b o vs).output=w.output∧(w.setCells b o vs).heap.size=w.heap.size
 |[],_,_=>⟨rfl,rfl,rfl,rfl⟩
 |v::r,o,w=>by
  obtain⟨h1,h2,h3,h4⟩:=ni b r (o+1) (w.setCell ⟨b,o,none⟩ v);refine⟨h1,h2,h3,?_⟩;rw[World.setCells,h4];simp[World.setCell]
theorem gV (b o:Nat) (vs:List Value) (w:World) {k:Nat} (hk:k<w.heap.size) (hne:k≠b):(w.setCells b o vs).heap[k]?=w.heap[k]?:=World.heap_setCells_other w b o vs hk hne
theorem J2.setCells {b o:Nat} {vs:List Value} (h:J2 F w0 w) (hb:w0.heap.size≤b∨F b):J2 F w0 (w.setCells b o vs):=by
 obtain⟨h1,h2,h3,h4⟩:=ni b vs o w;refine⟨h1.trans h.os,h2.trans h.tape,h3.trans h.output,by rw[h4];exact h.size,fun k hk hF=> ?_⟩;rw[gV b o vs w (kE hk h.size) (fun e=>by subst e;rcases hb with hb|hb;omega;exact hF hb)];exact h.block k hk hF
def fy (M:Mode):List TC→List Value→List It
 |c::cs,v::vs=>(M,c,v)::fy M cs vs
 |_,_=>[]
theorem oN {M:Mode}: ∀{cs:List TC} {vs:List Value} {i:Nat} {it:It},(fy M cs vs)[i]?=some it→ ∃c v,cs[i]?=some c∧vs[i]?=some v∧it=(M,c,v)
 |[],_,_,_,h=>by simp[fy] at h
 |_::_,[],_,_,h=>by simp[fy] at h
 |c::cs,v::vs,0,it,h=>by simp only[fy,fu,bq] at h;exact⟨c,v,rfl,rfl,h.symm⟩
 |c::cs,v::vs,i+1,it,h=>by
  simp only[fy,tU] at h;obtain⟨c',v',h1,h2,h3⟩:=oN h;exact⟨c',v',by simpa using h1,by simpa using h2,h3⟩
theorem pN {M:Mode}: ∀{cs:List TC} {vs:List Value} {i:Nat} {c:TC} {v:Value},cs[i]?=some c→vs[i]?=some v→(fy M cs vs)[i]?=some (M,c,v)
 |[],_,_,_,_,h,_=>by simp at h
 |_::_,[],_,_,_,_,h=>by simp at h
 |c0::cs,v0::vs,0,c,v,h1,h2=>by
  simp only[fu,bq] at h1 h2;subst h1 h2
  rfl
 |c0::cs,v0::vs,i+1,c,v,h1,h2=>by
  simp only[fy,tU] at h1 h2 ⊢;exact pN h1 h2
theorem j9 {M:Mode}: ∀{cs:List TC} {vs:List Value},cs.length=vs.length→(fy M cs vs).length=cs.length
 |[],[],_=>rfl
 |[],_::_,h=>by cases h
 |_::_,[],h=>by cases h
 |c::cs,v::vs,h=>by simp only[fy,gG];rw[j9 (cs:=cs) (vs:=vs) (by simpa using h)]
theorem A5 {M:Mode}: ∀{cs cs':List TC} {vs vs':List Value},cs.length=vs.length→fy M (cs++cs') (vs++vs')=fy M cs vs++fy M cs' vs'
 |[],_,[],_,_=>rfl
 |[],_,_::_,_,h=>by cases h
 |_::_,_,[],_,h=>by cases h
 |c::cs,cs',v::vs,vs',h=>by
  simp only[FG,fy];rw[A5 (cs:=cs) (vs:=vs) (by simpa using h)]
structure nP (w:World) (φ:Fp) (st st':TS) (dV:List It) (X:Nat→Nat→Prop) (Z:Nat→Prop):Prop where
 ok: ∀(i:Nat) (it:It),dV[i]?=some it→av w (fun k=>φ.I k∨Z k) it.1 (X i) it.2.1 it.2.2
 src: ∀(i k:Nat),i<dV.length→X i k→ ¬Z k∧ ∃o,aT st.ob o∧ ¬aT st'.ob o∧φ.S o k
 srcZ: ∀k,Z k→ ∃o,aT st.ob o∧ ¬aT st'.ob o∧φ.S o k
 apart: ∀(i j k:Nat),i<dV.length→j<dV.length→X i k→X j k→i=j
 sub:fD st' st
theorem nP.nil (st:TS):nP w φ st st [] (fun _ _=>False) (fun _=>False):=⟨fun i it h=>by simp at h,fun i k h=>by simp at h,fun k h=>h.elim,fun i j k h=>by simp at h,fD.refl _⟩
theorem nh.parts (h:bw F A w0 φ st tm w) {dV:List It} {os:List Nat} (t:nh w φ st st' dV os): ∃X Z,nP w φ st st' dV X Z:=by
 obtain⟨I,X,hb,hn⟩:=t.ae6 h
 have dom: ∀i it o,dV[i]?=some it→os[i]?=some o→o≠0→aT st.ob o∧ ¬aT st'.ob o:=fun i it o hi ho h0=>by
  rcases t.at' i it o hi ho with⟨e,_⟩|⟨hd,hd',_⟩
  ·exact absurd e h0
  ·exact⟨hd,hd'⟩
 have own_S: ∀{m v S k},Q7 m v S k→S k:=fun {m v S k} hk=>by
  cases m with
  |snap=>exact hk.elim
  |top=>exact hk.1
  |deep=>exact hk
 refine⟨fun i k=> ∃(it:It) (o:Nat),dV[i]?=some it∧os[i]?=some o∧o≠0∧Q7 it.1 it.2.2 (φ.S o) k,
  fun k=> ∃(i:Nat) (it:It) (o:Nat),dV[i]?=some it∧os[i]?=some o∧o≠0∧φ.S o k∧ ¬Q7 it.1 it.2.2 (φ.S o) k,⟨fun i it hi=> ?_,fun i k hi hk=> ?_,fun k hk=> ?_,fun i j k hi hj hk hk'=> ?_,t.sub⟩⟩
 ·obtain⟨o,ho⟩: ∃o,os[i]?=some o:=⟨_,bC (by rw[t.len];exact(List.getElem?_eq_some_iff.1 hi).1)⟩
  rcases t.at' i it o hi ho with⟨e,hc⟩|⟨hd,hn,m',hm,hdm,hc⟩
  ·exact(hc.qm fun k hk=> .inl hk).mono fun k hk=>hk.elim
  ·have h0:=h.sep.nz o hd
   exact(hc.out hm hdm (fun k hk=> .inl hk) fun k hk hno=> .inr ⟨i,it,o,hi,ho,h0,hk,hno⟩).mono fun k hk=>⟨it,o,hi,ho,h0,hk⟩
 ·obtain⟨it,o,h1,h2,h0,hk⟩:=hk
  obtain⟨hd,hd'⟩:=dom i it o h1 h2 h0;refine⟨?_,o,hd,hd',own_S hk⟩;rintro⟨i',it',o',g1,g2,g0,g3,g4⟩;have:=h.sep.apart o o' k hd (dom i' it' o' g1 g2 g0).1 (own_S hk) g3;subst this;have:=t.inj i i' o h2 g2 h0;subst this;rw[h1] at g1
  cases g1
  exact g4 hk
 ·obtain⟨i,it,o,h1,h2,h0,hk,_⟩:=hk
  obtain⟨hd,hd'⟩:=dom i it o h1 h2 h0;exact⟨o,hd,hd',hk⟩
 ·obtain⟨it,o,h1,h2,h0,hk⟩:=hk
  obtain⟨it',o',g1,g2,g0,hk'⟩:=hk';have:=h.sep.apart o o' k (dom i it o h1 h2 h0).1 (dom j it' o' g1 g2 g0).1 (own_S hk) (own_S hk');subst this;exact t.inj i j o h2 g2 h0
theorem nP.app (h:bw F A w0 φ st tm w) {a b:List It} {Xa Xb:Nat→Nat→Prop} {Za Zb:Nat→Prop} (p:nP w φ st eM a Xa Za) (q:nP w φ eM qf b Xb Zb):
 nP w φ st qf (a++b) (fun i k=>if i<a.length then Xa i k else Xb (i-a.length) k) (fun k=>Za k∨Zb k):=by
 have cross: ∀k,(∃o,aT st.ob o∧ ¬aT eM.ob o∧φ.S o k)→(∃o,aT eM.ob o∧ ¬aT qf.ob o∧φ.S o k)→False:=fun k ⟨o,a1,a2,a3⟩ ⟨o',b1,b2,b3⟩=>by
  have:=h.sep.apart o o' k a1 (p.sub.dom b1) a3 b3;subst this;exact a2 b1
 have upa: ∀{k},(∃o,aT st.ob o∧ ¬aT eM.ob o∧φ.S o k)→ ∃o,aT st.ob o∧ ¬aT qf.ob o∧φ.S o k:=fun⟨o,a1,a2,a3⟩=>⟨o,a1,fun hd=>a2 (q.sub.dom hd),a3⟩;have upb: ∀{k},(∃o,aT eM.ob o∧ ¬aT qf.ob o∧φ.S o k)→ ∃o,aT st.ob o∧ ¬aT qf.ob o∧φ.S o k:=fun⟨o,a1,a2,a3⟩=>⟨o,p.sub.dom a1,a2,a3⟩;refine⟨fun i it hi=> ?_,fun i k hi hk=> ?_,fun k hk=> ?_,fun i j k hi hj hk hk'=> ?_,q.sub.trans p.sub⟩
 ·by_cases hl:i<a.length
  ·rw[kC hl] at hi
   simp only[aR hl];exact(p.ok i it hi).qm fun k hk=>hk.imp id .inl
  ·rw[m7 au] at hi
   simp only[aJ hl];exact(q.ok _ it hi).qm fun k hk=>hk.imp id .inr
 ·by_cases hl:i<a.length
  ·simp only[aR hl] at hk
   obtain⟨h1,h2⟩:=p.src i k hl hk;exact⟨fun hz=>hz.elim h1 fun hb=>cross k h2 (q.srcZ k hb),upa h2⟩
  ·simp only[aJ hl] at hk
   obtain⟨h1,h2⟩:=q.src _ k (by simp at hi;omega) hk;exact⟨fun hz=>hz.elim (fun ha=>cross k (p.srcZ k ha) h2) h1,upb h2⟩
 ·exact hk.elim (fun h=>upa (p.srcZ k h)) fun h=>upb (q.srcZ k h)
 ·simp only[ct] at hi hj
  by_cases hl:i<a.length
  ·simp only[aR hl] at hk
   by_cases hl':j<a.length
   ·simp only[aR hl'] at hk';exact p.apart i j k hl hl' hk hk'
   ·simp only[aJ hl'] at hk'
    exact(cross k (p.src i k hl hk).2 (q.src _ k au hk').2).elim
  ·simp only[aJ hl] at hk
   by_cases hl':j<a.length
   ·simp only[aR hl'] at hk'
    exact(cross k (p.src j k hl' hk').2 (q.src _ k au hk).2).elim
   ·simp only[aJ hl'] at hk'
    have:=q.apart _ _ k au au hk hk';omega
theorem Ho {rC:TS} (M:Mode): ∀(cs:List CE) (st:TS) (vs:List Value) (ts:List TC) (st':TS) (d:Bool),bw F A w0 φ st tm w→fD st rC→vs.length=cs.length→(∀(j:Nat) (e:CE),cs[j]?=some e→ ∃v,vs[j]?=some v∧ek rC.ob w φ e v)→
 (M= .snap∨d=true∧M= .deep)→QG cs st=some (ts,st',d)→bw F A w0 φ st' tm w∧ts.length=cs.length∧fD st' st∧ ∃os,nh w φ st st' (fy M ts vs) os
 |[],st,vs,ts,st',d,h,hs,hl,hc,hM,ho=>by
  cases ho
  exact⟨h,rfl,fD.refl _,[],by cases vs<;>exact nh.nil _⟩
 |e::r,st,vs,ts,st',d,h,hs,hl,hc,hM,ho=>by
  simp only[QG] at ho
  split at ho
  ·rename_i c eM d1 hab
   split at ho
   ·rename_i cs' qf d2 ho2
    cases ho
    cases vs with
    |nil=>cases hl
    |cons v vs=>
     obtain⟨v',hv',hok⟩:=hc 0 e rfl;simp only[fu,bq] at hv';subst hv';obtain⟨h1,JQ,ht⟩:=WR h hs hok hab
     obtain⟨o,ht⟩:=ht M (by
      rcases hM with rfl|⟨hd,rfl⟩
      ·unfold aaL;cases e<;>rfl
      ·simp only[dY] at hd
       have hd1:=hd.1;subst hd1
       cases e with
       |snap ds l z rows=>
        cases ds with
        |nil=>simp[qk] at hab
        |cons _ _=>simp[qk] at hab
       |gone=>simp[qk] at hab
       |_=>rfl)
     obtain⟨h2,Bn,hs2,os,hts⟩:=Ho M r eM vs cs' _ d2 h1 (JQ.trans hs) (by simpa using hl) (fun j e he=>by
      obtain⟨v',a1,a2⟩:=hc (j+1) e (by simpa using he)
      exact⟨v',by simpa using a1,a2⟩) (by
       rcases hM with hM|⟨hd,hM⟩
       ·exact .inl hM
       ·simp only[dY] at hd;exact .inr ⟨hd.2,hM⟩) ho2
     exact⟨h2,by simp[Bn],hs2.trans JQ,o::os,(nh.one ht JQ).app h.sep.nz hts⟩
   ·cases ho
  ·cases ho
theorem yt {z:Nat}: ∀{rows:List (List TC)},(∀r∈rows,r.length=z)→ ∀{i f:Nat} {tc:TC},zQ rows i f=some tc→rows.flatten[i*z+f]?=some tc∧f<z∧i<rows.length
 |[],_,i,f,tc,h=>by simp[zQ] at h
 |r::rs,hw,0,f,tc,h=>by
  have hr:=hw r (.head _);simp only[zQ,fu,Option.bind_some] at h
  have hf:f<z:=by rw[←hr];exact(List.getElem?_eq_some_iff.1 h).1
  refine⟨?_,hf,by simp⟩;rw[yh,Nat.zero_mul,lG,kC au];exact h
 |r::rs,hw,i+1,f,tc,h=>by
  have hr:=hw r (.head _)
  have h':zQ rs i f=some tc:=by simpa [zQ] using h
  obtain⟨h1,h2,h3⟩:=yt (fun r hr=>hw r (.tail _ hr)) h';refine⟨?_,h2,by simpa using h3⟩;rw[yh,m7 (by rw[hr,rE];omega),hr,show(i+1)*z+f-z=i*z+f by rw[rE];omega];exact h1
theorem dg {z:Nat}: ∀{rows:List (List TC)},(∀r∈rows,r.length=z)→rows.flatten.length=rows.length*z
 |[],_=>by simp
 |r::rs,hw=>by
  rw[yh,ct,dg fun r hr=>hw r (.tail _ hr),hw r (.head _),gG,rE];omega
theorem nP.row (dp:Bool) {X:Nat→Nat→Prop} {Z:Nat→Prop} {z:Nat} {rows:List (List TC)} {vs:List Value} (p:nP w φ st st' (fy (if dp then .deep else .snap) rows.flatten vs) X Z) (hz:0<z) (hw: ∀r∈rows,r.length=z)
 (hl:vs.length=rows.length*z) {ad:Addr} {c:Nat} (hc:rows.length≤c) (hcm:c≤maxLen) (hs:ad.spot=none) (hnew: ∀i k,i<rows.length*z→X i k→k≠ad.block)
 (hmem: ∀k,(φ.I k∨Z k)→w'.heap[k]?=w.heap[k]?) (hmX: ∀i k,i<rows.length*z→X i k→w'.heap[k]?=w.heap[k]?)
 (hcell: ∀(j:Nat) (v:Value),vs[j]?=some v→w'.cell? (ad.add j)=some v) (hall: ∀j,j<c*z→(∃x,w'.cell? ⟨ad.block,ad.off+j,none⟩=some x)∧w'.frozen? ⟨ad.block,ad.off+j,none⟩=false) (Tu:1<z→ ∀i,w'.frozen? ⟨ad.block,i,none⟩=false):
 av w' (fun k=>φ.I k∨Z k) (OB.m ⟨dp,z,rows⟩) (fun k=>k=ad.block∨ ∃i,i<rows.length*z∧X i k) (.sub z rows) (.slice (some ad) rows.length c):=by
 have hfl:=dg hw
 have hlen:(fy (if dp then Mode.deep else .snap) rows.flatten vs).length=rows.length*z:=by rw[j9 (by rw[hfl,hl]),hfl]
 have inj: ∀{i f i' f':Nat},f<z→f'<z→i*z+f=i'*z+f'→i=i'∧f=f':=fun {i f i' f'} h1 h2 e=>by
  have e1:(i*z+f)/z=i:=by rw[Nat.mul_comm,Nat.mul_add_div hz,Nat.div_eq_of_lt h1,tW]
  have e2:(i'*z+f')/z=i':=by rw[Nat.mul_comm,Nat.mul_add_div hz,Nat.div_eq_of_lt h2,tW]
  have:i=i':=by rw[←e1,e,e2]
  subst this;exact⟨rfl,by omega⟩
 refine .sub _ _ z rows (some ad) c (fun i f=>vs.getD (i*z+f) undef) (fun i f k=>f<z∧i<rows.length∧dp=true∧X (i*z+f) k) ⟨hc,hcm,hz,hw,fun _=>⟨ad,rfl⟩,?_,?_,?_,fun _ h1z ad' e i=>(by cases e;exact Tu h1z i),?_⟩ ?_
 ·intro ad' e i f tc ht
  cases e
  obtain⟨h1,h2,h3⟩:=yt hw ht
  have hlt:i*z+f<vs.length:=by rw[hl,←hfl];exact(List.getElem?_eq_some_iff.1 h1).1
  rw[hcell _ _ (bC hlt)];simp[List.getD,bC hlt]
 ·intro hm
  exfalso
  revert hm
  unfold OB.m
  split<;>simp
 ·intro _
  refine⟨fun e=>(by cases e),fun ad' e=> ?_⟩
  cases e
  exact⟨.inl rfl,hs,hall⟩
 ·intro hm i f k hk
  obtain⟨h1,h2,h3,h4⟩:=hk;have hi:i*z+f<rows.length*z:=kE (Nat.add_lt_add_left h1 _) (by rw[←zI];exact oH _ h2);refine⟨.inr ⟨_,hi,h4⟩,fun ad' e=>(by cases e;exact hnew _ k hi h4),fun i' f' hk'=> ?_⟩;obtain⟨g1,g2,g3,g4⟩:=hk';have hi':i'*z+f'<rows.length*z:=kE (Nat.add_lt_add_left g1 _) (by rw[←zI];exact oH _ g2);exact inj g1 h1 (p.apart _ _ k (by rw[hlen];exact hi') (by rw[hlen];exact hi) g4 h4)
 ·intro i f tc ht
  obtain⟨h1,h2,h3⟩:=yt hw ht
  have hlt:i*z+f<vs.length:=by rw[hl,←hfl];exact(List.getElem?_eq_some_iff.1 h1).1
  have hv:vs[i*z+f]?=some (vs.getD (i*z+f) undef):=by simp[List.getD,bC hlt]
  have:=p.ok _ _ (pN h1 hv);simp only at this
  cases dp with
  |true=>
   simp only[if_true] at this;refine(av.move this (fun k hk=>⟨hk,hmem k hk⟩) fun _ k hk=>hmX _ k (by rw[←hl];exact hlt) hk).mono fun k hk=>⟨h2,h3,rfl,hk⟩
  |false=>
   simp only[Ds,if_false] at this;exact(av.move this (fun k hk=>⟨hk,hmem k hk⟩) fun hm=>absurd rfl hm).rm fun k hk=>hk
end Go.T
namespace Go.T
variable {F : Nat → Prop} {A : Arg} {w0 w w' : World} {φ φ' : Fp} {st st' eM qf : TS} {tm IF : Array Value} {C : mG}
variable {R : Type} {cf : Cf} {lp : Lp} {Q : R → Prop}
theorem bw.ajM (h:bw F A w0 φ st tm w) (g:nQ w w') {e:CE} {v:Value} (he:ek st.ob w φ e v):ek st.ob w' φ e v:=
 he.stay (fun k hk=>g.block k (h.sep.ro k hk).1) (fun d k hd hk=>g.block k (h.sep.lt h.frm.size hd hk)) fun o ho ad n c hv i v hc=>g.cell hc
theorem uj (w:World) (arr:Array Value) (t:TypeId) (j:Nat):(w.alloc (.cells arr t)).cell? ⟨w.heap.size,j,none⟩=arr[j]?:=by
 unfold World.cell?;simp only[heap_alloc_new]
 rfl
theorem mm (w:World) (arr:Array Value) (t:TypeId) (j:Nat):(w.alloc (.cells arr t)).frozen? ⟨w.heap.size,j,none⟩=false:=by
 unfold World.frozen?;simp only[heap_alloc_new];simp
theorem add_lit (b o j:Nat):(⟨b,o,none⟩:Addr).add j=⟨b,o+j,none⟩:=xA j rfl
theorem ae7 (h:bw F A w0 φ st tm w) {d:Nat} (hw:Bl d=true) {cs:List CE} {arr:Array Value} {t:TypeId} (hc:AOk st.ob w φ cs arr):
 bw F A w0 (φ.box d ⟨w.heap.size,0,none⟩) (LC d cs st) tm (w.alloc (.cells arr t)):=by
 have g:=nQ.alloc w (.cells arr t);refine(h.J3 g).LC hw rfl bZ (fun o ho hS=> ?_) (fun hI=> ?_) (.inl h.frm.size) (fun b' cs' hb' _ e=> ?_) (fun j e he=> ?_) fun j hj=> ?_
 ·have:=(h.sep.fresh o _ ho hS).1;simp at this
 ·have:=(h.sep.ro _ hI).1;simp at this
 ·have:=(h.sep.spot b' cs' hb').2.1;rw[e] at this;simp at this
 ·obtain⟨x,h1,h2,h3⟩:=hc.2 j e he
  exact⟨x,by rw[add_lit,uj,lG];exact h1,h2,h.ajM g h3⟩
 ·rw[add_lit];exact mm _ _ _ _
theorem ae8 (h0:bw F A w0 φ st tm w) (h:bw F A w0 φ st' tm w) {dp:Bool} {z:Nat} {rows:List (List TC)} {vs:List Value} {X:Nat→Nat→Prop} {Z G:Nat→Prop} {d:Nat}
 (p:nP w φ st st' (fy (if dp then .deep else .snap) rows.flatten vs) X Z) (hz:0<z) (zp: ∀r∈rows,r.length=z) (hl:vs.length=rows.length*z) {ad:Addr} {c:Nat} (hc:rows.length≤c) (hcm:c≤maxLen) (hs:ad.spot=none)
 (hf:J2 F w0 w') (hsz:w.heap.size≤w'.heap.size) (hw: ∀k,k<w.heap.size→ ¬G k→w'.heap[k]?=w.heap[k]?) (hG: ∀k,G k→ ∃o,aT st.ob o∧ ¬aT st'.ob o∧φ.S o k)
 (hnZ: ∀k,Z k→ ¬G k∧k≠ad.block) (hnX: ∀i k,i<rows.length*z→X i k→ ¬G k∧k≠ad.block) (hb:(w.heap.size≤ad.block∧ad.block<w'.heap.size)∨ ∃o,aT st.ob o∧ ¬aT st'.ob o∧φ.S o ad.block)
 (hcell: ∀(j:Nat) (v:Value),vs[j]?=some v→w'.cell? (ad.add j)=some v) (hall: ∀j,j<c*z→(∃x,w'.cell? ⟨ad.block,ad.off+j,none⟩=some x)∧w'.frozen? ⟨ad.block,ad.off+j,none⟩=false) (Tu:1<z→ ∀i,w'.frozen? ⟨ad.block,i,none⟩=false) (hd:d<tm.size):
 Rel F A w0 (zz d ⟨dp,z,rows⟩ st') (tm.setIfInBounds d (.slice (some ad) rows.length c)) w':=by
 have kI: ∀{k},(∃o,aT st.ob o∧ ¬aT st'.ob o∧φ.S o k)→ ¬φ.I k:=fun⟨o,a1,a2,a3⟩=>h0.sep.read o _ a1 a3
 have kS: ∀{k},(∃o,aT st.ob o∧ ¬aT st'.ob o∧φ.S o k)→ ∀o',aT st'.ob o'→ ¬φ.S o' k:=fun⟨o,a1,a2,a3⟩ o' ho' hk=>by
  have:=h0.sep.apart o o' _ a1 (p.sub.dom ho') a3 hk;subst this;exact a2 ho'
 have kF: ∀{k},(∃o,aT st.ob o∧ ¬aT st'.ob o∧φ.S o k)→k<w.heap.size∧(w0.heap.size≤k∨F k):=fun⟨o,a1,a2,a3⟩=>h0.sep.fresh o _ a1 a3
 have kB: ∀{k},(∃o,aT st.ob o∧ ¬aT st'.ob o∧φ.S o k)→ ∀b cs,an b st'.bx=some cs→(φ.β b).block≠k:=fun {k} ⟨o,a1,a2,a3⟩ b cs hb e=>by
  obtain⟨cs0,c0,_⟩:=p.sub.bx b cs hb
  cases HW:Bl b with
  |true=>exact(h0.sep.box b cs0 c0 HW).2.1 o a1 (by rw[e];exact a3)
  |false=>
   have h1:=h0.sep.oY _ ((h0.sep.spot b cs0 c0).2.2 HW);rw[e] at h1;rcases (h0.sep.fresh o k a1 a3).2 with h3|h3
   ·omega
   ·exact h1.2 h3
 have h1:=h.wrote (w':=w') [] (fun _ _=>False) Z G hf hsz hw (fun k hk=>(kF (hG k hk)).2) (fun k hk=>kI (hG k hk)) (fun k o hk ho _=>kS (hG k hk) o ho) (fun b cs hb hk=>kB (hG _ hk) b cs hb rfl)
  (fun o b' hb'=>by simp[an] at hb')
  (fun k hk=>⟨kE (kF (p.srcZ k hk)).1 hsz,(kF (p.srcZ k hk)).2.elim .inl fun hF=> .inr (.inl hF),fun o ho _=>kS (p.srcZ k hk) o ho,fun b cs hb _=>kB (p.srcZ k hk) b cs hb⟩)
 have hlen:(fy (if dp then Mode.deep else .snap) rows.flatten vs).length=rows.length*z:=by rw[j9 (by rw[dg zp,hl]),dg zp]
 have hrow:=p.row (w':=w') dp hz zp hl hc hcm hs (fun i k hi hk=>(hnX i k hi hk).2)
  (fun k hk=>by
    rcases hk with hk|hk
    ·exact hw k (h0.sep.ro k hk).1 fun hg=>kI (hG k hg) hk
    ·exact hw k (kF (p.srcZ k hk)).1 (hnZ k hk).1)
  (fun i k hi hk=>hw k (kF (p.src i k (by rw[hlen];exact hi) hk).2).1 (hnX i k hi hk).1) hcell hall Tu
 have hbI: ¬φ.I ad.block:=fun hI=>by
  rcases hb with⟨hb,_⟩|hb
  ·have:=(h0.sep.ro _ hI).1;omega
  ·exact kI hb hI
 have h2:=h1.FK (o:=uY d 0 0) (b:=⟨dp,z,rows⟩) (by unfold uY;omega) hrow (fun k hk=>by
  rcases hk with rfl|⟨i,hi,hk⟩
  ·rcases hb with⟨b1,b2⟩|hb
   ·exact⟨b2,.inl (bQ h0.frm.size b1)⟩
   ·exact⟨kE (kF hb).1 hsz,(kF hb).2⟩
  ·have:=kF (p.src i k (by rw[hlen];exact hi) hk).2
   exact⟨kE this.1 hsz,this.2⟩)
  (fun k hk hI=>by
    rcases hk with rfl|⟨i,hi,hk⟩
    ·rcases hI with hI|hI
     ·exact hbI hI
     ·exact(hnZ _ hI).2 rfl
    ·have hsr:=p.src i k (by rw[hlen];exact hi) hk
     rcases hI with hI|hI
     ·exact kI hsr.2 hI
     ·exact hsr.1 hI)
  (fun k o hk _ ho hS=>by
    have hS:φ.S o k:=hS;have ho:aT st'.ob o:=ho;rcases hk with rfl|⟨i,hi,hk⟩
    ·rcases hb with⟨b1,_⟩|hb
     ·have:=(h.sep.fresh o _ ho hS).1;omega
     ·exact kS hb o ho hS
    ·exact kS (p.src i k (by rw[hlen];exact hi) hk).2 o ho hS)
  (fun b cs hb' HW hk=>by
    have hb':an b st'.bx=some cs:=hb';rcases hk with e|⟨i,hi,hk⟩
    ·rcases hb with⟨b1,_⟩|hb
     ·have:=(h.sep.spot b cs hb').2.1
      have e:(φ.β b).block=ad.block:=e;omega
     ·exact kB hb b cs hb' e
    ·exact kB (p.src i _ (by rw[hlen];exact hi) hk).2 b cs hb' rfl)
 have h3:=h2.TM (d:=d) (e:=one (.ref (uY d 0 0) none)) (v:= .slice (some ad) rows.length c) hd (WE rfl ⟨⟨dp,z,rows⟩,by
  show an _ (pU _ _ _)=_
  exact nI,by simp[Fp.add]⟩)
 exact⟨_,h3⟩
theorem adi (h:bw F A w0 φ st tm w) {dp:Bool} {z d:Nat} (hz:0<z) (hd:d<tm.size):Rel F A w0 (zz d ⟨dp,z,[]⟩ st) (tm.setIfInBounds d (.slice none 0 0)) w:=by
 have h2:=h.FK (o:=uY d 0 0) (b:=⟨dp,z,[]⟩) (X:=Lw) (v:= .slice none 0 0) (by unfold uY;omega) (zV hz) (fun k hk=>hk.elim) (fun k hk=>hk.elim) (fun k o hk=>hk.elim) (fun b cs _ _ hk=>hk)
 exact⟨_,h2.TM (d:=d) (e:=one (.ref (uY d 0 0) none)) (v:= .slice none 0 0) hd (WE rfl ⟨⟨dp,z,[]⟩,by
  show an _ (pU _ _ _)=_
  exact nI,by simp[Fp.add]⟩)⟩
theorem av.parts (h:bw F A w0 φ st tm w) {o:Nat} (ho:aT st.ob o) {m M:Mode} {z:Nat} {rows:List (List TC)} {v:Value} (hr:av w φ.I m (φ.S o) (.sub z rows) v) (hm:m≠ .snap) (hM:M= .snap∨M= .deep∧m= .deep):
 ∃vals X Z,vals.length=rows.length*z∧nP w φ st (o6 o st) (fy M rows.flatten vals) X Z∧ ∀ad n c,v= .slice (some ad) n c→(∀(j:Nat) (x:Value),vals[j]?=some x→w.cell? (ad.add j)=some x)∧(∀i k,X i k→k≠ad.block)∧ ∀k,Z k→k≠ad.block:=by
 cases hr with
 |sub _ _ _ _ Ad c u T k hn=>
  have hz:=k.z0;have zp:=k.width;have hsub:=fD.kill st o;have hfl:=dg zp
  have at_of: ∀{p:Nat} {tc:TC},rows.flatten[p]?=some tc→zQ rows (p/z) (p % z)=some tc:=fun {p tc} hp=>by
   have hlt:p<rows.length*z:=by rw[←hfl];exact(List.getElem?_eq_some_iff.1 hp).1
   have hi:p/z<rows.length:=Nat.div_lt_of_lt_mul (by rw[Nat.mul_comm];exact hlt);have hrl:=zp _ (tV hi)
   have hf:p % z<(rows[p/z]).length:=by rw[hrl];exact Nat.mod_lt _ hz
   have h1:zQ rows (p/z) (p % z)=some (rows[p/z][p % z]):=by simp[zQ,bC hi,bC hf]
   have h2:=(yt zp h1).1;rw[JT p z] at h2;rw[h1,←h2,hp]
  have q9:aT st.ob o∧ ¬aT (o6 o st).ob o:=⟨ho,fun hd=>(lP.1 hd).1 rfl⟩
  let vals:List Value:=(List.range (rows.length*z)).map fun p=>u (p/z) (p % z)
  have hvl:vals.length=rows.length*z:=by simp[vals]
  have hval: ∀{p:Nat} {x:Value},vals[p]?=some x→p<rows.length*z∧x=u (p/z) (p % z):=fun {p x} hp=>by
   have hlt:p<rows.length*z:=by rw[←hvl];exact(List.getElem?_eq_some_iff.1 hp).1
   refine⟨hlt,?_⟩;simp[vals,hlt] at hp;exact hp.symm
  have hcl:(fy M rows.flatten vals).length=rows.length*z:=by rw[j9 (by rw[hfl,hvl]),hfl]
  have hmem: ∀ad n c',Value.slice Ad rows.length c= .slice (some ad) n c'→ ∀(j:Nat) (x:Value),vals[j]?=some x→w.cell? (ad.add j)=some x:=fun ad n c' e j x hx=>by
   cases e
   obtain⟨hlt,rfl⟩:=hval hx;obtain⟨tc,htc⟩: ∃tc,rows.flatten[j]?=some tc:=⟨_,bC (by rw[hfl];exact hlt)⟩;have:=k.cell ad rfl _ _ tc (at_of htc);rw[JT j z] at this;exact this
  by_cases Wm:M= .deep
  ·subst Wm
   have X7:m= .deep:=by
    rcases hM with e|⟨_,e⟩
    ·cases e
    ·exact e
   subst X7;refine⟨vals,fun p b=>p<rows.length*z∧T (p/z) (p % z) b,fun _=>False,hvl,⟨fun i it hi=> ?_,fun i b hi hb=> ?_,fun b hb=>hb.elim,fun i j b hi hj hb hb'=> ?_,hsub⟩,fun ad n c' e=>⟨hmem ad n c' e,fun i b hb=> ?_,fun b hb=>hb.elim⟩⟩
   ·obtain⟨tc,x,h1,h2,rfl⟩:=oN hi
    obtain⟨hlt,rfl⟩:=hval h2;exact((hn _ _ tc (at_of h1)).qm fun b hb=> .inl hb).mono fun b hb=>⟨hlt,hb⟩
   ·exact⟨id,o,q9.1,q9.2,(k.qh rfl _ _ b hb.2).1⟩
   ·obtain⟨e1,e2⟩:=(k.qh rfl _ _ b hb.2).2.2 _ _ hb'.2
    rw[←JT i z,←JT j z,e1,e2]
   ·cases e
    exact(k.qh rfl _ _ b hb.2).2.1 ad rfl
  ·have hMs:M= .snap:=hM.elim id fun⟨e,_⟩=>absurd e Wm
   subst hMs;refine⟨vals,fun _ _=>False,fun b=>m= .deep∧ ∃i f,T i f b,hvl,⟨fun i it hi=> ?_,fun i b hi hb=>hb.elim,fun b hb=> ?_,fun i j b hi hj hb=>hb.elim,hsub⟩,fun ad n c' e=>⟨hmem ad n c' e,fun i b hb=>hb.elim,fun b hb=> ?_⟩⟩
   ·obtain⟨tc,x,h1,h2,rfl⟩:=oN hi
    obtain⟨hlt,rfl⟩:=hval h2;exact(hn _ _ tc (at_of h1)).freeze (fun b hb=> .inl hb) fun hx b hb=> .inr ⟨xy hx,_,_,hb⟩
   ·obtain⟨X7,i,f,hb⟩:=hb
    exact⟨o,q9.1,q9.2,(k.qh X7 _ _ b hb).1⟩
   ·cases e
    obtain⟨X7,i,f,hb⟩:=hb;exact(k.qh X7 _ _ b hb).2.1 ad rfl
end Go.T
namespace Go.T
variable {F : Nat → Prop} {A : Arg} {w0 w w' : World} {φ φ' : Fp} {st st' eM qf : TS} {tm IF : Array Value} {C : mG}
variable {R : Type} {cf : Cf} {lp : Lp} {Q : R → Prop}
def Wr (st:TS) (φ:Fp) (l:List Nat) (k:Nat):Prop:=(∃b cs,2*b+1∈l∧an b st.bx=some cs∧Bl b=true∧k=(φ.β b).block)∨ ∃o,2*o∈l∧aT st.ob o∧φ.S o k
def Did (C:mG) (F:Nat→Prop) (A:Arg) (w0:World) (φ:Fp) (st:TS) (o:Oper) (a:Act) (w:World) (K:TS→Ev R) (cf:Cf) (lp:Lp) (Q:R→Prop):Prop:=
 ∃nx v w' st',(execOp a.eval o).run C.P w= .ok nx w'∧(nx= .value v∨nx= .skip∧v=undef)∧Rel F A w0 st' (a.put o.dst v).tmps w'∧(K st').holds cf lp Q∧w.heap.size≤w'.heap.size∧
  ∀k,k<w.heap.size→ ¬Wr st φ (writes C st o) k→w'.heap[k]?=w.heap[k]?
theorem Bx {i:mK} (h:AZ i=true):known i=true∧ ∀e,i.ti≠ .ptr e:=by
 unfold AZ at h;unfold known
 split at h<;>first|cases h|skip
 rename_i h1 h2;exact⟨by split<;>first|rfl|(rename_i e;exact absurd e h1),fun e he=>h2 e he⟩
theorem acq (hT:ij C) {a:Act} (h:bw F A w0 φ st a.tmps w) {o:Oper} {K:TS→Ev R} (hd: ∀d,o.dst=some d→d<a.tmps.size) (hk:(Vt C st o K).holds cf lp Q):Did C F A w0 φ st o a w K cf lp Q:=by
 unfold Vt at hk
 cases mR:o.dst with
 |none=>rw[mR] at hk;exact hk.elim
 |some d=>
  rw[mR] at hk;obtain⟨v,e,h1,h2,h3,_⟩:=YJ hT h hk;exact⟨_,v,w,_,h1,.inl rfl,⟨φ,by rw[mR];exact h.TM (hd d mR) h2⟩,h3,cL _,fun _ _ _=>rfl⟩
theorem ae9 (hT:ij C) {a:Act} (h:bw F A w0 φ st a.tmps w) {o:Oper} {t:TypeId} (ho:o.op= .alloc t) {K:TS→Ev R} (hd: ∀d,o.dst=some d→d<a.tmps.size) (hk:(ql C st o K).holds cf lp Q):Did C F A w0 φ st o a w K cf lp Q:=by
 unfold ql at hk;rw[ho] at hk;simp only at hk
 split at hk
 ·rename_i d mR hp
  split at hk
  ·rename_i hw
   obtain⟨hkn,hnp⟩:=Bx hp;obtain⟨i,z,h1,h2,h3,h4,h5⟩:=WM (w:=w) (φ:=φ) hT hkn hnp (ob:=st.ob)
   have hn:=(ae7 h hw (t:=t) h4).TM (d:=d) (e:= .bp d 0) (v:= .pointer (some ⟨w.heap.size,0,none⟩)) (hd d mR) (by
    show _=Value.pointer (some (((φ.box d ⟨w.heap.size,0,none⟩).β d).add 0))
    rw[yq,Addr.add_zero'])
   refine⟨.value (.pointer (some ⟨w.heap.size,0,none⟩)),_,_,_,?_,.inl rfl,⟨_,by rw[mR];exact hn⟩,hk,by simp,fun k hk _=>(nQ.alloc w _).block k hk⟩;unfold execOp;rw[ho];simp[Instr.alloc,zeroValue,typeInfo,h1,h3,newVar,newRow]
  ·exact hk.elim
 ·exact hk.elim
theorem ajN (hT:ij C) {a:Act} (h:bw F A w0 φ st a.tmps w) {o:Oper} {t:TypeId} {x:Operand} (ho:o.op= .box t x) {K:TS→Ev R} (hd: ∀d,o.dst=some d→d<a.tmps.size) (hk:(ql C st o K).holds cf lp Q):Did C F A w0 φ st o a w K cf lp Q:=by
 unfold ql at hk;rw[ho] at hk;simp only at hk
 split at hk
 ·rename_i d cs mR hc
  split at hk
  ·rename_i hw
   have hcs:=vh (fC hT h t x) hc
   have hn:=(ae7 h hw (t:=t) (arr:=(a.eval x).cells) hcs).TM (d:=d) (e:= .bp d 0) (v:= .pointer (some ⟨w.heap.size,0,none⟩)) (hd d mR) (by
    show _=Value.pointer (some (((φ.box d ⟨w.heap.size,0,none⟩).β d).add 0))
    rw[yq,Addr.add_zero'])
   refine⟨.value (.pointer (some ⟨w.heap.size,0,none⟩)),_,_,_,?_,.inl rfl,⟨_,by rw[mR];exact hn⟩,hk,by simp,fun k hk _=>(nQ.alloc w _).block k hk⟩;unfold execOp;rw[ho];simp[Instr.box,newVar,newRow]
  ·exact hk.elim
 ·exact hk.elim
theorem Kg {P:Program} {tt:TypeId→mK} {t:TypeId} (h:Hi P tt t) {ad:Addr} (hs:ad.spot=none) {v:Value} (hv:v.cells.size=(tt t).size) (h1: ∀x∈v.cells.toList,x.oneCell'=true)
 (hc: ∀j,j<v.cells.size→(w.cell? (ad.add j)).isSome=true∧w.frozen? (ad.add j)=false):(Instr.storeAt t (.pointer (some ad)) v).run P w= .ok () (w.setCells ad.block ad.off v.cells.toList):=by
 obtain⟨i,z,g1,g2,_⟩:=h.info;have Bj: ∀j,ad.add j=⟨ad.block,ad.off+j,none⟩:=fun j=>xA j hs;have hst:=run_storeCells_cells (P:=P) ad.block ad.off v.cells.toList 0 w (fun j hj=>by rw[tW,←Bj];exact(hc j (by simpa using hj)).1) (fun j hj=>by rw[tW,←Bj];exact(hc j (by simpa using hj)).2) h1
 have had:(⟨ad.block,ad.off,none⟩:Addr)=ad:=by cases ad;simp_all
 rw[had,tW] at hst;simp only[Instr.storeAt,Instr.sureAddr,storeVar,sizeOf,typeInfo,Sem.run_bind,Sem.run_pure,Result.andThen];simp[g1,g2,hv,hst]
theorem Ie: ∀{cs:List CE},Qm cs=false→ ∀e∈cs,e≠ .gone
 |[],_,e,he=>by cases he
 |c::r,h,e,he=>by
  cases c with
  |gone=>cases h
  |_=>
   rcases dJ.1 he with rfl|he
   ·simp
   ·exact Ie (cs:=r) h e he
theorem Hj.one {cs:List CE} {v:Value} (h:Hj st.ob w φ cs v) (hb: ∀o b,an o st.ob=some b→o7 w φ o b) (hg:Qm cs=false): ∀x∈v.cells.toList,x.oneCell'=true:=by
 intro x hx;obtain⟨j,hj,rfl⟩:=List.mem_iff_getElem.1 hx
 have hj':j<cs.length:=by rw[←h.1];simpa using hj
 obtain⟨y,h1,_,h3⟩:=h.2 j _ (bC hj')
 have hjv:j<v.cells.size:=by simpa using hj
 rw[w8 hjv] at h1;simp only[bq] at h1;rw[Array.getElem_toList,h1];exact adh h3 (Ie hg _ (tV hj')) hb
theorem acr {α:Type} {old cs:List α} {off j:Nat} {e:α} (h:(old.take off++cs++old.drop (off+cs.length))[j]?=some e) (hle:off+cs.length≤old.length):
 (off≤j∧j<off+cs.length∧cs[j-off]?=some e)∨((j<off∨off+cs.length≤j)∧old[j]?=some e):=by
 have hto:(old.take off).length=off:=by rw[c7];omega
 rw[tT] at h
 by_cases h1:j<off
 ·rw[kC au,zG,aR h1] at h
  exact .inr ⟨.inl h1,h⟩
 ·rw[m7 au,hto] at h
  by_cases h2:j<off+cs.length
  ·rw[kC au] at h
   exact .inl ⟨by omega,h2,h⟩
  ·rw[m7 au,o5,show off+cs.length+(j-off-cs.length)=j by omega] at h
   exact .inr ⟨.inr au,h⟩
theorem IT {α:Type} {old cs:List α} {off:Nat} (hle:off+cs.length≤old.length):(old.take off++cs++old.drop (off+cs.length)).length=old.length:=by
 simp only[ct,c7,gQ];omega
theorem YQ {a:Act} (hT:ij C) (h:bw F A w0 φ st a.tmps w) {o:Oper} {t:TypeId} {p x:Operand} (ho:o.op= .store t p x) (mR:o.dst=none) {cs:List CE} (hkn:known (C.tt t)=true) (hcs:Hj st.ob w φ cs (a.eval x))
 (hsz:cs.length=(C.tt t).size) {b off:Nat} (hp:ua C st 0 p= .bp b off) {st':TS} (hs:QJ b off cs st=some st') {K:TS→Ev R} (hk:(K st').holds cf lp Q):Did C F A w0 φ st o a w K cf lp Q:=by
 unfold QJ at hs
 split at hs
 ·rename_i old hb
  split at hs
  ·rename_i hwg hle
   cases hs
   have hle:=tX hle;simp only[dY,yg] at hwg;obtain⟨hw,hg⟩:=hwg;have hpv:=fC hT h 0 p;rw[hp] at hpv;have hpv:a.eval p= .pointer (some ((φ.β b).add off)):=hpv;have wH:=(h.sep.spot b old hb).1 hw;have Bj: ∀j,(φ.β b).add j=⟨(φ.β b).block,(φ.β b).off+j,none⟩:=fun j=>xA j wH;obtain⟨bx1,bx2,bx3,bx4⟩:=h.sep.box b old hb hw;have aef:(a.eval x).cells.size=cs.length:=hcs.1
   have hrun:=Kg (w:=w) (hT t hkn) (ad:=(φ.β b).add off) (FU off wH) (v:=a.eval x) (by rw[aef,hsz]) (hcs.one h.obj hg) (fun j hj=>by
    rw[Addr.add_add]
    have hj:off+j<old.length:=by rw[aef] at hj;omega
    obtain⟨v,c1,_⟩:=h.box b old hb (off+j) _ (bC hj)
    exact⟨by rw[c1];rfl,h.sep.soft b old (off+j) hb hw hj⟩)
   rw[cR,Bj off] at hrun;simp only at hrun;have JR: ∀k,k<w.heap.size→k≠(φ.β b).block→(w.setCells (φ.β b).block ((φ.β b).off+off) (a.eval x).cells.toList).heap[k]?=w.heap[k]?:=fun k hk hne=>gV _ _ _ _ hk hne;have hlt:(φ.β b).block<w.heap.size:=(h.sep.spot b old hb).2.1
   have hnew:=h.LB (w':=w.setCells (φ.β b).block ((φ.β b).off+off) (a.eval x).cells.toList) hb hw (IT hle) (h.frm.setCells bx3) (by rw[(ni _ _ _ _).2.2.2];exact cL _) JR
    (fun j hj=>by rw[World.frozen?_setCells];exact h.sep.soft b old j hb hw (by rw[IT hle] at hj;exact hj))
    (fun j e he=>by
      rcases acr he hle with⟨l1,l2,l3⟩|⟨l1,l2⟩
      ·obtain⟨y,y1,y2,y3⟩:=hcs.2 _ e l3
       have hin:=World.cell?_setCells_in (φ.β b).block (a.eval x).cells.toList ((φ.β b).off+off) w (fun j' hj'=>by
        have hj':j'<cs.length:=by rw[←aef];simpa using hj'
        obtain⟨v,c1,_⟩:=h.box b old hb (off+j') _ (bC au);rw[Bj] at c1
        rw[show(φ.β b).off+off+j'=(φ.β b).off+(off+j') by omega,c1];rfl) (j-off) (by rw[yf,aef];omega)
       refine⟨y,?_,y2,y3⟩;rw[Bj,show(φ.β b).off+j=(φ.β b).off+off+(j-off) by omega,hin]
       have hjv:j-off<(a.eval x).cells.size:=by rw[aef];omega
       rw[w8 hjv] at y1;rw[Array.getElem_toList,←y1]
      ·obtain⟨v,c1,c2,c3⟩:=h.box b old hb j e l2
       refine⟨v,?_,c2,c3⟩;rw[World.cell?_setCells_out]
       ·exact c1
       ·intro _ _
        rw[Bj,yf,aef];simp only
        omega)
   refine⟨.skip,undef,_,_,?_,.inr ⟨rfl,rfl⟩,⟨φ,by rw[mR];exact hnew⟩,hk,by rw[(ni _ _ _ _).2.2.2];exact cL _,fun k hk hnw=> ?_⟩
   ·unfold execOp
    rw[ho];simp only[Sem.run_bind,hpv,Bj,hrun,Result.andThen]
    rfl
   ·refine JR k hk fun e=>hnw (.inl ⟨b,old,?_,hb,hw,e⟩)
    unfold writes;rw[ho];simp only[hp];exact .head _
  ·cases hs
 ·cases hs
end Go.T
namespace Go.T
variable {F : Nat → Prop} {A : Arg} {w0 w w' : World} {φ φ' : Fp} {st st' eM qf : TS} {tm IF : Array Value} {C : mG}
variable {R : Type} {cf : Cf} {lp : Lp} {Q : R → Prop}
def r7 (rows:List (List TC)) (i f:Nat) (cs:List TC):List (List TC):=match rows[i]? with
 |some r=>rows.set i (r.take f++cs++r.drop (f+cs.length))
 |none=>rows
attribute [local semireducible] setRow in
theorem vl (rows:List (List TC)) (i:Int) (f:Nat) (cs:List TC):setRow rows i f cs=r7 rows i.toNat f cs:=rfl
theorem mo (rows:List (List TC)) (i f:Nat) (cs:List TC):(r7 rows i f cs).length=rows.length:=by
 unfold r7;split<;>simp
theorem CL {rows:List (List TC)} {i f:Nat} {cs row:List TC} (hrow:rows[i]?=some row) (hf:f+cs.length≤row.length) {i' f':Nat} {tc:TC} (h:zQ (r7 rows i f cs) i' f'=some tc):
 (i'=i∧f≤f'∧f'<f+cs.length∧cs[f'-f]?=some tc)∨((i'≠i∨f'<f∨f+cs.length≤f')∧zQ rows i' f'=some tc):=by
 unfold r7 at h;simp only[hrow] at h
 by_cases hi:i'=i
 ·subst hi
  have hlt:=(List.getElem?_eq_some_iff.1 hrow).1;simp only[zQ,List.getElem?_set_self hlt,Option.bind_some] at h;rcases acr h hf with⟨a,b,c⟩|⟨a,b⟩
  ·exact .inl ⟨rfl,a,b,c⟩
  ·exact .inr ⟨.inr a,by simp[zQ,hrow,b]⟩
 ·simp only[zQ,List.getElem?_set_ne (Ne.symm hi)] at h
  exact .inr ⟨.inl hi,h⟩
theorem Kh {z:Nat} {rows:List (List TC)} (hw: ∀r∈rows,r.length=z) {i f:Nat} {cs row:List TC} (hrow:rows[i]?=some row) (hf:f+cs.length≤row.length): ∀r∈r7 rows i f cs,r.length=z:=by
 intro r hr;unfold r7 at hr;simp only[hrow] at hr;rcases List.mem_or_eq_of_mem_set hr with hr|rfl
 ·exact hw r hr
 ·rw[IT hf];exact hw row (iV hrow)
theorem av.mono' {w:World} {Rd S S':Nat→Prop} {m:Mode} {t:TC} {v:Value} (h:av w Rd m S t v) (hS:m≠ .snap→ ∀b,S b→S' b):av w Rd m S' t v:=by
 by_cases hm:m= .snap
 ·subst hm;exact h.rm fun _ h=>h
 ·exact h.mono (hS hm)
theorem av.adj {w w':World} {Rd S:Nat→Prop} {t:TC} {v:Value} (h:av w Rd .deep S t v) (hS: ∀b,S b→w'.heap[b]?=w.heap[b]?):av w' Rd .deep S t v:=
 (((h.Ic rfl:av w Lw .deep S t v).move (R':=Lw) (fun _ h=>h.elim) fun _=>hS).Ic rfl:av w' Rd .deep S t v)
theorem av.put {Rd S:Nat→Prop} {m:Mode} {z n c:Nat} {rows:List (List TC)} {ad:Addr} (h:av w Rd m S (.sub z rows) (.slice (some ad) n c)) (hm:m≠ .snap) {i f:Nat} {ts row:List TC} (hrow:rows[i]?=some row) (hf:f+ts.length≤row.length)
 {vs:List Value} (hl:vs.length=ts.length) (h1: ∀v∈vs,v.oneCell'=true) {X:Nat→Nat→Prop} (hX: ∀(j:Nat) (t:TC) (v:Value),ts[j]?=some t→vs[j]?=some v→av w Rd m.nx (X j) t v)
 (hXd:m= .deep→ ∀j k,j<ts.length→X j k→ ¬S k∧ ∀j',j'<ts.length→X j' k→j'=j) (hRd: ∀k,Rd k→k<w.heap.size∧k≠ad.block) (hS: ∀k,S k→k<w.heap.size) (hXs: ∀j k,j<ts.length→X j k→k<w.heap.size):
 ad.spot=none∧S ad.block∧(∀j,j<vs.length→(w.cell? (ad.add (i*z+f+j))).isSome=true∧w.frozen? (ad.add (i*z+f+j))=false)∧
 av (w.setCells ad.block (ad.off+(i*z+f)) vs) Rd m (fun k=>S k∨(m= .deep∧ ∃j,j<ts.length∧X j k)) (.sub z (r7 rows i f ts)) (.slice (some ad) n c):=by
 cases h with
 |sub _ _ _ _ _ _ u T k hn=>
  have hlt:=(List.getElem?_eq_some_iff.1 hrow).1;have hrl:=k.width row (iV hrow);obtain⟨hSb,wH,hall⟩:=(k.own hm).2 ad rfl;have Bj: ∀j,ad.add j=⟨ad.block,ad.off+j,none⟩:=fun j=>xA j wH
  have inb: ∀j,j<ts.length→i*z+f+j<c*z:=fun j hj=>by
   have:i*z+f+j<(i+1)*z:=by rw[rE];omega
   exact kE this (oH _ (by have:=k.len;omega))
  have there: ∀j,j<vs.length→(w.cell? (ad.add (i*z+f+j))).isSome=true∧w.frozen? (ad.add (i*z+f+j))=false:=fun j hj=>by
   obtain⟨⟨x,hx⟩,hfz⟩:=hall (i*z+f+j) (inb j au);rw[Bj];exact⟨by rw[hx];rfl,hfz⟩
  have JR: ∀b,b<w.heap.size→b≠ad.block→(w.setCells ad.block (ad.off+(i*z+f)) vs).heap[b]?=w.heap[b]?:=fun b hb hne=>gV _ _ _ _ hb hne;have hXb: ∀j b,j<ts.length→m= .deep→X j b→b≠ad.block:=fun j b hj X7 hb e=>(hXd X7 j b hj hb).1 (by rw[e];exact hSb)
  have hin: ∀j (hj:j<vs.length),(w.setCells ad.block (ad.off+(i*z+f)) vs).cell? (ad.add (i*z+f+j))=some vs[j]:=fun j hj=>by
   have:=World.cell?_setCells_in ad.block vs (ad.off+(i*z+f)) w (fun j' hj'=>by
    have:=(there j' hj').1;rw[Bj] at this
    rw[show ad.off+(i*z+f)+j'=ad.off+(i*z+f+j') by omega];exact this) j hj
   rw[Bj,show ad.off+(i*z+f+j)=ad.off+(i*z+f)+j by omega];exact this
  have hout: ∀p,(p<i*z+f∨i*z+f+vs.length≤p)→(w.setCells ad.block (ad.off+(i*z+f)) vs).cell? (ad.add p)=w.cell? (ad.add p):=fun p hp=>by
   refine World.cell?_setCells_out _ _ _ _ _ fun _ _=> ?_;rw[Bj];simp only;omega
  refine⟨wH,hSb,there,?_⟩
  let inr:Nat→Nat→Prop:=fun i' f'=>i'=i∧f≤f'∧f'<f+ts.length
  have dec: ∀i' f',Decidable (inr i' f'):=fun _ _=>inferInstanceAs (Decidable (_∧_∧_))
  have key:=av.sub (w:=w.setCells ad.block (ad.off+(i*z+f)) vs) (R:=Rd) m (fun b=>S b∨(m= .deep∧ ∃j,j<ts.length∧X j b)) z (r7 rows i f ts) (some ad) c
   (fun i' f'=>if i'=i∧f≤f'∧f'<f+ts.length then vs.getD (f'-f) undef else u i' f') (fun i' f' b=>if i'=i∧f≤f'∧f'<f+ts.length then m= .deep∧X (f'-f) b else T i' f' b) ?_ ?_
  ·rw[mo] at key;exact key
  ·refine⟨by rw[mo];exact k.len,k.cap,k.z0,Kh k.width hrow hf,fun _=>⟨ad,rfl⟩,?_,fun e=>absurd e hm,fun _=>⟨fun e=>(by cases e),?_⟩,fun hm h1z ad' e i=>(by cases e;rw[World.frozen?_setCells];exact k.soft hm h1z ad rfl i),?_⟩
   ·intro ad' e i' f' tc ht
    cases e
    rcases CL hrow hf ht with⟨rfl,a,b,hc⟩|⟨hn',hc⟩
    ·rw[aR ⟨rfl,a,b⟩]
     have hj:f'-f<vs.length:=by omega
     have:=hin (f'-f) hj;rw[show i'*z+f+(f'-f)=i'*z+f' by omega] at this;rw[this];simp[List.getD,bC hj]
    ·rw[aJ au]
     rw[hout]
     ·exact k.cell ad rfl i' f' tc hc
     ·obtain⟨_,hf',_⟩:=yt k.width hc
      by_cases hi:i'=i
      ·subst hi;omega
      ·rcases Nat.lt_or_gt_of_ne hi with hi|hi
       ·left
        have:i'*z+z≤i*z:=by rw[←zI];exact oH _ hi
        omega
       ·right
        have:i*z+z≤i'*z:=by rw[←zI];exact oH _ hi
        omega
   ·intro ad' e
    cases e
    refine⟨.inl hSb,wH,fun j hj=> ?_⟩;obtain⟨⟨x,hx⟩,hfz⟩:=hall j hj;refine⟨?_,by rw[World.frozen?_setCells];exact hfz⟩;have:=World.isSome_setCells ad.block vs (ad.off+(i*z+f)) w ⟨ad.block,ad.off+j,none⟩ (by rw[hx];rfl);exact Option.isSome_iff_exists.1 this
   ·intro X7 i' f' b hb
    by_cases hr:i'=i∧f≤f'∧f'<f+ts.length
    ·rw[aR hr] at hb
     have hj:f'-f<ts.length:=by omega
     refine⟨.inr ⟨X7,_,hj,hb.2⟩,fun ad' e=>(by cases e;exact hXb _ b hj X7 hb.2),fun i2 f2 hb2=> ?_⟩
     by_cases IG:i2=i∧f≤f2∧f2<f+ts.length
     ·rw[aR IG] at hb2
      have:=(hXd X7 _ b hj hb.2).2 _ au hb2.2;omega
     ·rw[aJ IG] at hb2
      exact absurd (k.qh X7 i2 f2 b hb2).1 (hXd X7 _ b hj hb.2).1
    ·rw[aJ hr] at hb
     obtain⟨d1,d2,d3⟩:=k.qh X7 i' f' b hb;refine⟨.inl d1,d2,fun i2 f2 hb2=> ?_⟩
     by_cases IG:i2=i∧f≤f2∧f2<f+ts.length
     ·rw[aR IG] at hb2
      exact absurd d1 (hXd X7 _ b au hb2.2).1
     ·rw[aJ IG] at hb2
      exact d3 i2 f2 hb2
  ·intro i' f' tc ht
   rcases CL hrow hf ht with⟨rfl,a,b',hc⟩|⟨hn',hc⟩
   ·rw[aR ⟨rfl,a,b'⟩]
    have hj:f'-f<vs.length:=by omega
    have hx:=hX (f'-f) tc vs[f'-f] hc (bC hj)
    have hv:vs.getD (f'-f) undef=vs[f'-f]:=by simp[List.getD,bC hj]
    rw[hv];refine(av.move hx (fun b hb=>⟨hb,JR b (hRd b hb).1 (hRd b hb).2⟩) fun hnx b hb=>JR b (hXs _ b au hb) (hXb _ b au (xy hnx) hb)).mono' fun hnx b hb=> ?_;rw[aR ⟨rfl,a,b'⟩];exact⟨xy hnx,hb⟩
   ·rw[aJ au]
    refine(av.move (hn i' f' tc hc) (fun b hb=>⟨hb,JR b (hRd b hb).1 (hRd b hb).2⟩) fun hnx b hb=> ?_).mono fun b hb=>by rw[aJ au];exact hb
    obtain⟨d1,d2,_⟩:=k.qh (xy hnx) i' f' b hb;exact JR b (hS b d1) (d2 ad rfl)
theorem av.inner {Rd S:Nat→Prop} {z n c:Nat} {rows:List (List TC)} {ad:Addr} (h:av w Rd .deep S (.sub z rows) (.slice (some ad) n c)) {i f:Nat} {tc:TC} (ht:zQ rows i f=some tc):
 ∃V1 T0,w.cell? (ad.add (i*z+f))=some V1∧av w Rd .deep T0 tc V1∧(∀k,T0 k→S k∧k≠ad.block)∧S ad.block∧
  ∀(w':World) (tc':TC) (T1:Nat→Prop),av w' Rd .deep T1 tc' V1→(∀k,S k→ ¬T0 k→w'.heap[k]?=w.heap[k]?)→(∀k,T1 k→T0 k∨ ¬S k)→
   av w' Rd .deep (fun k=>(S k∧ ¬T0 k)∨T1 k) (.sub z (r7 rows i f [tc'])) (.slice (some ad) n c):=by
 cases h with
 |sub _ _ _ _ _ _ u T k hn=>
  obtain⟨row,hrow,hfr⟩: ∃row,rows[i]?=some row∧row[f]?=some tc:=by
   unfold zQ at ht
   cases hr:rows[i]? with
   |none=>rw[hr] at ht;cases ht
   |some row=>rw[hr] at ht;exact⟨row,rfl,ht⟩
  have hf:f+1≤row.length:=(List.getElem?_eq_some_iff.1 hfr).1;obtain⟨hSb,wH,hall⟩:=(k.own bZ).2 ad rfl;have hT0: ∀b,T i f b→S b∧b≠ad.block:=fun b hb=>⟨(k.qh rfl i f b hb).1,(k.qh rfl i f b hb).2.1 ad rfl⟩;refine⟨u i f,T i f,k.cell ad rfl i f tc ht,hn i f tc ht,hT0,hSb,fun w' tc' T1 h1 hsame hT1=> ?_⟩;have TF:w'.heap[ad.block]?=w.heap[ad.block]?:=hsame _ hSb fun hb=>(hT0 _ hb).2 rfl;have key:=av.sub (w:=w') (R:=Rd) .deep (fun b=>(S b∧ ¬T i f b)∨T1 b) z (r7 rows i f [tc']) (some ad) c u (fun i' f' b=>if i'=i∧f'=f then T1 b else T i' f' b) ?_ ?_
  ·rw[mo] at key;exact key
  ·refine⟨by rw[mo];exact k.len,k.cap,k.z0,Kh k.width hrow hf,fun _=>⟨ad,rfl⟩,?_,fun e=>(by cases e),fun _=>⟨fun e=>(by cases e),?_⟩,fun hm h1z ad' e i=>(by cases e;rw[nc (w:=w) (a:=⟨ad.block,i,none⟩) TF];exact k.soft bZ h1z ad rfl i),?_⟩
   ·intro ad' e i' f' t' ht'
    cases e
    rw[gT (w:=w) (by rw[cR];exact TF)];rcases CL hrow hf ht' with⟨rfl,a,b,hc⟩|⟨_,hc⟩
    ·have:f'=f:=by simp at b;omega
     subst this;exact k.cell ad rfl _ _ tc ht
    ·exact k.cell ad rfl i' f' t' hc
   ·intro ad' e
    cases e
    refine⟨.inl ⟨hSb,fun hb=>(hT0 _ hb).2 rfl⟩,wH,fun j hj=> ?_⟩;obtain⟨⟨x,hx⟩,hfz⟩:=hall j hj;exact⟨⟨x,by rw[gT (w:=w) (by exact TF)];exact hx⟩,by rw[nc (w:=w) (by exact TF)];exact hfz⟩
   ·intro _ i' f' b hb
    by_cases hr:i'=i∧f'=f
    ·rw[aR hr] at hb
     have hne:b≠ad.block:=fun e=>by
      subst e;rcases hT1 _ hb with h|h
      ·exact(hT0 _ h).2 rfl
      ·exact h hSb
     refine⟨.inr hb,fun ad' e=>(by cases e;exact hne),fun i2 f2 hb2=> ?_⟩
     by_cases IG:i2=i∧f2=f
     ·exact⟨IG.1.trans hr.1.symm,IG.2.trans hr.2.symm⟩
     ·rw[aJ IG] at hb2
      rcases hT1 _ hb with h|h
      ·have:=(k.qh rfl i2 f2 b hb2).2.2 i f h
       exact absurd ⟨this.1.symm,this.2.symm⟩ IG
      ·exact absurd (k.qh rfl i2 f2 b hb2).1 h
    ·rw[aJ hr] at hb
     obtain⟨d1,d2,d3⟩:=k.qh rfl i' f' b hb;refine⟨.inl ⟨d1,fun hb0=>hr (by have:=d3 i f hb0;exact⟨this.1.symm,this.2.symm⟩)⟩,d2,fun i2 f2 hb2=> ?_⟩
     by_cases IG:i2=i∧f2=f
     ·rw[aR IG] at hb2
      rcases hT1 _ hb2 with h|h
      ·have:=d3 i f h
       exact absurd ⟨this.1.symm,this.2.symm⟩ hr
      ·exact absurd d1 h
     ·rw[aJ IG] at hb2
      exact d3 i2 f2 hb2
  ·intro i' f' t' ht'
   rcases CL hrow hf ht' with⟨rfl,a,b,hc⟩|⟨hn',hc⟩
   ·have:f'=f:=by simp at b;omega
    subst this;simp at hc;subst hc
    exact h1.mono fun b hb=>by rw[aR ⟨rfl,rfl⟩];exact hb
   ·have hr: ¬(i'=i∧f'=f):=by simp at hn';omega
    refine(av.adj (hn i' f' t' hc) fun b hb=> ?_).mono fun b hb=>by rw[aJ hr];exact hb
    obtain⟨d1,d2,d3⟩:=k.qh rfl i' f' b hb;exact hsame b d1 fun hb0=>hr (by have:=d3 i f hb0;exact⟨this.1.symm,this.2.symm⟩)
end Go.T
namespace Go.T
variable {F : Nat → Prop} {A : Arg} {w0 w w' : World} {φ φ' : Fp} {st st' eM qf : TS} {tm IF : Array Value} {C : mG}
variable {R : Type} {cf : Cf} {lp : Lp} {Q : R → Prop}
structure uZ (F:Nat→Prop) (w0 w:World) (φ:Fp) (st:TS) (k:Nat):Prop where
 lt:k<w.heap.size
 new:w0.heap.size≤k∨F k
 I: ¬φ.I k
 S: ∀o,aT st.ob o→ ¬φ.S o k
 B: ∀b cs,an b st.bx=some cs→(φ.β b).block≠k
theorem bw.pW (h:bw F A w0 φ st tm w) {o k:Nat} (ho:aT st.ob o) (hk:φ.S o k) {b:Nat} {cs:List CE} (hb:an b st.bx=some cs):(φ.β b).block≠k:=fun e=>by
 subst e
 cases HW:Bl b with
 |true=>exact(h.sep.box b cs hb HW).2.1 o ho hk
 |false=>
  have h1:=h.sep.oY _ ((h.sep.spot b cs hb).2.2 HW);rcases (h.sep.fresh o _ ho hk).2 with h3|h3
  ·omega
  ·exact h1.2 h3
theorem bw.free (h:bw F A w0 φ st tm w) (hs:fD st' st) {k:Nat} (hk: ∃o,aT st.ob o∧ ¬aT st'.ob o∧φ.S o k):uZ F w0 w φ st' k:=by
 obtain⟨o,a1,a2,a3⟩:=hk
 exact⟨(h.sep.fresh o k a1 a3).1,(h.sep.fresh o k a1 a3).2,h.sep.read o k a1 a3,fun o' ho' hk=>by
  have:=h.sep.apart o o' k a1 (hs.dom ho') a3 hk
  subst this;exact a2 ho',fun b cs hb=>by
  obtain⟨cs0,c0,_⟩:=hs.bx b cs hb
  exact h.pW a1 a3 c0⟩
theorem YR (h:bw F A w0 φ st tm w) (h1:bw F A w0 φ eM tm w) {dV:List It} {X:Nat→Nat→Prop} {Zp:Nat→Prop} (p:nP w φ st eM dV X Zp) {r:Nat} {B b':OB} (hr:an r eM.ob=some B) (hz:b'.z=B.z) (hl:b'.rows.length=B.rows.length)
 {Zt Xr:Nat→Prop} {gb off:Nat} {vs:List Value} (hg:φ.S r gb) (hXr: ∀k,Xr k→ ¬Zt k∧(φ.S r k∨ ∃j,j<dV.length∧X j k)) (hZt: ∀k,Zt k→Zp k∨φ.S r k)
 (hc:av (w.setCells gb off vs) (fun k=>φ.I k∨Zt k) b'.m Xr (.sub b'.z b'.rows) (φ.V r)):Rel F A w0 (wJ [(r,b')] eM) tm (w.setCells gb off vs):=by
 have hin:aT eM.ob r:=⟨_,hr⟩;have hsize:=(ni gb vs off w).2.2.2
 have lookW: ∀{o b},an o [(r,b')]=some b→o=r∧b=b':=fun {o b} ho=>by
  simp only[an] at ho
  cases hb:Nat.beq r o with
  |true=>rw[hb] at ho;cases ho;exact⟨(jw hb).symm,rfl⟩
  |false=>rw[hb] at ho;cases ho
 have neW: ∀{o},an o [(r,b')]=none→o≠r:=fun {o} ho e=>by subst e;simp[an] at ho
 have frS: ∀{k},φ.S r k→k<w.heap.size∧(w0.heap.size≤k∨F k)∧ ¬φ.I k∧(∀d,aT eM.ob d→an d [(r,b')]=none→ ¬φ.S d k)∧ ∀b cs,an b eM.bx=some cs→(φ.β b).block≠k:=fun {k} hk=>
  ⟨(h1.sep.fresh r k hin hk).1,(h1.sep.fresh r k hin hk).2,h1.sep.read r k hin hk,fun d hd hn hk'=>neW hn (h1.sep.apart d r k hd hin hk' hk),fun b cs hb=>h1.pW hin hk hb⟩
 refine⟨_,h1.wrote (w':=w.setCells gb off vs) [(r,b')] (fun _ k=>Xr k) Zt (fun k=>k=gb) (h1.frm.setCells (frS hg).2.1) (by rw[hsize];exact cL _) (fun k hk hn=>gV _ _ _ _ hk hn)
  (fun k e=>by subst e;exact(frS hg).2.1) (fun k e=>by subst e;exact(frS hg).2.2.1) (fun k o e ho hn=>by subst e;exact(frS hg).2.2.2.1 o ho hn) (fun b cs hb e=>(frS hg).2.2.2.2 b cs hb e) (fun o b ho=> ?_) (fun k hk=> ?_)⟩
 ·obtain⟨rfl,rfl⟩:=lookW ho
  refine⟨B,hr,hz,hl,hc,fun k hk=> ?_⟩;obtain⟨x1,x2⟩:=hXr k hk;rcases x2 with x2|⟨j,hj,x2⟩
  ·obtain⟨f1,f2,f3,f4,f5⟩:=frS x2
   exact⟨by rw[hsize];exact f1,f2,f3,x1,f4,fun d b hb _=>(lookW hb).1,fun b cs hb _=>f5 b cs hb⟩
  ·have fr:=h.free p.sub (p.src j k hj x2).2
   exact⟨by rw[hsize];exact fr.lt,fr.new,fr.I,x1,fun d hd _=>fr.S d hd,fun d b hb _=>(lookW hb).1,fun b cs hb _=>fr.B b cs hb⟩
 ·rcases hZt k hk with hz|hz
  ·have fr:=h.free p.sub (p.srcZ k hz)
   exact⟨by rw[hsize];exact fr.lt,fr.new.elim .inl fun hF=> .inr (.inl hF),fun d hd _=>fr.S d hd,fun b cs hb _=>fr.B b cs hb⟩
  ·obtain⟨f1,f2,f3,f4,f5⟩:=frS hz
   exact⟨by rw[hsize];exact f1,f2.elim .inl fun hF=> .inr (.inl hF),f4,fun b cs hb _=>f5 b cs hb⟩
theorem IU {a:Act} (hT:ij C) (h:bw F A w0 φ st a.tmps w) {o:Oper} {t:TypeId} {q x:Operand} (ho:o.op= .store t q x) (mR:o.dst=none) {cs:List CE} (hkn:known (C.tt t)=true) (hcs:Hj st.ob w φ cs (a.eval x))
 (hsz:cs.length=(C.tt t).size) {r:Nat} {path:Option (Int×Nat)} {i:Int} {f:Nat} (hq:ua C st 0 q= .er r path i f) {K:TS→Ev R} (hk:(JW r path i f cs st K).holds cf lp Q):Did C F A w0 φ st o a w K cf lp Q:=by
 have hqv:=fC hT h 0 q;rw[hq] at hqv;obtain⟨b,hb,hi,ad,n,c,hV,ajf⟩:=hqv;unfold JW at hk
 split at hk
 ·rename_i ts eM d1 hab
  split at hk
  ·rename_i d z rows FD
   have vlen:(a.eval x).cells.toList.length=cs.length:=by simpa using hcs.1
   have hce: ∀(j:Nat) (e:CE),cs[j]?=some e→ ∃v,(a.eval x).cells.toList[j]?=some v∧ek st.ob w φ e v:=fun j e he=>by
    obtain⟨y,y1,_,y3⟩:=hcs.2 j e he;exact⟨y,by simpa using y1,y3⟩
   have fin: ∀{ad':Addr} {b':OB},a.eval q= .pointer (some ad')→ad'.spot=none→(∀j,j<(a.eval x).cells.size→(w.cell? (ad'.add j)).isSome=true∧w.frozen? (ad'.add j)=false)→(∀y∈(a.eval x).cells.toList,y.oneCell'=true)→φ.S r ad'.block→
    Rel F A w0 (wJ [(r,b')] eM) a.tmps (w.setCells ad'.block ad'.off (a.eval x).cells.toList)→(K (wJ [(r,b')] eM)).holds cf lp Q→Did C F A w0 φ st o a w K cf lp Q:=fun {ad' b'} hv hs hc h1 hS zu hk=>by
    have hrun:=Kg (w:=w) (hT t hkn) hs (v:=a.eval x) (by rw[hcs.1,hsz]) h1 hc;refine⟨.skip,undef,_,_,?_,.inr ⟨rfl,rfl⟩,by rw[mR];exact zu,hk,by rw[(ni _ _ _ _).2.2.2];exact cL _,fun k hk hnw=> ?_⟩
    ·unfold execOp
     rw[ho];simp only[Sem.run_bind,hv,hrun,Result.andThen]
     rfl
    ·refine gV _ _ _ _ hk fun e=>hnw (.inr ⟨r,?_,⟨b,hb⟩,by rw[e];exact hS⟩)
     unfold writes;rw[ho];simp only[hq];exact .head _
   have one: ∀{M:Mode} {X:Nat→Nat→Prop} {Z:Nat→Prop},ts.length=cs.length→nP w φ st eM (fy M ts (a.eval x).cells.toList) X Z→ ∀y∈(a.eval x).cells.toList,y.oneCell'=true:=fun {M X Z} hl p y hy=>by
    obtain⟨j,hj,rfl⟩:=List.mem_iff_getElem.1 hy;exact sM (p.ok j _ (pN (bC au) (bC hj)))
   cases path with
   |none=>
    simp only at hk;obtain⟨row,hrow,hk⟩:=hk;obtain⟨_,hrow⟩:=sL hrow;simp only at hk
    split at hk
    ·rename_i hle
     have hle:=tX hle
     obtain⟨h1,hl,hsub,os,tk⟩:=Ho (if d&&d1 then .deep else .snap) cs st _ ts eM d1 h (fD.refl _) vlen hce (by
      cases hd:d&&d1 with
      |true=>simp only[dY] at hd;exact .inr ⟨hd.2,rfl⟩
      |false=>exact .inl rfl) hab
     obtain⟨X,Zp,p⟩:=tk.parts h;have:=hsub.ob r _ FD;rw[hb] at this
     cases this
     have hO:=h1.obj r _ FD;unfold o7 at hO;rw[hV] at hO;have hin:aT eM.ob r:=⟨_,FD⟩;have hlen:(fy (if(d&&d1)=true then Mode.deep else .snap) ts (a.eval x).cells.toList).length=ts.length:=j9 au;have itm: ∀(j:Nat) (tc:TC) (v:Value),ts[j]?=some tc→(a.eval x).cells.toList[j]?=some v→av w (fun k=>φ.I k∨Zp k) (if(d&&d1)=true then Mode.deep else .snap) (X j) tc v:=fun j tc v e1 e2=>p.ok j _ (pN e1 e2);have Tt:a.eval q= .pointer (some (ad.add (i.toNat*z+f))):=ajf
     obtain⟨Zt,Sr,g1,g2,g3,g4,g5⟩: ∃Zt Sr:Nat→Prop,av w (fun k=>φ.I k∨Zt k) (OB.m ⟨d&&d1,z,setRow rows i f ts⟩) Sr (.sub z rows) (.slice (some ad) n c)∧(∀k,Sr k→φ.S r k∧ ¬Zt k)∧(∀k,Zt k→(Zp k∨φ.S r k)∧k≠ad.block)∧
      (∀(j:Nat) (tc:TC) (v:Value),ts[j]?=some tc→(a.eval x).cells.toList[j]?=some v→av w (fun k=>φ.I k∨Zt k) (OB.m ⟨d&&d1,z,setRow rows i f ts⟩).nx (X j) tc v)∧((d&&d1)=true→ ∀k,Zt k→Zp k):=by
      have adS:φ.S r ad.block:=by
       cases hO with
       |sub _ _ _ _ _ _ u T k hn=>exact(k.own (by unfold OB.m;split<;>simp)).2 ad rfl|>.1
      have zpn: ∀k,Zp k→k≠ad.block:=fun k hk e=>(h.free p.sub (p.srcZ k hk)).S r hin (by rw[e];exact adS)
      cases hd:d&&d1 with
      |true=>
       rw[hd] at itm
       have hdd:d=true:=by simp only[dY] at hd;exact hd.1
       subst hdd;refine⟨Zp,φ.S r,hO.qm fun k hk=> .inl hk,fun k hk=>⟨hk,fun hz=>(h.free p.sub (p.srcZ k hz)).S r hin hk⟩,fun k hk=>⟨.inl hk,zpn k hk⟩,itm,fun _ k hk=>hk⟩
      |false=>
       rw[hd] at itm;refine⟨fun k=>Zp k∨(φ.S r k∧ ¬Q7 .top (.slice (some ad) n c) (φ.S r) k),Q7 .top (.slice (some ad) n c) (φ.S r),?_,fun k hk=>⟨hk.1,fun hz=> ?_⟩,fun k hk=> ?_,fun j tc v e1 e2=> ?_,fun e=>by cases e⟩
       ·exact hO.out (m:= .top) (by unfold OB.m;split<;>simp) (fun e=>by cases e) (fun k hk=> .inl hk) fun k hk hn=> .inr (.inr ⟨hk,hn⟩)
       ·rcases hz with hz|hz
        ·exact(h.free p.sub (p.srcZ k hz)).S r hin hk.1
        ·exact hz.2 hk
       ·rcases hk with hk|hk
        ·exact⟨.inl hk,zpn k hk⟩
        ·exact⟨.inr hk.1,fun e=>hk.2 ⟨hk.1,ad,n,c,rfl,e⟩⟩
       ·exact(itm j tc v e1 e2).rm (S':=X j) fun k hk=>hk.elim .inl fun h=> .inr (.inl h)
     obtain⟨ps,pS,pt,pc⟩:=g1.put (by unfold OB.m;split<;>simp) hrow hle (vs:=(a.eval x).cells.toList) au (one hl p) g4 (fun X7 j k hj hk=>by
      obtain⟨s1,s2⟩:=p.src j k (by rw[hlen];exact hj) hk
      exact⟨fun hS=>(h.free p.sub s2).S r hin (g2 k hS).1,fun j' hj' hk'=>p.apart _ _ k (by rw[hlen];exact hj') (by rw[hlen];exact hj) hk' hk⟩)
      (fun k hk=>by
        rcases hk with hk|hk
        ·refine⟨(h.sep.ro k hk).1,fun e=> ?_⟩
         have adS:φ.S r ad.block:=by
          cases hO with
          |sub _ _ _ _ _ _ u T k hn=>exact(k.own (by unfold OB.m;split<;>simp)).2 ad rfl|>.1
         exact h1.sep.read r _ hin adS (by rw[←e];exact hk)
        ·refine⟨?_,(g3 k hk).2⟩
         rcases (g3 k hk).1 with hz|hz
         ·exact(h.free p.sub (p.srcZ k hz)).lt
         ·exact(h1.sep.fresh r k hin hz).1)
      (fun k hk=>(h1.sep.fresh r k hin (g2 k hk).1).1) (fun j k hj hk=>(h.free p.sub (p.src j k (by rw[hlen];exact hj) hk).2).lt)
     refine fin Tt (FU _ ps) (fun j hj=>by rw[Addr.add_add];exact pt j (by simpa using hj)) (one hl p) (by rw[cR];exact(g2 _ pS).1) ?_ hk;rw[cR,xA _ ps];refine YR h h1 p FD (b':=⟨d&&d1,z,setRow rows i f ts⟩) rfl (by simp only[vl,mo]) (g2 _ pS).1 (Zt:=Zt) (Xr:=fun k=>Sr k∨((OB.m ⟨d&&d1,z,setRow rows i f ts⟩)= .deep∧ ∃j,j<ts.length∧X j k)) (fun k hk=> ?_) (fun k hk=>(g3 k hk).1) ?_
     ·rcases hk with hk|⟨X7,j,hj,hk⟩
      ·exact⟨(g2 k hk).2,.inl (g2 k hk).1⟩
      ·refine⟨fun hz=> ?_,.inr ⟨j,by rw[hlen];exact hj,hk⟩⟩
       have hdd:(d&&d1)=true:=by
        unfold OB.m at X7
        cases hd:d&&d1 with
        |true=>rfl
        |false=>simp[hd] at X7
       exact(p.src j k (by rw[hlen];exact hj) hk).1 (g5 hdd k hz)
     ·show av _ _ (OB.m ⟨d&&d1,z,setRow rows i f ts⟩) _ (.sub z (setRow rows i f ts)) _
      rw[hV,vl];exact pc
    ·exact hk.elim
   |some pq=>
    obtain⟨i0,f0⟩:=pq;simp only at hk
    split at hk
    ·obtain⟨row0,agT,hk⟩:=hk
     obtain⟨_,agT⟩:=sL agT;simp only at hk
     split at hk
     ·rename_i z1 r5 hf0
      obtain⟨row,hrow,hk⟩:=hk;obtain⟨_,hrow⟩:=sL hrow;simp only at hk
      split at hk
      ·rename_i hle
       have hle:=tX hle;obtain⟨h1,hl,hsub,os,tk⟩:=Ho .deep cs st _ ts eM true h (fD.refl _) vlen hce (.inr ⟨rfl,rfl⟩) hab;obtain⟨X,Zp,p⟩:=tk.parts h;have:=hsub.ob r _ FD;rw[hb] at this
       cases this
       have hO:=h1.obj r _ FD;unfold o7 at hO;rw[hV] at hO;have hin:aT eM.ob r:=⟨_,FD⟩;have hlen:(fy Mode.deep ts (a.eval x).cells.toList).length=ts.length:=j9 au;obtain⟨_,z1',rows1',ht1,ad1,n1,c1,hcell,hpv⟩:=ajf;have ht0:zQ rows i0.toNat f0=some (.sub z1 r5):=xB agT hf0;rw[ht0] at ht1
       cases ht1
       obtain⟨V1,T0,v1,v2,v3,v4,v5⟩:=av.inner (hO.qm (R':=fun k=>φ.I k∨Zp k) fun k hk=> .inl hk:av w (fun k=>φ.I k∨Zp k) .deep (φ.S r) (.sub z rows) (.slice (some ad) n c)) ht0
       have:V1= .slice (some ad1) n1 c1:=by have hh:=v1.symm.trans hcell;simpa using hh
       subst this;have XS: ∀j k,j<ts.length→X j k→ ¬φ.S r k:=fun j k hj hk=>(h.free p.sub (p.src j k (by rw[hlen];exact hj) hk).2).S r hin
       have ad1S:T0 ad1.block:=by
        cases v2 with
        |sub _ _ _ _ _ _ u T k hn=>exact(k.own bZ).2 ad1 rfl|>.1
       obtain⟨ps,pS,pt,pc⟩:=v2.put bZ hrow hle (vs:=(a.eval x).cells.toList) au (one hl p) (X:=X) (fun j tc v e1 e2=>p.ok j _ (pN e1 e2)) (fun _ j k hj hk=>
        ⟨fun hS=>XS j k hj hk (v3 k hS).1,fun j' hj' hk'=>p.apart _ _ k (by rw[hlen];exact hj') (by rw[hlen];exact hj) hk' hk⟩)
        (fun k hk=>by
          rcases hk with hk|hk
          ·exact⟨(h.sep.ro k hk).1,fun e=>h1.sep.read r _ hin (v3 _ ad1S).1 (by rw[←e];exact hk)⟩
          ·have fr:=h.free p.sub (p.srcZ k hk)
           exact⟨fr.lt,fun e=>fr.S r hin (by rw[e];exact(v3 _ ad1S).1)⟩)
        (fun k hk=>(h1.sep.fresh r k hin (v3 k hk).1).1) (fun j k hj hk=>(h.free p.sub (p.src j k (by rw[hlen];exact hj) hk).2).lt)
       have Tt:a.eval q= .pointer (some (ad1.add (i.toNat*z1+f))):=hpv;refine fin Tt (FU _ ps) (fun j hj=>by rw[Addr.add_add];exact pt j (by simpa using hj)) (one hl p) (by rw[cR];exact(v3 _ ad1S).1) ?_ hk;rw[cR,xA _ ps]
       have hnew:=v5 _ _ _ pc (fun k hk hn=>gV _ _ _ _ (h1.sep.fresh r k hin hk).1 fun e=>hn (by rw[e];exact ad1S)) (fun k hk=>by
        rcases hk with hk|⟨_,j,hj,hk⟩
        ·exact .inl hk
        ·exact .inr (XS j k hj hk))
       refine YR h h1 p FD (b':=⟨true,z,setRow rows i0 f0 [.sub z1 (setRow r5 i f ts)]⟩) rfl (by simp only[vl,mo]) (v3 _ ad1S).1 (Zt:=Zp) (Xr:=fun k=>(φ.S r k∧ ¬T0 k)∨(T0 k∨(Mode.deep= .deep∧ ∃j,j<ts.length∧X j k))) (fun k hk=> ?_) (fun k hk=> .inl hk) ?_
       ·rcases hk with hk|hk|⟨_,j,hj,hk⟩
        ·exact⟨fun hz=>(h.free p.sub (p.srcZ k hz)).S r hin hk.1,.inl hk.1⟩
        ·exact⟨fun hz=>(h.free p.sub (p.srcZ k hz)).S r hin (v3 k hk).1,.inl (v3 k hk).1⟩
        ·exact⟨(p.src j k (by rw[hlen];exact hj) hk).1,.inr ⟨j,by rw[hlen];exact hj,hk⟩⟩
       ·show av _ _ .deep _ (.sub z (setRow rows i0 f0 [.sub z1 (setRow r5 i f ts)])) _
        rw[hV,vl,vl];exact hnew
      ·exact hk.elim
     ·exact hk.elim
    ·exact hk.elim
  ·exact hk.elim
 ·exact hk.elim
theorem afa {a:Act} (hT:ij C) (h:bw F A w0 φ st a.tmps w) {o:Oper} {t:TypeId} {q x:Operand} (ho:o.op= .store t q x) {K:TS→Ev R} (hk:(ql C st o K).holds cf lp Q):Did C F A w0 φ st o a w K cf lp Q:=by
 unfold ql at hk;rw[ho] at hk;simp only at hk
 split at hk
 ·rename_i cs mR hkn hc
  have hcs:=vh (fC hT h t x) hc
  split at hk
  ·rename_i b off hsz hp
   split at hk
   ·rename_i st' hs
    exact YQ hT h ho mR hkn hcs (jw hsz) hp hs hk
   ·exact hk.elim
  ·rename_i r i f hsz hp
   split at hk
   ·have hqv:=fC hT h 0 q
    rw[hp] at hqv;obtain⟨b,hb,_⟩:=hqv;obtain⟨h',hce⟩:=h.Bq hb
    have anv:Hj (Bq r st).ob w (φ.WU r) (cs.map (QI r)) (a.eval x):=by
     refine⟨by rw[cq];exact hcs.1,fun j e he=> ?_⟩;rw[me] at he
     cases hj:cs[j]? with
     |none=>rw[hj] at he;cases he
     |some e0=>
      rw[hj] at he;simp only[nT,bq] at he;subst he;obtain⟨y,y1,y2,y3⟩:=hcs.2 j e0 hj;exact⟨y,y1,y2,hce _ _ y3⟩
    have X6:ua C (Bq r st) 0 q= .er r none i f:=by
     cases q with
     |tmp n=>
      have hp:st.get n= .er r none i f:=hp;show(Bq r st).get n=_;unfold T.Bq;rw[hb];simp only;rw[get_map _ _ _ rfl,hp]
      rfl
     |_=>exact hp
    obtain⟨nx,v,w',st',d1,d2,d3,d4,d5,d6⟩:=IU hT h' ho mR hkn anv (by rw[cq];exact jw hsz) X6 hk;refine⟨nx,v,w',st',d1,d2,d3,d4,d5,fun k hk hnw=>d6 k hk fun hw=>hnw ?_⟩
    have e1:writes C st o=[2*r]:=by unfold writes;rw[ho];simp only[hp]
    have e2:writes C (Bq r st) o=[2*r]:=by unfold writes;rw[ho];simp only[X6]
    rw[e1];rw[e2] at hw;rcases hw with⟨b',cs',hm,_⟩|⟨o',hm,_,hS⟩
    ·simp only[j6] at hm;omega
    ·simp only[j6] at hm
     have:o'=r:=by omega
     subst this;exact .inr ⟨o',.head _,⟨b,hb⟩,hS.1⟩
   ·exact IU hT h ho mR hkn hcs (jw hsz) hp hk
  ·rename_i r path i f hn hsz hp
   exact IU hT h ho mR hkn hcs (jw hsz) hp hk
  ·exact hk.elim
 ·exact hk.elim
end Go.T
namespace Go.T
variable {F : Nat → Prop} {A : Arg} {w0 w w' : World} {φ φ' : Fp} {st st' eM qf : TS} {tm IF : Array Value} {C : mG}
variable {R : Type} {cf : Cf} {lp : Lp} {Q : R → Prop}
theorem Ki (h0:bw F A w0 φ st tm w) (h:bw F A w0 φ st' tm w) {dp:Bool} {z:Nat} {rows:List (List TC)} {vs:List Value} {X:Nat→Nat→Prop} {Z:Nat→Prop} {d:Nat}
 (p:nP w φ st st' (fy (if dp then .deep else .snap) rows.flatten vs) X Z) (hz:0<z) (zp: ∀r∈rows,r.length=z) (hl:vs.length=rows.length*z) {c:Nat} (hc:rows.length≤c) (hcm:c≤maxLen)
 (g:nQ w w') (hlt:w.heap.size<w'.heap.size) (hcell: ∀(j:Nat) (v:Value),vs[j]?=some v→w'.cell? ⟨w.heap.size,j,none⟩=some v)
 (hall: ∀j,j<c*z→(∃x,w'.cell? ⟨w.heap.size,j,none⟩=some x)∧w'.frozen? ⟨w.heap.size,j,none⟩=false) (Tu:1<z→ ∀i,w'.frozen? ⟨w.heap.size,i,none⟩=false) (hd:d<tm.size):
 Rel F A w0 (zz d ⟨dp,z,rows⟩ st') (tm.setIfInBounds d (.slice (some ⟨w.heap.size,0,none⟩) rows.length c)) w':=by
 have hlen:(fy (if dp then Mode.deep else .snap) rows.flatten vs).length=rows.length*z:=by rw[j9 (by rw[dg zp,hl]),dg zp]
 exact ae8 h0 h p hz zp hl (ad:=⟨w.heap.size,0,none⟩) hc hcm rfl (h.frm.J3 g) g.size (fun k hk _=>g.block k hk) (G:=fun _=>False) (fun k hk=>hk.elim)
  (fun k hk=>⟨id,fun e=>by have:=(h0.free p.sub (p.srcZ k hk)).lt;rw[e] at this;simp at this⟩)
  (fun i k hi hk=>⟨id,fun e=>by have:=(h0.free p.sub (p.src i k (by rw[hlen];exact hi) hk).2).lt;rw[e] at this;simp at this⟩)
  (.inl ⟨cL _,hlt⟩) (fun j v hj=>by rw[add_lit,lG];exact hcell j v hj) (fun j hj=>by simp only[lG];exact hall j hj) Tu hd
theorem acs {z:Nat}: ∀(ps:List (Nat×Value)) (n:Nat) (cs:Array Value),(∀(j:Nat) p,ps[j]?=some p→p.1=n+j∧p.2.cells.size=z)→(n+ps.length)*z≤cs.size→
 ∃cs',Instr.fill (fun i=>some (i*z,z)) cs ps=some cs'∧cs'.size=cs.size∧(∀j,j<n*z→cs'[j]?=cs[j]?)∧ ∀j,j<ps.length*z→cs'[n*z+j]?=(ps.flatMap fun p=>p.2.cells.toList)[j]?
 |[],n,cs,_,_=>⟨cs,rfl,rfl,fun _ _=>rfl,fun j hj=>by simp at hj⟩
 |(i,v)::r,n,cs,hp,hle=>by
  obtain⟨h1,h2⟩:=hp 0 _ rfl;simp only[tW] at h1 h2;subst h1;simp only[gG] at hle
  have apq:i*z+z≤cs.size:=by
   have:(i+1)*z≤(i+(r.length+1))*z:=oH _ au;rw[rE] at this;omega
  obtain⟨g1,g2⟩:=LO (i*z) v.cells.toList 0 cs (by simp[h2];omega)
  obtain⟨cs',k1,k2,k3,k4⟩:=acs r (i+1) (v.cells.zipIdx.foldl (fun(cs:Array Value) (p:Value×Nat)=>cs.setIfInBounds (i*z+p.2) p.1) cs) (fun j p hj=>by
   obtain⟨a,b⟩:=hp (j+1) p (by simpa using hj)
   exact⟨by omega,b⟩) (by
   have e1:v.cells.zipIdx.foldl (fun(cs:Array Value) (p:Value×Nat)=>cs.setIfInBounds (i*z+p.2) p.1) cs=(v.cells.toList.zipIdx 0).foldl (fun(cs:Array Value) (p:Value×Nat)=>cs.setIfInBounds (i*z+p.2) p.1) cs:=by
    rw[←Array.foldl_toList,Array.toList_zipIdx]
   rw[e1,g1]
   have:i+1+r.length=i+(r.length+1):=by omega
   rw[this];exact hle)
  have e1:v.cells.zipIdx.foldl (fun(cs:Array Value) (p:Value×Nat)=>cs.setIfInBounds (i*z+p.2) p.1) cs=(v.cells.toList.zipIdx 0).foldl (fun(cs:Array Value) (p:Value×Nat)=>cs.setIfInBounds (i*z+p.2) p.1) cs:=by
   rw[←Array.foldl_toList,Array.toList_zipIdx]
  refine⟨cs',?_,by rw[k2,e1,g1],fun j hj=> ?_,fun j hj=> ?_⟩
  ·unfold Instr.fill
   simp only[h2,ne_eq,not_true_eq_false,decide_false,HZ,decide_eq_true_eq];rw[aJ au];exact k1
  ·rw[k3 j (by rw[rE];omega),e1,g2 j,aJ au]
  ·rw[List.flatMap_cons]
   by_cases hjz:j<z
   ·rw[k3 _ (by rw[rE];omega),e1,g2,aR (by simp[h2];omega),kC (by simp[h2];omega)]
    simp
   ·rw[m7 (by simp[h2];omega)]
    have:=k4 (j-z) (by simp only[gG,rE] at hj;omega);rw[show(i+1)*z+(j-z)=i*z+j by rw[rE];omega] at this;rw[this];simp[h2]
theorem Q8 {P:Program} {t e:TypeId} {i:TypeInfo} {zv:Value} (ht:P.underlying t=some (.slice e)) (hi:P.info? e=some i) (hz:i.zero=some zv) (parts:Array (Nat×Value)) {len:Nat}
 (hp: ∀(j:Nat) p,parts.toList[j]?=some p→p.1=j∧p.2.cells.size=i.size) (hl:parts.size=len) (hle:len*i.size≤16777216):
 ∃cells,(Instr.buildSlice t len parts).run P w= .ok (.slice (some ⟨w.heap.size,0,none⟩) len len) (w.alloc (.cells cells e))∧cells.size=len*i.size∧ ∀j,j<len*i.size→cells[j]?=(parts.toList.flatMap fun p=>p.2.cells.toList)[j]?:=by
 have alL: ¬(len*i.size>16777216):=by omega
 obtain⟨cs',k1,k2,_,k4⟩:=acs (z:=i.size) parts.toList 0 ((Array.range (len*i.size)).map ((if len*i.size=0 then #[] else zv.cells)[· % (if len*i.size=0 then #[] else zv.cells).size]!)) (fun j p hj=>by rw[lG];exact hp j p hj) (by simp[hl]);refine⟨cs',?_,by rw[k2];simp,fun j hj=> ?_⟩
 ·unfold Instr.buildSlice
  by_cases h0:len*i.size=0
  ·have hr: ∀f:Nat→Value,(Array.range 0).map f= #[]:=fun f=>Array.eq_empty_of_size_eq_zero bZ
   simp only[h0,if_true,hr] at k1;simp[run_underlying ht,sizeOf,typeInfo,hi,alL,h0,hr,k1,newRow]
  ·simp only[h0,if_false] at k1
   simp[run_underlying ht,sizeOf,typeInfo,zeroValue,hi,hz,alL,h0,k1,newRow]
 ·have:=k4 j (by rw[yf,hl];exact hj)
  simpa using this
theorem VF (hT:ij C) {a:Act} {ty:TypeId} (M:Mode): ∀(l:List (Nat×Operand)) (n:Nat) (st:TS) (rs:List (List TC)) (st':TS) (dp:Bool),bw F A w0 φ st a.tmps w→(M= .snap∨dp=true∧M= .deep)→rowsOf C st ty l n=some (rs,st',dp)→
 bw F A w0 φ st' a.tmps w∧rs.length=l.length∧(∀r∈rs,r.length=(C.tt ty).size)∧(∀(j:Nat) p,l[j]?=some p→p.1=n+j∧(a.eval p.2).cells.size=(C.tt ty).size)∧
  ∃X Z,nP w φ st st' (fy M rs.flatten (l.flatMap fun p=>(a.eval p.2).cells.toList)) X Z
 |[],n,st,rs,st',dp,h,hM,hr=>by
  cases hr
  exact⟨h,rfl,fun r hr=>(by cases hr),fun j p hj=>by simp at hj,_,_,nP.nil _⟩
 |(i,x)::l,n,st,rs,st',dp,h,hM,hr=>by
  simp only[rowsOf] at hr
  split at hr
  ·rename_i cs hin hcs
   have hin:=jw hin;have hok:=vh (fC hT h ty x) hcs
   split at hr
   ·rename_i cs' eM d1 hsz hab
    have hsz:=jw hsz
    split at hr
    ·rename_i rs2 qf d2 IG
     cases hr
     have vlen:(a.eval x).cells.toList.length=cs.length:=by simpa using hok.1
     obtain⟨h1,Ly,JQ,os,tk⟩:=Ho M cs st (a.eval x).cells.toList cs' eM d1 h (fD.refl _) vlen (fun j e he=>by
      obtain⟨y,y1,_,y3⟩:=hok.2 j e he
      exact⟨y,by simpa using y1,y3⟩) (by
      rcases hM with hM|⟨hd,hM⟩
      ·exact .inl hM
      ·simp only[dY] at hd;exact .inr ⟨hd.1,hM⟩) hab
     obtain⟨X1,Z1,p1⟩:=tk.parts h
     obtain⟨h2,Bn,Vm,X8,X2,Z2,p2⟩:=VF hT M l (n+1) eM rs2 _ d2 h1 (by
      rcases hM with hM|⟨hd,hM⟩
      ·exact .inl hM
      ·simp only[dY] at hd;exact .inr ⟨hd.2,hM⟩) IG
     have key:=p1.app h p2;rw[←A5 au] at key;refine⟨h2,by simp[Bn],fun r hr=> ?_,fun j p hj=> ?_,_,_,key⟩
     ·rcases dJ.1 hr with rfl|hr
      ·rw[Ly,hsz]
      ·exact Vm r hr
     ·cases j with
      |zero=>simp only[fu,bq] at hj;subst hj;exact⟨hin,by rw[hok.1,hsz]⟩
      |succ j=>
       obtain⟨a1,a2⟩:=X8 j p (by simpa using hj);exact⟨by omega,a2⟩
    ·cases hr
   ·cases hr
  ·cases hr
theorem TO (hT:ij C) {a:Act} (h:bw F A w0 φ st a.tmps w) {o:Oper} {t:TypeId} {n:Nat} {ps:Array (Nat×Operand)} (ho:o.op= .buildSlice t n ps) {K:TS→Ev R} (hd: ∀d,o.dst=some d→d<a.tmps.size) (hk:(ql C st o K).holds cf lp Q):
 Did C F A w0 φ st o a w K cf lp Q:=by
 unfold ql at hk;rw[ho] at hk;simp only at hk
 split at hk
 ·rename_i d e mR he
  split at hk
  ·rename_i rs st' dp hb hr
   simp only[dY] at hb;obtain⟨⟨hn,hle⟩,Yg⟩:=hb;have hn:=jw hn;have hle:=tX hle;obtain⟨hkn,hnp⟩:=Bx Yg;obtain⟨i,zv,g1,g2,g3,_⟩:=WM (w:=w) (φ:=φ) hT hkn hnp (ob:=st.ob);obtain⟨h1,hl,hw,hp,X,Z,p⟩:=VF hT (if dp then .deep else .snap) ps.toList 0 st rs st' dp h (by cases dp<;>simp) hr
   have Lv:rs.length=n:=by rw[hl,hn];simp
   obtain⟨cells,c1,c2,c3⟩:=Q8 (w:=w) (xY hT he).1 g1 g3 (ps.map fun(i,x)=>(i,a.eval x)) (len:=n) (fun j q hj=>by
    rw[Array.toList_map,me] at hj
    cases hq:ps.toList[j]? with
    |none=>rw[hq] at hj;cases hj
    |some r=>
     rw[hq] at hj;simp only[nT,bq] at hj;subst hj;obtain⟨a1,a2⟩:=hp j r hq
     exact⟨by rw[a1,lG],by rw[g2];exact a2⟩) (by simp[hn]) (by rw[g2];exact hle)
   have hvl:(ps.toList.flatMap fun p=>(a.eval p.2).cells.toList).length=rs.length*(C.tt e).size:=by
    have: ∀(l:List (Nat×Operand)),(∀p∈l,(a.eval p.2).cells.size=(C.tt e).size)→(l.flatMap fun p=>(a.eval p.2).cells.toList).length=l.length*(C.tt e).size:=by
     intro l
     induction l with
     |nil=>intro _;simp
     |cons x r ih=>
      intro hx;rw[List.flatMap_cons,ct,ih fun p hp=>hx p (.tail _ hp),yf,hx x (.head _),gG,rE];omega
    rw[this _ fun p X6=> ?_,hl];obtain⟨j,hj,rfl⟩:=List.mem_iff_getElem.1 X6;exact(hp j _ (bC hj)).2
   have hfm:((ps.map fun(i,x)=>(i,a.eval x)).toList.flatMap fun p=>p.2.cells.toList)=ps.toList.flatMap fun p=>(a.eval p.2).cells.toList:=by
    rw[Array.toList_map,List.flatMap_map]
   have zu:=Ki (w':=w.alloc (.cells cells e)) (d:=d) h h1 p (hT e hkn).pos hw hvl (c:=n) au (by
    have hpos:=(hT e hkn).pos;have:n≤n*(C.tt e).size:=Nat.le_mul_of_pos_right n hpos
    simp only[maxLen];omega) (nQ.alloc w _) bZ (fun j v hj=>by
    rw[uj,c3 j (by
     have:=(List.getElem?_eq_some_iff.1 hj).1;rw[hvl,Lv] at this
     rw[g2];exact this),hfm]
    exact hj) (fun j hj=>⟨⟨cells[j]'(by rw[c2,g2];exact hj),by rw[uj];exact w8 _⟩,mm _ _ _ _⟩) (fun _ i=>mm _ _ _ _) (hd d mR)
   rw[Lv] at zu;refine⟨.value _,_,_,_,?_,.inl rfl,by rw[mR];exact zu,hk,by simp,fun k hk _=>(nQ.alloc w _).block k hk⟩;unfold execOp;rw[ho];simp only[Sem.run_bind,c1,Result.andThen]
   rfl
  ·exact hk.elim
 ·exact hk.elim
theorem Qp {z:Nat} {rows:List (List TC)} (hz:0<z) (zp: ∀r∈rows,r.length=z) {p:Nat} {tc:TC} (hp:rows.flatten[p]?=some tc):zQ rows (p/z) (p % z)=some tc:=by
 have hfl:=dg zp
 have hlt:p<rows.length*z:=by rw[←hfl];exact(List.getElem?_eq_some_iff.1 hp).1
 have hi:p/z<rows.length:=Nat.div_lt_of_lt_mul (by rw[Nat.mul_comm];exact hlt);have hrl:=zp _ (tV hi)
 have hf:p % z<(rows[p/z]).length:=by rw[hrl];exact Nat.mod_lt _ hz
 have h1:zQ rows (p/z) (p % z)=some (rows[p/z][p % z]):=by simp[zQ,bC hi,bC hf]
 have h2:=(yt zp h1).1;rw[JT p z] at h2;rw[h1,←h2,hp]
theorem afb {Rd S:Nat→Prop} {m:Mode} {c:TC} (h:aaP c=true):av w Rd m S c (ahm c):=by
 cases c with
 |any=>cases h
 |sc v=>cases v<;>first|exact .sc _ _ _ trivial|cases h
 |sub z rows=>cases rows with
  |nil=>exact zV (tX h)
  |cons _ _=>cases h
attribute [local semireducible] cO qC uX fits in
theorem WW (hT:ij C) {a:Act} (h:bw F A w0 φ st a.tmps w) {o:Oper} {t:TypeId} {l c:Operand} (ho:o.op= .makeSlice t l c) {K:TS→Ev R} (hd: ∀d,o.dst=some d→d<a.tmps.size) (hk:(ql C st o K).holds cf lp Q):
 Did C F A w0 φ st o a w K cf lp Q:=by
 unfold ql at hk;rw[ho] at hk;simp only at hk
 split at hk
 ·rename_i d e n n' mR he hl hc
  have hk2:(match(AZ (C.tt e)&&cO n n'&&qC 0 n&&fits (uX n) (C.tt e).bytes) with|true=>K (zz d ⟨true,(C.tt e).size,List.replicate (uX n) (C.tt e).zero⟩ st)|false=> .fail:Ev R).holds cf lp Q:=hk;clear hk
  split at hk2
  ·rename_i hb
   simp only[dY] at hb;obtain⟨⟨⟨Yg,hnn⟩,h0⟩,hf⟩:=hb
   have hnn:n=n':=by simpa [cO] using hnn
   subst hnn
   have h0:0≤n:=by simpa [qC] using h0
   have hf:n.toNat*(C.tt e).bytes≤140737488355328∧n.toNat≤140737488355328:=by simpa [fits,uX] using hf
   obtain⟨hkn,hnp⟩:=Bx Yg;obtain⟨i,zv,g1,g2,g2b,g3,g4⟩:=(hT e hkn).info;obtain⟨z1,z2,z3,_⟩:=g4 hnp;obtain⟨kl,hkl⟩:=Bv (fC hT h 3 l) hl;obtain⟨kc,hkc⟩:=Bv (fC hT h 3 c) hc;have hpos:=(hT e hkn).pos
   have hzs:zv.cells.size=(C.tt e).size:=by rw[←yf,z1];simpa using z2
   have hby:(i.bytes:Int)*n≤281474976710656:=by
    have h1:=hf.1
    have e1:(i.bytes:Int)*n=((n.toNat*(C.tt e).bytes:Nat):Int):=by rw[g2b,Int.natCast_mul,Int.toNat_of_nonneg h0,Int.mul_comm]
    rw[e1];omega
   have hrun:=run_make (P:=C.P) w t e i zv (xY hT he).1 g1 g3 kl kc n n h0 (Int.le_refl _) hby au
   have hw: ∀r∈List.replicate (uX n) (C.tt e).zero,r.length=(C.tt e).size:=fun r hr=>by rw[List.eq_of_mem_replicate hr];exact z2
   have hlen:(List.replicate (uX n) (C.tt e).zero).length=n.toNat:=by simp[uX]
   have hvl:(madeCells zv.cells (n.toNat*i.size)).toList.length=(List.replicate (uX n) (C.tt e).zero).length*(C.tt e).size:=by rw[hlen];simp[madeCells,g2]
   have hval: ∀{j:Nat} {v:Value},(madeCells zv.cells (n.toNat*i.size)).toList[j]?=some v→zv.cells[j % (C.tt e).size]?=some v:=fun {j v} hj=>by
    have hlt:j<n.toNat*i.size:=by have:=(List.getElem?_eq_some_iff.1 hj).1;simpa [madeCells] using this
    simp[madeCells,hlt] at hj;have hm:j % zv.cells.size<zv.cells.size:=Nat.mod_lt _ (by rw[hzs];exact hpos);rw[getElem!_pos zv.cells _ hm] at hj;rw[←hj,←hzs,w8 hm]
   have p:nP w φ st st (fy (if true=true then .deep else .snap) (List.replicate (uX n) (C.tt e).zero).flatten (madeCells zv.cells (n.toNat*i.size)).toList) (fun _ _=>False) (fun _=>False):=by
    refine⟨fun j it hj=> ?_,fun _ _ _ hk=>hk.elim,fun _ hk=>hk.elim,fun _ _ _ _ _ hk=>hk.elim,fD.refl _⟩;obtain⟨tc,v,h1,h2,rfl⟩:=oN hj;have hat:=Qp hpos hw h1
    have Qg:(C.tt e).zero[j % (C.tt e).size]?=some tc:=by
     unfold zQ at hat
     cases hrow:(List.replicate (uX n) (C.tt e).zero)[j/(C.tt e).size]? with
     |none=>rw[hrow] at hat;cases hat
     |some row=>
      rw[hrow] at hat;rw[List.eq_of_mem_replicate (iV hrow)] at hat;exact hat
    have hv:=hval h2;rw[←QB,z1,me,Qg] at hv;simp only[nT,bq] at hv;subst hv;exact afb (List.all_eq_true.1 z3 tc (iV Qg))
   have zu:=Ki (w':=w.alloc (.cells (madeCells zv.cells (n.toNat*i.size)) e)) (d:=d) h h p hpos hw hvl (c:=n.toNat) (by rw[hlen];exact cL _) (by simp only[maxLen];omega) (nQ.alloc w _) bZ (fun j v hj=>by
    rw[uj];simpa using hj) (fun j hj=>⟨⟨_,by rw[uj];exact w8 (by rw[size_madeCells,g2];exact hj)⟩,mm _ _ _ _⟩) (fun _ i=>mm _ _ _ _) (hd d mR)
   rw[hlen] at zu;refine⟨.value _,_,_,_,?_,.inl rfl,by rw[mR];exact zu,hk2,by simp,fun k hk _=>(nQ.alloc w _).block k hk⟩;unfold execOp;rw[ho];simp only[hkl,hkc,Sem.run_bind,hrun,Result.andThen]
   rfl
  ·exact hk2.elim
 ·exact hk.elim
end Go.T
namespace Go.T
variable {F : Nat → Prop} {A : Arg} {w0 w w' : World} {φ φ' : Fp} {st st' sta eM qf : TS} {tm IF : Array Value} {C : mG}
variable {R : Type} {cf : Cf} {lp : Lp} {Q : R → Prop}
theorem VG (w:World) (arr:Array Value) (t:TypeId) (fr:Nat×Nat) (j:Nat):(w.alloc (.cells arr t fr)).cell? ⟨w.heap.size,j,none⟩=arr[j]?:=by
 unfold World.cell?;simp only[heap_alloc_new]
 rfl
theorem YS (w:World) (arr:Array Value) (t:TypeId) (fr:Nat×Nat) (j:Nat) (h:j<fr.1):(w.alloc (.cells arr t fr)).frozen? ⟨w.heap.size,j,none⟩=false:=by
 unfold World.frozen?;simp only[heap_alloc_new];obtain⟨a,b⟩:=fr;simp only at h ⊢;simp;omega
attribute [local semireducible] H7 in
theorem Q9 (s:ByteArray):H7 s=s.data.toList.map fun b=>[TC.sc (.int .u8 b.toNat)]:=rfl
theorem aa4 (s:ByteArray):(H7 s).flatten=s.data.toList.map fun b=>TC.sc (.int .u8 b.toNat):=by
 rw[Q9]
 induction s.data.toList with
 |nil=>rfl
 |cons b r ih=>simp only[List.map_cons,yh,ih];rfl
theorem qE (s:ByteArray):(H7 s).length=s.size:=by rw[Q9,cq,yf];rfl
theorem NH (s:ByteArray): ∀r∈H7 s,r.length=1:=fun r hr=>by
 rw[Q9] at hr;obtain⟨_,_,rfl⟩:=List.mem_map.1 hr
 rfl
theorem VH (s:ByteArray) (M:Mode) (st:TS):nP w φ st st (fy M (H7 s).flatten (byteCells s)) (fun _ _=>False) (fun _=>False):=by
 refine⟨fun j it hj=> ?_,fun _ _ _ hk=>hk.elim,fun _ hk=>hk.elim,fun _ _ _ _ _ hk=>hk.elim,fD.refl _⟩;obtain⟨tc,v,h1,h2,rfl⟩:=oN hj;rw[aa4,me] at h1;unfold byteCells at h2;rw[me] at h2
 cases hb:s.data.toList[j]? with
 |none=>rw[hb] at h1;cases h1
 |some b=>
  rw[hb] at h1 h2;simp only[nT,bq] at h1 h2;subst h1 h2;exact .sc _ _ _ trivial
attribute [local semireducible] fits in
theorem acu {n b:Nat} (h:fits n b=true):n*b≤140737488355328∧n≤140737488355328:=th h
theorem afc (hT:ij C) {a:Act} (h:bw F A w0 φ st a.tmps w) {o:Oper} {src dst:TypeId} {x:Operand} (ho:o.op= .convert src dst x) {K:TS→Ev R} (hd: ∀d,o.dst=some d→d<a.tmps.size) (hk:(ql C st o K).holds cf lp Q):Did C F A w0 φ st o a w K cf lp Q:=by
 have Lx:=hk;unfold ql at hk;rw[ho] at hk;simp only at hk
 split at hk
 ·rename_i et hdt hst
  split at hk
  ·rename_i d s mR hu hs
   have hv:=WG (fC hT h src x) hs;have hrun:=run_bytes_of_string (P:=C.P) w src dst et s (Q3 hT hst) (Q4 hT hdt).1 (WN hT hu);have hge:=grownCap_ge w s.size 0 et
   have hsz:(bytesRow s (grownCap w s.size 0 et)).size=grownCap w s.size 0 et:=by
    have:s.data.size=s.size:=rfl;simp[bytesRow,this];omega
   have hk2:(match fits s.size 1 with|true=>K (zz d ⟨true,1,H7 s⟩ st)|false=> .fail:Ev R).holds cf lp Q:=hk;clear hk
   split at hk2
   ·rename_i hfit
    have hbig:s.size≤maxLen:=by
     have:s.size*1≤140737488355328∧s.size≤140737488355328:=acu hfit;simp only[maxLen];omega
    have zu:=Ki (w':=w.drew.alloc (.cells (bytesRow s (grownCap w s.size 0 et)) et ((bytesRow s (grownCap w s.size 0 et)).size,(bytesRow s (grownCap w s.size 0 et)).size+1))) (d:=d) (dp:=true) (z:=1) h h (VH s _ st)
     Nat.one_pos (NH s) (by rw[byteCells_length,qE,Nat.mul_one]) (c:=grownCap w s.size 0 et) (by rw[qE];exact hge) (grownCap_le_maxLen w s.size 0 et hbig) ((nQ.drew w).trans (nQ.alloc _ _)) bZ
     (fun j v hj=>by
       have hj0:=hj
       have hjl:j<s.size:=by have:=(List.getElem?_eq_some_iff.1 hj).1;rwa [byteCells_length] at this
       show(w.drew.alloc _).cell? ⟨w.drew.heap.size,j,none⟩=_;rw[VG];unfold bytesRow;rw[Array.getElem?_append_left (by rw[Array.size_map];exact hjl)];unfold byteCells at hj0
       simpa using hj0)
     (fun j hj=>by
       rw[Nat.mul_one] at hj;show(∃x,(w.drew.alloc _).cell? ⟨w.drew.heap.size,j,none⟩=_)∧(w.drew.alloc _).frozen? ⟨w.drew.heap.size,j,none⟩=_
       exact⟨⟨_,by rw[VG];exact w8 (by rw[hsz];exact hj)⟩,YS _ _ _ _ _ (by simp only[hsz];exact hj)⟩) (fun h1z=>absurd h1z au) (hd d mR)
    rw[qE] at zu;refine⟨.value _,_,_,_,?_,.inl rfl,by rw[mR];exact zu,hk2,by simp,fun k hk _=>((nQ.drew w).trans (nQ.alloc _ _)).block k hk⟩;unfold execOp;rw[ho];simp only[hv,Sem.run_bind,hrun,Result.andThen]
    rfl
   ·exact hk2.elim
  ·exact hk.elim
 ·exact acq hT h hd hk
theorem Ra {Rd S:Nat→Prop} {m:Mode} {z:Nat} {rows:List (List TC)} {v:Value} (hr:av w Rd m S (.sub z rows) v) {tx e':TypeId} (hk:C.P.underlying tx=some (.slice e')) {size:Nat} (hsz:size=z) {vs:List Value} (hl:vs.length=rows.length*z)
 (hcell: ∀ad n c,v= .slice (some ad) n c→ ∀(j:Nat) (x:Value),vs[j]?=some x→w.cell? (ad.add j)=some x) (h1: ∀x∈vs,x.oneCell'=true):Src C.P size tx v rows.length vs w:=by
 subst hsz
 cases hr with
 |sub _ _ _ _ Ad c u T k hn=>
  cases Ad with
  |none=>
   have hne:rows=[]:=Classical.byContradiction fun hne=>by obtain⟨ad,h⟩:=k.addr hne;cases h
   subst hne;have:vs=[]:=Dt (by simpa using hl);subst this;exact Src.ofNil w hk c
  |some ad=>exact Src.ofSlice w hk ad _ c vs hl (hcell ad _ _ rfl) h1
theorem av.vals {Rd S:Nat→Prop} {m:Mode} {z:Nat} {rows:List (List TC)} {v:Value} (hr:av w Rd m S (.sub z rows) v): ∃vals:List Value,vals.length=rows.length*z∧(∀r∈rows,r.length=z)∧0<z∧
 (∀ad n c,v= .slice (some ad) n c→ ∀(j:Nat) (x:Value),vals[j]?=some x→w.cell? (ad.add j)=some x)∧ ∀(p:Nat) (tc:TC) (x:Value),rows.flatten[p]?=some tc→vals[p]?=some x→ ∃T,av w Rd m.nx T tc x:=by
 cases hr with
 |sub _ _ _ _ Ad c u T k hn=>
  have hz:=k.z0;have hfl:=dg k.width;refine⟨(List.range (rows.length*z)).map fun p=>u (p/z) (p % z),by simp,k.width,hz,?_,fun p tc x h1 h2=> ?_⟩
  ·intro ad n c' e j x hx
   cases e
   have hlt:j<rows.length*z:=by have:=(List.getElem?_eq_some_iff.1 hx).1;simpa using this
   simp[hlt] at hx;subst hx;obtain⟨tc,htc⟩: ∃tc,rows.flatten[j]?=some tc:=⟨_,bC (by rw[hfl];exact hlt)⟩;have:=k.cell ad rfl _ _ tc (Qp hz k.width htc);rw[JT j z] at this;exact this
  ·have hlt:p<rows.length*z:=by have:=(List.getElem?_eq_some_iff.1 h2).1;simpa using this
   simp[hlt] at h2;subst h2;exact⟨_,hn _ _ tc (Qp hz k.width h1)⟩
theorem VI (hT:ij C) {t t' ty e:TypeId} {P:Program} (hP:P=C.P) (ht:P.underlying t=some (.slice e)) (Yg:AZ (C.tt e)=true) (h0:bw F A w0 φ st tm w) (h1:bw F A w0 φ eM tm w) {d:Nat} (hd:d<tm.size) {dp:Bool} {z:Nat} (hz:z=(C.tt e).size)
 {rows bE:List (List TC)} {G5 Dq:List Value} {X1 X2:Nat→Nat→Prop} {Z1 Z2:Nat→Prop} (p1:nP w φ st sta (fy (if dp then .deep else .snap) rows.flatten G5) X1 Z1) (p2:nP w φ sta eM (fy (if dp then .deep else .snap) bE.flatten Dq) X2 Z2)
 (hw1: ∀r∈rows,r.length=z) (Vm: ∀r∈bE,r.length=z) (Ly:G5.length=rows.length*z) (Bn:Dq.length=bE.length*z) {Ad:Option Addr} {c:Nat} (hc:rows.length≤c) (hcm:c≤maxLen) {x:Value} (hs:Src P z t' x bE.length Dq w)
 (hA:(Ad=none∧rows=[]∧c=0)∨ ∃ad,Ad=some ad∧ad.spot=none∧(∃o,aT st.ob o∧ ¬aT sta.ob o∧φ.S o ad.block)∧(∀(j:Nat) (v:Value),G5[j]?=some v→w.cell? (ad.add j)=some v)∧
   (∀j,j<c*z→(∃x,w.cell? ⟨ad.block,ad.off+j,none⟩=some x)∧w.frozen? ⟨ad.block,ad.off+j,none⟩=false)∧(∀i k,X1 i k→k≠ad.block)∧(∀k,Z1 k→k≠ad.block)∧(1<z→ ∀i,w.frozen? ⟨ad.block,i,none⟩=false))
 (hf:fits (rows.length+bE.length) (C.tt e).bytes=true):
 ∃v w',(Builtin.append_ #[t,t'] ty #[.slice Ad rows.length c,x]).run P w= .ok v w'∧Rel F A w0 (zz d ⟨dp,z,rows++bE⟩ eM) (tm.setIfInBounds d v) w'∧w.heap.size≤w'.heap.size∧ ∀k,k<w.heap.size→(∀ad,Ad=some ad→k≠ad.block)→w'.heap[k]?=w.heap[k]?:=by
 subst hP;obtain⟨hf1,HX⟩:=acu hf;obtain⟨hkn,hnp⟩:=Bx Yg;obtain⟨i,zv,g1,g2,g2b,g3,g4⟩:=(hT e hkn).info;obtain⟨z1,z2,z3,_⟩:=g4 hnp;have hpos:=(hT e hkn).pos
 have hzs:zv.cells.size=(C.tt e).size:=by rw[←yf,z1];simpa using z2
 have Qg:0<z:=by omega
 have isz:i.size=z:=by rw[g2,hz]
 have p:=p1.app h0 p2;have ako:=dg hw1;have alN:=dg Vm;rw[←A5 (by rw[ako,Ly]),←Vp] at p;have alO: ∀r∈rows++bE,r.length=z:=fun r hr=>(List.mem_append.1 hr).elim (hw1 r) (Vm r)
 have akp:(G5++Dq).length=(rows++bE).length*z:=by rw[ct,ct,rE,Ly,Bn]
 have hs':Src C.P i.size t' x bE.length Dq w:=by rw[isz];exact hs
 have big:rows.length+bE.length≤maxLen:=by simp only[maxLen];omega
 have grow:c<rows.length+bE.length→(∃olds:List Value,olds=G5∧(Builtin.firstCells i.size rows.length (.slice Ad rows.length c)).run C.P w.drew= .ok olds.toArray w.drew)→
  ∃v w',(Builtin.append_ #[t,t'] ty #[.slice Ad rows.length c,x]).run C.P w= .ok v w'∧Rel F A w0 (zz d ⟨dp,z,rows++bE⟩ eM) (tm.setIfInBounds d v) w'∧w.heap.size≤w'.heap.size∧ ∀k,k<w.heap.size→(∀ad,Ad=some ad→k≠ad.block)→w'.heap[k]?=w.heap[k]?:=fun hg ⟨olds,ho,hfc⟩=>by
  rw[ho] at hfc;have hr:=run_append_grow_src (P:=C.P) w t t' ty e i zv ht g1 g3 Ad rows.length c G5 hfc x bE.length Dq hs' hg (by simp only[maxLen] at big;omega) (growslice_fits hg (by rw[g2b];exact hf1));have hge:=grownCap_ge w (rows.length+bE.length) c e;have hgm:=grownCap_le_maxLen w (rows.length+bE.length) c e big
  have hsize:((G5++Dq).toArray++Builtin.zeroCells zv.cells (grownCap w (rows.length+bE.length) c e-(rows.length+bE.length))).size=grownCap w (rows.length+bE.length) c e*z:=by
   rw[Array.size_append,size_zeroCells,List.size_toArray,akp,hzs,←hz,ct,←rE]
   congr 1;omega
  have zu:=Ki (w':=w.drew.alloc (.cells ((G5++Dq).toArray++Builtin.zeroCells zv.cells (grownCap w (rows.length+bE.length) c e-(rows.length+bE.length))) e)) (d:=d) h0 h1 p Qg alO akp
   (c:=grownCap w (rows.length+bE.length) c e) (by rw[ct];exact hge) hgm ((nQ.drew w).trans (nQ.alloc _ _)) bZ
   (fun j v hj=>by
     have hlt:=(List.getElem?_eq_some_iff.1 hj).1;have e1:=uj w.drew ((G5++Dq).toArray++Builtin.zeroCells zv.cells (grownCap w (rows.length+bE.length) c e-(rows.length+bE.length))) e j;refine e1.trans ?_;rw[Array.getElem?_append_left (by simpa using hlt)]
     simpa using hj)
   (fun j hj=>⟨⟨_,(uj w.drew _ e j).trans (w8 (by rw[hsize];exact hj))⟩,mm w.drew _ e j⟩) (fun _ i=>mm w.drew _ e i) hd
  rw[ct] at zu;exact⟨_,_,hr,zu,by simp,fun k hk _=>((nQ.drew w).trans (nQ.alloc _ _)).block k hk⟩
 rcases hA with⟨rfl,rfl,rfl⟩|⟨ad,rfl,wH,hob,hcell,hall,hX1,hZ1,Tu⟩
 ·by_cases hn:bE.length=0
  ·have hr0:bE=[]:=Dt hn
   subst hr0;have hv0:Dq=[]:=Dt (by simpa using Bn);subst hv0;exact⟨_,w,run_append_nothing w t t' ty e i ht g1 none _ _ (cL _) x hs',adi h1 Qg hd,cL _,fun _ _ _=>rfl⟩
  ·refine grow gZ ⟨_,rfl,?_⟩
   have hv0:G5=[]:=Dt (by simpa using Ly);subst hv0;exact run_firstCells_none w.drew i.size 0 0 0
 ·have hX2: ∀i k,i<bE.length*z→X2 i k→k≠ad.block:=fun i k hi hk e=>by
   subst e;obtain⟨o,o1,o2,o3⟩:=hob;obtain⟨o',q1,q2,q3⟩:=(p2.src i _ (by rw[j9 (by rw[alN,Bn]),alN];exact hi) hk).2;have:=h0.sep.apart o o' _ o1 (p1.sub.dom q1) o3 q3;subst this;exact o2 q1
  have hZ2: ∀k,Z2 k→k≠ad.block:=fun k hk e=>by
   subst e;obtain⟨o,o1,o2,o3⟩:=hob;obtain⟨o',q1,q2,q3⟩:=p2.srcZ _ hk;have:=h0.sep.apart o o' _ o1 (p1.sub.dom q1) o3 q3;subst this;exact o2 q1
  by_cases hroom:rows.length+bE.length≤c
  ·have inb: ∀j,j<Dq.length→rows.length*z+j<c*z:=fun j hj=>by
    have:rows.length*z+bE.length*z≤c*z:=by rw[←rE];exact oH _ hroom
    omega
   have had:(⟨ad.block,ad.off,none⟩:Addr)=ad:=by cases ad;simp_all
   have hr:=run_append_room_src (P:=C.P) w t t' ty e i ht g1 ad.block ad.off rows.length c x bE.length Dq hs' hroom
    (fun j hj=>by obtain⟨⟨y,hy⟩,_⟩:=hall _ (inb j hj);rw[isz,nO,hy];rfl) (fun j hj=>by obtain⟨_,hy⟩:=hall _ (inb j hj);rw[isz,nO];exact hy)
   rw[had,isz] at hr
   have akq: ∃o,aT st.ob o∧ ¬aT eM.ob o∧φ.S o ad.block:=let ⟨o,o1,o2,o3⟩:=hob;⟨o,o1,fun hd=>o2 (p2.sub.dom hd),o3⟩
   have fr:=h0.free p.sub akq;obtain⟨s1,s2,s3,s4⟩:=ni ad.block Dq (ad.off+rows.length*z) w
   have alQ: ∀j,j<c*z→(∃x,(w.setCells ad.block (ad.off+rows.length*z) Dq).cell? ⟨ad.block,ad.off+j,none⟩=some x)∧(w.setCells ad.block (ad.off+rows.length*z) Dq).frozen? ⟨ad.block,ad.off+j,none⟩=false:=fun j hj=>by
    obtain⟨⟨y,hy⟩,hz⟩:=hall j hj;exact⟨Option.isSome_iff_exists.1 (World.isSome_setCells _ _ _ w _ (by rw[hy];rfl)),by rw[World.frozen?_setCells];exact hz⟩
   have hcl: ∀{i k:Nat},i<(rows++bE).length*z→(if i<(fy (if dp=true then Mode.deep else .snap) rows.flatten G5).length then X1 i k else X2 (i-(fy (if dp=true then Mode.deep else .snap) rows.flatten G5).length) k)→k≠ad.block:=fun {i k} hi hk=>by
    rw[j9 (by rw[ako,Ly]),ako] at hk
    by_cases hlt:i<rows.length*z
    ·rw[aR hlt] at hk;exact hX1 i k hk
    ·rw[aJ hlt] at hk;exact hX2 _ k (by rw[ct,rE] at hi;omega) hk
   have zu:=ae8 (w':=w.setCells ad.block (ad.off+rows.length*z) Dq) (d:=d) h0 h1 p Qg alO akp (ad:=ad) (c:=c) (by rw[ct];exact hroom) hcm wH (h0.frm.setCells fr.new) (by rw[s4];exact cL _)
    (G:=fun k=>k=ad.block) (fun k hk hn=>gV _ _ _ _ hk hn) (fun k hk=>by subst hk;exact akq) (fun k hk=>by
      have:k≠ad.block:=hk.elim (hZ1 k) (hZ2 k)
      exact⟨this,this⟩) (fun i k hi hk=>⟨hcl hi hk,hcl hi hk⟩) (.inr akq) (fun j v hj=>by
      rw[xA j wH]
      by_cases hlt:j<rows.length*z
      ·rw[World.cell?_setCells_out _ _ _ _ _ (fun _ _=>by simp only;omega),←xA j wH]
       rw[kC au] at hj;exact hcell j v hj
      ·rw[m7 au,Ly] at hj
       have alR:=(List.getElem?_eq_some_iff.1 hj).1
       have:=World.cell?_setCells_in ad.block Dq (ad.off+rows.length*z) w (fun j' hj'=>by
        obtain⟨⟨y,hy⟩,_⟩:=hall _ (inb j' hj');rw[nO,hy];rfl) (j-rows.length*z) alR
       rw[show ad.off+rows.length*z+(j-rows.length*z)=ad.off+j by omega] at this;rw[this];rw[bC alR] at hj
       exact hj) alQ (fun h1z i=>by rw[World.frozen?_setCells];exact Tu h1z i) hd
   rw[ct] at zu;exact⟨_,_,hr,zu,by rw[s4];exact cL _,fun k hk hn=>gV _ _ _ _ hk (hn ad rfl)⟩
  ·refine grow au ⟨G5,rfl,?_⟩
   exact run_firstCells_some w.drew i.size rows.length ad rows.length c G5 (by rw[isz];exact Ly) (by simpa using hcell)
end Go.T
namespace Go.T
structure FZ where
 tc:TC
 val:Value
 own:Nat→Prop
def FZ.ok (w:World) (t:FZ):Prop:=av w (fun _=>False) .deep t.own t.tc t.val
def FZ.apart (a b:FZ):Prop:= ∀k,a.own k→ ¬b.own k
theorem FZ.aa5 {a b:FZ} (h:FZ.apart a b):FZ.apart b a:=fun k hb ha=>h k ha hb
def WX (w:World) (b off:Nat) (L:List Value):Prop:= ∀k y,L[k]?=some y→w.cell? ⟨b,off+k,none⟩=some y
def ai1 (w:World) (b off n:Nat):Prop:= ∀j,j<n→w.frozen? ⟨b,off+j,none⟩=false
theorem av.noR {w:World} {R R' S:Nat→Prop} {c:TC} {v:Value} (h:av w R .deep S c v):av w R' .deep S c v:=by
 generalize hm:Mode.deep=m at h
 induction h with
 |any _ _ _ h=>exact .any _ _ _ h
 |sc _ _ _ h=>exact .sc _ _ _ h
 |sub m S z rows A c u T h hn ih=>
  subst hm;exact .sub _ _ z rows A c u T {h with read:=fun hm=>by cases hm} fun i f tc ht=>ih i f tc ht rfl
structure sN (w:World) (S:Nat→Prop) (z:Nat) (rows:List (List TC)) (v:Value) (A:Option Addr) (c:Nat) (dV:List FZ):Prop where
 val:v= .slice A rows.length c
 le:rows.length≤c
 cap:c≤maxLen
 z0:0<z
 width: ∀r∈rows,r.length=z
 tcs:rows.flatten=dV.map (·.tc)
 ok: ∀t∈dV,t.ok w
 qh:dV.Pairwise FZ.apart
 sub: ∀t∈dV,∀k,t.own k→S k∧ ∀ad,A=some ad→k≠ad.block
 none:A=none→c=0
 row: ∀ad,A=some ad→S ad.block∧ad.spot= .none∧(∃sp,WX w ad.block ad.off (dV.map (·.val)++sp)∧(dV.map (·.val)++sp).length=c*z)∧ai1 w ad.block ad.off (c*z)∧(1<z→ ∀i,w.frozen? ⟨ad.block,i,.none⟩=false)
theorem av.opened {w:World} {R S:Nat→Prop} {z:Nat} {rows:List (List TC)} {v:Value} (h:av w R .deep S (.sub z rows) v): ∃A c dV,sN w S z rows v A c dV:=by
 cases h with
 |sub _ _ _ _ A c u T k hn=>
  have hz:=k.z0;have hfl:=dg k.width;have hat: ∀p tc,rows.flatten[p]?=some tc→zQ rows (p/z) (p % z)=some tc:=fun p tc h=>Qp hz k.width h;refine⟨A,c,(List.range (rows.length*z)).map fun p=>⟨rows.flatten.getD p default,u (p/z) (p % z),T (p/z) (p % z)⟩,rfl,k.len,k.cap,hz,k.width,?_,?_,?_,?_,(k.own bZ).1,?_⟩
  ·apply List.ext_getElem
   ·simp[hfl]
   ·intro p h1 h2
    simp only[List.getElem_map,List.getElem_range,oG,bC h1];rfl
  ·intro t ht
   obtain⟨p,hp,rfl⟩:=List.mem_map.1 ht;have hp:=List.mem_range.1 hp
   have hs:rows.flatten[p]?=some (rows.flatten.getD p default):=by
    rw[oG,bC au];rfl
   exact(hn _ _ _ (hat p _ hs)).noR
  ·rw[List.pairwise_map]
   refine(List.nodup_range (n:=rows.length*z)).imp_of_mem ?_;intro a b ha hb hab k' h1 h2;have:=(k.qh rfl _ _ _ h1).2.2 _ _ h2
   apply hab
   rw[←JT a z,←JT b z,this.1,this.2]
  ·intro t ht k' hk
   obtain⟨p,hp,rfl⟩:=List.mem_map.1 ht;exact⟨(k.qh rfl _ _ _ hk).1,(k.qh rfl _ _ _ hk).2.1⟩
  ·intro ad ha
   obtain⟨hS,hs,hc⟩:=(k.own bZ).2 ad ha;refine⟨hS,hs,⟨(List.range (c*z-rows.length*z)).map fun j=>(w.cell? ⟨ad.block,ad.off+(rows.length*z+j),.none⟩).getD default,?_,?_⟩,fun j hj=>(hc j hj).2,fun h1 i=>k.soft bZ h1 ad ha i⟩
   ·intro j y hj
    by_cases hl:j<rows.length*z
    ·rw[kC (by simpa using hl)] at hj
     simp[hl] at hj;subst hj
     have hs2:rows.flatten[j]?=some (rows.flatten.getD j default):=by
      rw[oG,bC au];rfl
     have:=k.cell ad ha _ _ _ (hat j _ hs2);rw[JT j z] at this;obtain⟨b0,o0,s0⟩:=ad
     cases hs
     rwa [Addr.add_lit] at this
    ·rw[m7 (by simpa using hl)] at hj
     have hlt:=(List.getElem?_eq_some_iff.1 hj).1;simp at hj hlt
     obtain⟨q1,rfl⟩:=by simpa [hlt] using hj
     obtain⟨x,hx⟩:=(hc j au).1;rw[show rows.length*z+(j-rows.length*z)=j by omega,hx];rfl
   ·have:=oH z k.len
    simp;omega
theorem sN.rep {w:World} {S:Nat→Prop} {z:Nat} {rows:List (List TC)} {v:Value} {A:Option Addr} {c:Nat} {dV:List FZ} (h:sN w S z rows v A c dV) {R:Nat→Prop}:av w R .deep S (.sub z rows) v:=by
 rw[h.val];have hfl:=dg h.width
 have hil:dV.length=rows.length*z:=by have:=congrArg List.length h.tcs;rw[hfl,cq] at this;exact this.symm
 have w6: ∀{i f:Nat} {tc:TC},zQ rows i f=some tc→ ∃t,dV[i*z+f]?=some t∧t.tc=tc∧f<z∧i<rows.length:=fun {i f tc} ht=>by
  obtain⟨h1,h2,h3⟩:=yt h.width ht;rw[h.tcs,me] at h1
  cases hq:dV[i*z+f]? with
  |none=>rw[hq] at h1;cases h1
  |some t=>rw[hq] at h1;exact⟨t,rfl,by simpa using h1,h2,h3⟩
 have anz: ∀{i f i' f':Nat},f<z→f'<z→i*z+f=i'*z+f'→i=i'∧f=f':=fun {i f i' f'} h1 h2 e=>by
  have e1:(i*z+f)/z=i:=by rw[Nat.mul_comm,Nat.mul_add_div h.z0,Nat.div_eq_of_lt h1,tW]
  have e2:(i'*z+f')/z=i':=by rw[Nat.mul_comm,Nat.mul_add_div h.z0,Nat.div_eq_of_lt h2,tW]
  have:i=i':=by rw[←e1,e,e2]
  subst this;exact⟨rfl,by omega⟩
 refine .sub _ _ z rows A c (fun i f=>(dV[i*z+f]?.map (·.val)).getD default) (fun i f k=>f<z∧ ∃t,dV[i*z+f]?=some t∧t.own k) ⟨h.le,h.cap,h.z0,h.width,?_,?_,fun hm=>(by cases hm),fun _=>⟨h.none,?_⟩,?_,?_⟩ ?_
 ·intro hne
  cases hA:A with
  |none=>
   have h1:=h.none hA;have h2:=h.le;rw[h1] at h2;exact absurd (Dt au) hne
  |some ad=>exact⟨ad,rfl⟩
 ·intro ad ha i f tc ht
  obtain⟨t,h1,rfl,h2,h3⟩:=w6 ht;obtain⟨_,hs,⟨sp,hr,_⟩,_⟩:=h.row ad ha;have:=hr (i*z+f) t.val (by rw[kC (by rw[cq];exact(List.getElem?_eq_some_iff.1 h1).1),me,h1];rfl);obtain⟨b0,o0,s0⟩:=ad
  cases hs
  rw[Addr.add_lit,h1];exact this
 ·intro ad ha
  obtain⟨hS,hs,⟨sp,hr,hl⟩,hf,_⟩:=h.row ad ha;refine⟨hS,hs,fun j hj=>⟨⟨_,hr j _ (bC (by rw[hl];exact hj))⟩,hf j hj⟩⟩
 ·intro _ h1 ad ha i
  exact(h.row ad ha).2.2.2.2 h1 i
 ·rintro _ i f k ⟨hf,t,ht,hk⟩
  have hm:=iV ht;refine⟨(h.sub t hm k hk).1,(h.sub t hm k hk).2,fun i' f'=> ?_⟩;rintro⟨hf',t',ht',hk'⟩
  by_cases e:i*z+f=i'*z+f'
  ·have:=anz hf hf' e
   exact⟨this.1.symm,this.2.symm⟩
  ·have hp:=List.pairwise_iff_getElem.1 h.qh
   obtain⟨l1,e1⟩:=List.getElem?_eq_some_iff.1 ht;obtain⟨l2,e2⟩:=List.getElem?_eq_some_iff.1 ht';rcases Nat.lt_or_gt_of_ne e with hlt|hlt
   ·exact absurd hk' (by have:=hp _ _ l1 l2 hlt;rw[e1,e2] at this;exact this k hk)
   ·exact absurd hk (by have:=hp _ _ l2 l1 hlt;rw[e1,e2] at this;exact this k hk')
 ·intro i f tc ht
  obtain⟨t,h1,rfl,h2,h3⟩:=w6 ht;have:=h.ok t (iV h1)
  have e:(dV[i*z+f]?.map (·.val)).getD default=t.val:=by rw[h1];rfl
  show av w R .deep _ t.tc ((dV[i*z+f]?.map (·.val)).getD default);rw[e];exact av.mono (av.noR this) fun k hk=>⟨h2,t,h1,hk⟩
theorem WX.put {w:World} {b off:Nat} {L us:List Value} (h:WX w b off L) {p:Nat} (hp:p+us.length≤L.length):WX (w.setCells b (off+p) us) b off (L.take p++us++L.drop (p+us.length)):=by
 intro k y hk
 have hs: ∀j,j<us.length→(w.cell? ⟨b,off+p+j,none⟩).isSome=true:=fun j hj=>by
  rw[nO,h (p+j) _ (bC au)];rfl
 by_cases h1:k<p
 ·rw[tT,kC (by rw[c7];omega),zG,aR h1] at hk
  rw[World.cell?_setCells_out b us _ _ _ (fun _ _=> .inl (by show off+k<off+p;omega))];exact h k y hk
 ·by_cases h2:k<p+us.length
  ·rw[tT,m7 (by rw[c7];omega),kC (by rw[c7];omega),c7,Nat.min_eq_left au] at hk
   have hl:k-p<us.length:=by omega
   have:=World.cell?_setCells_in b us (off+p) w hs (k-p) hl;rw[show off+p+(k-p)=off+k by omega] at this;rw[this,←hk,bC hl]
  ·rw[m7 (by rw[ct,c7];omega),o5,ct,c7,Nat.min_eq_left au] at hk
   rw[World.cell?_setCells_out b us _ _ _ (fun _ _=> .inr (by show off+p+us.length≤off+k;omega))];exact h k y (by rw[←hk];congr 1;omega)
theorem YT {w:World} {b o:Nat} {y:Value} (h:w.cell? ⟨b,o,none⟩=some y): ∃t k,w.shape? b=some (t,k)∧k≠0:=by
 unfold World.cell? at h;unfold World.shape?
 split at h
 ·rename_i c e fr hh
  rw[hh];refine⟨e,c.size,rfl,?_⟩;have:c[o]?=some y:=h;have:=(Array.getElem?_eq_some_iff.1 this).1;omega
 ·cases h
theorem J4 {w:World} {a:Addr} {y:Value} (h:w.cell? a=some y):a.block<w.heap.size:=by
 unfold World.cell? at h
 split at h
 ·rename_i hh;exact(Array.getElem?_eq_some_iff.1 hh).1
 ·cases h
end Go.T
namespace Go.T
variable {F : Nat → Prop} {A : Arg} {w0 w w' : World} {φ φ' φ1 : Fp} {st st' sta eM : TS} {tm IF : Array Value} {C : mG}
theorem CM {z:Nat}: ∀{rows:List (List TC)},(∀r∈rows,r.length=z)→ ∀i,(rows.take i).flatten=rows.flatten.take (i*z)
 |[],_,i=>by simp
 |r::rs,hw,0=>by simp
 |r::rs,hw,i+1=>by
  have hr:=hw r (.head _);rw[List.take_succ_cons,yh,yh,CM (fun r hr=>hw r (.tail _ hr)) i,zI,List.take_append,hr];rw[H6 (by omega:r.length≤i*z+z),show i*z+z-z=i*z by omega]
theorem CN {z:Nat}: ∀{rows:List (List TC)},(∀r∈rows,r.length=z)→ ∀i,(rows.drop i).flatten=rows.flatten.drop (i*z)
 |[],_,i=>by simp
 |r::rs,hw,0=>by simp
 |r::rs,hw,i+1=>by
  have hr:=hw r (.head _);rw[List.drop_succ_cons,yh,CN (fun r hr=>hw r (.tail _ hr)) i,zI,List.drop_append,hr];rw[Bo (by omega:r.length≤i*z+z),tg,show i*z+z-z=i*z by omega]
def FZ.out (t:FZ):FZ:=⟨.any,t.val,fun _=>False⟩
theorem NI {z:Nat}: ∀n,(List.replicate n (List.replicate z TC.any)).flatten=List.replicate (n*z) TC.any
 |0=>by simp
 |n+1=>by
  rw[List.replicate_succ,yh,NI n,zI,Nat.add_comm,List.replicate_append_replicate]
theorem ahz (l:List FZ):(l.map FZ.out).map (·.tc)=List.replicate l.length .any:=by
 induction l with
 |nil=>rfl
 |cons a l ih=>rw[List.map_cons,List.map_cons,ih,gG,List.replicate_succ];rfl
theorem afd (l:List FZ):(l.map FZ.out).map (·.val)=l.map (·.val):=by
 rw[List.map_map];rfl
attribute [local semireducible] kf aq in
theorem sN.move {S:Nat→Prop} {z:Nat} {rows:List (List TC)} {v:Value} {Ad:Option Addr} {c:Nat} {dV:List FZ} (o:sN w S z rows v Ad c dV) {l h:Int} (h0:0≤l) (h1:l≤h) (h2:h≤rows.length):
 ∃alS itm:List FZ,sN w (fun k=>S k∧ ¬ ∃t∈itm,t.own k) z (kf z rows l h) v Ad c alS∧(kf z rows l h).length=rows.length∧(aq rows l h).flatten=itm.map (·.tc)∧itm.map (·.val)=((dV.map (·.val)).take (h.toNat*z)).drop (l.toNat*z)∧
  (∀t∈itm,t.ok w∧ ∀k,t.own k→S k∧ ∀ad,Ad=some ad→k≠ad.block)∧itm.Pairwise FZ.apart∧(∀r∈aq rows l h,r.length=z):=by
 obtain⟨a,ha⟩: ∃a,a=l.toNat:=⟨_,rfl⟩;obtain⟨b,hb⟩: ∃b,b=h.toNat:=⟨_,rfl⟩
 have hab:a≤b:=by omega
 have hbn:b≤rows.length:=by omega
 have lt:=o.width
 have li:dV.length=rows.length*z:=by
  have:=congrArg List.length o.tcs;rw[dg o.width,cq] at this;exact this.symm
 have e1:=oH z hab;have e2:=oH z hbn;obtain⟨i1,hi1⟩: ∃i1,i1=dV.take (a*z):=⟨_,rfl⟩;obtain⟨i2,hi2⟩: ∃i2,i2=(dV.take (b*z)).drop (a*z):=⟨_,rfl⟩;obtain⟨i3,u6⟩: ∃i3,i3=dV.drop (b*z):=⟨_,rfl⟩
 have hsplit:dV=i1++i2++i3:=by
  rw[hi1,hi2,u6];have q1:=Dv (b*z) dV;have q2:=Dv (a*z) (dV.take (b*z));rw[List.take_take,Nat.min_eq_left e1] at q2;rw[q2,q1]
 have l1:i1.length=a*z:=by rw[hi1,c7];omega
 have l2:i2.length=(b-a)*z:=by rw[hi2,gQ,c7,Nat.sub_mul];omega
 have hd:=o.qh;rw[hsplit] at hd;obtain⟨d12,d3,d123⟩:=List.pairwise_append.1 hd;obtain⟨d1,d2,dc⟩:=List.pairwise_append.1 d12
 have m1: ∀t∈i1,t∈dV:=fun t ht=>by rw[hsplit];exact kD _ (kD _ ht)
 have m2: ∀t∈i2,t∈dV:=fun t ht=>by rw[hsplit];exact kD _ (p6 _ ht)
 have m3: ∀t∈i3,t∈dV:=fun t ht=>by rw[hsplit];exact p6 _ ht
 have hv:(i1++i2.map FZ.out++i3).map (·.val)=dV.map (·.val):=by
  rw[hsplit];simp only[td,afd]
 have hlen:(kf z rows l h).length=rows.length:=by
  unfold kf;rw[←ha,←hb];simp only[ct,c7,List.length_replicate,gQ];omega
 have hfl:(kf z rows l h).flatten=(i1++i2.map FZ.out++i3).map (·.tc):=by
  unfold kf;rw[←ha,←hb,Vp,Vp,CM lt,CN lt,NI,td,td,ahz,l2,o.tcs,hi1,u6,Du,Bp]
 have anyA: ∀t∈i2.map FZ.out,∀k,¬t.own k:=fun t ht k hk=>by
  obtain⟨t0,_,rfl⟩:=List.mem_map.1 ht;exact hk
 refine⟨i1++i2.map FZ.out++i3,i2,⟨?_,by rw[hlen];exact o.le,o.cap,o.z0,fun r hr=> ?_,hfl,fun t ht=> ?_,?_,fun t ht k hk=> ?_,o.none,fun ad e=> ?_⟩,hlen,?_,?_,fun t ht=>⟨o.ok t (m2 t ht),fun k hk=>o.sub t (m2 t ht) k hk⟩,d2,fun r hr=> ?_⟩
 ·rw[hlen];exact o.val
 ·unfold kf at hr
  rcases List.mem_append.1 hr with hr|hr
  ·rcases List.mem_append.1 hr with hr|hr
   ·exact lt r (tf hr)
   ·rw[List.eq_of_mem_replicate hr,List.length_replicate]
  ·exact lt r (rD hr)
 ·rcases List.mem_append.1 ht with ht|ht
  ·rcases List.mem_append.1 ht with ht|ht
   ·exact o.ok t (m1 t ht)
   ·obtain⟨t0,h0,rfl⟩:=List.mem_map.1 ht
    have:=o.ok t0 (m2 t0 h0);exact .any _ _ _ ⟨sM this,av.cells this⟩
  ·exact o.ok t (m3 t ht)
 ·refine List.pairwise_append.2 ⟨List.pairwise_append.2 ⟨d1,?_,fun x hx y hy k _ hk=>anyA y hy k hk⟩,d3,fun x hx y hy=> ?_⟩
  ·rw[List.pairwise_map]
   exact d2.imp fun _ k hk=>hk.elim
  ·rcases List.mem_append.1 hx with hx|hx
   ·exact d123 x (kD _ hx) y hy
   ·exact fun k hk=>(anyA x hx k hk).elim
 ·rcases List.mem_append.1 ht with ht|ht
  ·rcases List.mem_append.1 ht with ht|ht
   ·exact⟨⟨(o.sub t (m1 t ht) k hk).1,fun⟨t',ht',hk'⟩=>dc t ht t' ht' k hk hk'⟩,(o.sub t (m1 t ht) k hk).2⟩
   ·exact(anyA t ht k hk).elim
  ·exact⟨⟨(o.sub t (m3 t ht) k hk).1,fun⟨t',ht',hk'⟩=>d123 t' (p6 _ ht') t ht k hk' hk⟩,(o.sub t (m3 t ht) k hk).2⟩
 ·obtain⟨r1,r2,r3,r4⟩:=o.row ad e
  refine⟨⟨r1,fun⟨t,ht,hk⟩=>(o.sub t (m2 t ht) _ hk).2 ad e rfl⟩,r2,?_,r4⟩;rw[hv];exact r3
 ·unfold aq
  rw[←ha,←hb,CN (fun r hr=>lt r (tf hr)),CM lt,o.tcs,hi2,Bp,Du]
 ·rw[←ha,←hb,hi2,Bp,Du]
 ·unfold aq at hr
  exact lt r (tf (rD hr))
theorem bw.ak9 (h:bw F A w0 φ st tm w) {o g:Nat} {z:Nat} {rows:List (List TC)} (hb:an o st.ob=some ⟨true,z,rows⟩) {l hh:Int} (h0:0≤l) (h1:l≤hh) (h2:hh≤rows.length) (hg:g≠0) (hgo:g≠o):
 ∃φ2,bw F A w0 φ2 (IK g o ⟨true,z,rows⟩ l hh st) tm w∧φ2.β=φ.β∧(∀d,d≠g→φ2.V d=φ.V d)∧(∀d k,d≠g→φ2.S d k→φ.S d k)∧
  ∃vs X,vs.length=(aq rows l hh).length*z∧(∀r∈aq rows l hh,r.length=z)∧(∀vX,Dx z rows.length l hh (φ.V o) vX→ ∀ad n c,vX= .slice (some ad) n c→ ∀(j:Nat) (x:Value),vs[j]?=some x→w.cell? (ad.add j)=some x)∧
   ∀sta:TS,aT sta.ob g→nP w φ2 sta (T.o6 g sta) (fy .deep (aq rows l hh).flatten vs) X (fun _=>False):=by
 have hin:aT st.ob o:=⟨_,hb⟩;have hO:av w φ.I .deep (φ.S o) (.sub z rows) (φ.V o):=h.obj o _ hb;obtain⟨Ad,c,dV,op⟩:=hO.opened;obtain⟨alS,itm,op',e1,e2,e3,e4,e5,e6⟩:=op.move h0 h1 h2;have hS: ∀t∈itm,∀k,t.own k→φ.S o k:=fun t ht k hk=>((e4 t ht).2 k hk).1
 have w1:=h.wI (w':=w) (b':=⟨true,z,kf z rows l hh⟩) (X:=fun k=>φ.S o k∧ ¬ ∃t∈itm,t.own k) hb rfl e1 op'.rep h.frm (cL _) (fun _ _ _=>rfl)
  (fun k hk=>h.sep.fresh o k hin hk.1) (fun k hk=>h.sep.read o k hin hk.1) (fun k d hk hne hd hs=>hne (h.sep.apart d o k hd hin hs hk.1)) (fun b cs Ny hw hk=>(h.sep.box b cs Ny hw).2.1 o hin hk.1)
 have q9: ∀d,aT (T.wI o ⟨true,z,kf z rows l hh⟩ st).ob d→aT st.ob d:=fun d hd=>by
  have:aT (pU o ⟨true,z,kf z rows l hh⟩ st.ob) d:=hd;rw[kG] at this;exact this.elim (fun e=>e▸hin) id
 have w2:=w1.FK (o:=g) (b:=⟨true,1,[]⟩) (X:=fun k=> ∃t∈itm,t.own k) (v:= .slice none 0 0) hg (zV (Nat.lt_succ_self 0)) (fun k ⟨t,ht,hk⟩=>h.sep.fresh o k hin (hS t ht k hk)) (fun k ⟨t,ht,hk⟩=>h.sep.read o k hin (hS t ht k hk))
  (fun k d ⟨t,ht,hk⟩ hne hd hs=>by
    by_cases e:d=o
    ·subst e
     have hs:(if d=d then φ.S d k∧ ¬ ∃t∈itm,t.own k else φ.S d k):=hs;rw[aR rfl] at hs;exact hs.2 ⟨t,ht,hk⟩
    ·rw[xd e] at hs
     exact e (h.sep.apart d o k (q9 d hd) hin hs (hS t ht k hk)))
  (fun b cs Ny hw ⟨t,ht,hk⟩=>by
    obtain⟨cs0,hc0,_⟩:=iX _ b cs Ny
    exact(h.sep.box b cs0 hc0 hw).2.1 o hin (hS t ht _ hk))
 have lits:dV.length=rows.length*z:=by
  have:=congrArg List.length op.tcs;rw[dg op.width,cq] at this;exact this.symm
 have litm:itm.length=(aq rows l hh).length*z:=by
  have:=congrArg List.length e2;rw[dg e6,cq] at this;exact this.symm
 refine⟨_,w2,rfl,fun d hd=> ?_,fun d k hd hs=> ?_,itm.map (·.val),fun i k=> ∃t,itm[i]?=some t∧t.own k,by rw[cq];exact litm,e6,fun vX hc ad n c' ev j x hj=> ?_,fun sta hgd=>⟨fun i it hi=> ?_,fun i k hi hk=>⟨id,g,hgd,fun hd=>(lP.1 hd).1 rfl,?_⟩,fun k hk=>hk.elim,fun i j k hi hj hk hk'=> ?_,fD.kill sta g⟩⟩
 ·show(if d=g then _ else if d=o then φ.V o else φ.V d)=φ.V d
  rw[aJ hd]
  split
  ·subst_vars;rfl
  ·rfl
 ·rw[xd hd] at hs
  by_cases e:d=o
  ·subst e
   have hs:(if d=d then φ.S d k∧ ¬ ∃t∈itm,t.own k else φ.S d k):=hs;rw[aR rfl] at hs;exact hs.1
  ·rw[xd e] at hs;exact hs
 ·obtain⟨c1,c2,c3,A0,A',c0,f1,f2,f3,f4,f5⟩:=hc
  rw[op.val] at f1
  cases f1
  rw[ev] at f2
  cases f2
  obtain⟨ad0,hA⟩: ∃ad0,Ad=some ad0:=by
   cases hA:Ad with
   |none=>have:=f4 hA;cases this
   |some ad0=>exact⟨ad0,rfl⟩
  obtain⟨_,hsp,⟨sp,hr,hrl⟩,_⟩:=op.row ad0 hA;rw[e3] at hj;have hjl:=(List.getElem?_eq_some_iff.1 hj).1;rw[gQ,c7,cq,lits] at hjl;rw[o5,zG] at hj
  split at hj
  ·have hbz:hh.toNat*z≤rows.length*z:=oH z au
   have hx:=hr _ x (by rw[kC (by rw[cq,lits];exact kE ir hbz)];exact hj);have hle:=op.le;have hz:=op.z0
   have hne:c≠l.toNat:=fun e=>by
    have:hh.toNat≤l.toNat:=by omega
    have:=oH z this;omega
   have:=f3 hne;rw[hA] at this;simp only[nT,bq] at this;obtain⟨b0,o0,s0⟩:=ad0
   cases hsp
   rw[this,Addr.add_add,Addr.add_lit];rw[←nO] at hx;rw[show o0+(l.toNat*z+j)=o0+l.toNat*z+j by omega];exact hx
  ·cases hj
 ·obtain⟨tc,v,t1,t2,rfl⟩:=oN hi
  rw[e2,me] at t1;rw[me] at t2
  cases hq:itm[i]? with
  |none=>rw[hq] at t1;cases t1
  |some t=>
   rw[hq] at t1 t2;simp only[nT,bq] at t1 t2;subst t1 t2;exact av.mono (av.noR (e4 t (iV hq)).1) fun k hk=>⟨t,rfl,hk⟩
 ·obtain⟨t,ht,hk⟩:=hk
  show(if g=g then ∃t∈itm,t.own k else _);rw[aR rfl];exact⟨t,iV ht,hk⟩
 ·obtain⟨t,ht,hk⟩:=hk
  obtain⟨t',ht',hk'⟩:=hk';obtain⟨l1,q1⟩:=List.getElem?_eq_some_iff.1 ht;obtain⟨l2,q2⟩:=List.getElem?_eq_some_iff.1 ht';have hp:=List.pairwise_iff_getElem.1 e5;rcases Nat.lt_trichotomy i j with hlt|rfl|hlt
  ·exact absurd hk' (by have:=hp _ _ l1 l2 hlt;rw[q1,q2] at this;exact this k hk)
  ·rfl
  ·exact absurd hk (by have:=hp _ _ l2 l1 hlt;rw[q1,q2] at this;exact this k hk')
end Go.T
namespace Go.T
variable {F : Nat → Prop} {A : Arg} {w0 w w' : World} {φ φ' : Fp} {st st' sta eM qf : TS} {tm IF : Array Value} {C : mG}
variable {R : Type} {cf : Cf} {lp : Lp} {Q : R → Prop}
theorem VJ {e:TypeId} {z:Nat} (h:LD C e z=true):AZ (C.tt e)=true∧z=(C.tt e).size:=by
 unfold LD at h
 split at h
 ·exact⟨by assumption,jw h⟩
 ·cases h
attribute [local semireducible] bF in
theorem Rb {rows:List (List TC)} (h:bF rows=true): ∀(p:Nat) (tc:TC),rows.flatten[p]?=some tc→ ∃v,tc= .sc v:=fun p tc hp=>by
 have hm:=iV hp;obtain⟨r,hr,hc⟩:=List.mem_flatten.1 hm;have h1:=List.all_eq_true.1 h r hr;have h2:=List.all_eq_true.1 h1 tc hc
 cases tc with
 |any=>cases h2
 |sc v=>exact⟨v,rfl⟩
 |sub z rows=>cases h2
structure ajO (w:World) (φ:Fp) (st sta:TS) (dp:Bool) (z:Nat) (rows:List (List TC)) (vS:Value) (M:Mode) (G5:List Value) (X1:Nat→Nat→Prop) (Z1:Nat→Prop) (Ad:Option Addr) (c:Nat):Prop where
 val:vS= .slice Ad rows.length c
 parts:nP w φ st sta (fy M rows.flatten G5) X1 Z1
 width: ∀r∈rows,r.length=z
 len:G5.length=rows.length*z
 le:rows.length≤c
 max:c≤maxLen
 at':(Ad=none∧rows=[]∧c=0)∨ ∃ad,Ad=some ad∧ad.spot=none∧(∃o,aT st.ob o∧ ¬aT sta.ob o∧φ.S o ad.block)∧(∀(j:Nat) (v:Value),G5[j]?=some v→w.cell? (ad.add j)=some v)∧
    (∀j,j<c*z→(∃x,w.cell? ⟨ad.block,ad.off+j,none⟩=some x)∧w.frozen? ⟨ad.block,ad.off+j,none⟩=false)∧(∀i k,X1 i k→k≠ad.block)∧(∀k,Z1 k→k≠ad.block)∧(1<z→ ∀i,w.frozen? ⟨ad.block,i,none⟩=false)
theorem Kj (h:bw F A w0 φ st tm w) {cs:CE} {vS:Value} (hc:ek st.ob w φ cs vS) {o:Option Nat} {z:Nat} {dp:Bool} {rows:List (List TC)} (hb:A4 st cs=some (o,z,dp,rows)) {M:Mode} (hM:M= .snap∨M= .deep∧dp=true):
 0<z∧bw F A w0 φ (p7 o st) tm w∧ ∃G5 X1 Z1 Ad c,ajO w φ st (p7 o st) dp z rows vS M G5 X1 Z1 Ad c:=by
 unfold A4 at hb
 split at hb
 ·cases hb
  obtain⟨rfl,hz⟩:=hc;exact⟨hz,h,[],_,_,none,0,rfl,nP.nil _,fun r hr=>(by cases hr),by simp,cL _,cW _,.inl ⟨rfl,rfl,rfl⟩⟩
 ·rename_i o' cut
  cases hl:an o' st.ob with
  |none=>rw[hl] at hb;cases hb
  |some b=>
   obtain⟨d0,z0,qg⟩:=b;rw[hl] at hb
   cases hb
   obtain⟨b0,e0,Ct⟩:=hc;rw[hl] at e0
   cases e0
   have hr:=o7.cut (h.obj o' _ hl) Ct
   have hm:OB.m ⟨dp,z,qg⟩≠ .snap:=by unfold OB.m;split<;>simp
   obtain⟨G5,X1,Z1,l1,p1,a1⟩:=av.parts h ⟨_,hl⟩ hr hm (M:=M) (hM.imp id fun⟨e1,e2⟩=>⟨e1,by rw[e2];rfl⟩);obtain⟨_,_,zp,hz,_⟩:=hr.vals;refine⟨hz,h.o6 o',G5,X1,Z1,?_⟩
   cases hr with
   |sub _ _ _ _ Ad c u T k hn=>
    refine⟨Ad,c,rfl,p1,zp,l1,k.len,k.cap,?_⟩
    cases Ad with
    |none=>
     have hne:Yl cut qg=[]:=Classical.byContradiction fun hne=>by obtain⟨ad,h⟩:=k.addr hne;cases h
     exact .inl ⟨rfl,hne,(k.own hm).1 rfl⟩
    |some ad=>
     obtain⟨hS,hs,hall⟩:=(k.own hm).2 ad rfl;obtain⟨q1,q2,q3⟩:=a1 ad _ _ rfl;exact .inr ⟨ad,rfl,hs,⟨o',⟨_,hl⟩,fun hd=>(lP.1 hd).1 rfl,hS⟩,q1,hall,q2,q3,fun h1z=>k.soft hm h1z ad rfl⟩
 ·cases hb
theorem ahA (h:bw F A w0 φ st tm w) {rC:TS} (hsub:fD st rC) {cx:CE} {vX:Value} (hc:ek rC.ob w φ cx vX) {tx e':TypeId} (hk:C.P.underlying tx=some (.slice e')) {z:Nat} {rows:List (List TC)} {eM:TS} {d1:Bool} (hab:qk cx st=some (.sub z rows,eM,d1))
 {M:Mode} (hM:M= .snap∨M= .deep∧d1=true):bw F A w0 φ eM tm w∧ ∃Dq X2 Z2,nP w φ st eM (fy M rows.flatten Dq) X2 Z2∧(∀r∈rows,r.length=z)∧Dq.length=rows.length*z∧Src C.P z tx vX rows.length Dq w:=by
 unfold qk at hab
 split at hab
 ·cases hab
 ·cases hab
  obtain⟨rfl,hz⟩:=hc;exact⟨h,[],_,_,nP.nil _,fun r hr=>(by cases hr),by simp,Src.ofNil w hk 0⟩
 ·rename_i o cut
  cases hl:an o st.ob with
  |none=>rw[hl] at hab;cases hab
  |some b=>
   obtain⟨d0,z0,qg⟩:=b;rw[hl] at hab
   cases hab
   obtain⟨b0,e0,Ct⟩:=hc;rw[hsub.ob _ _ hl] at e0
   cases e0
   have hr:=o7.cut (h.obj o _ hl) Ct
   have hm:OB.m ⟨d1,z,qg⟩≠ .snap:=by unfold OB.m;split<;>simp
   obtain⟨G5,X1,Z1,l1,p1,a1⟩:=av.parts h ⟨_,hl⟩ hr hm (M:=M) (hM.imp id fun⟨e1,e2⟩=>⟨e1,by rw[e2];rfl⟩);obtain⟨_,_,zp,hz,_⟩:=hr.vals;refine⟨h.o6 o,G5,X1,Z1,p1,zp,l1,Ra hr hk rfl l1 (fun ad n c e=>(a1 ad n c e).1) fun y hy=> ?_⟩;obtain⟨j,hj,rfl⟩:=List.mem_iff_getElem.1 hy;exact sM (p1.ok j _ (pN (bC (by rw[dg zp,←l1];exact hj)) (bC hj)))
 ·rename_i l z0 qg
  cases hab
  have hMs:M= .snap:=hM.elim id fun⟨_,e⟩=>by cases e
  subst hMs;have hr:=hc.2.1;obtain⟨vs,l1,zp,hz,hcell,Bi⟩:=hr.vals
  have hok: ∀(i:Nat) (it:It),(fy .snap rows.flatten vs)[i]?=some it→it.1= .snap∧av w (fun k=>φ.I k∨False) .snap Lw it.2.1 it.2.2:=fun i it hi=>by
   obtain⟨tc,v,h1,h2,rfl⟩:=oN hi;obtain⟨T,hT⟩:=Bi i tc v h1 h2;exact⟨rfl,hT.rm fun k hk=>hk.elim .inl fun⟨d,hd,_⟩=>by cases hd⟩
  refine⟨h,vs,fun _ _=>False,fun _=>False,⟨fun i it hi=> ?_,fun _ _ _ hk=>hk.elim,fun _ hk=>hk.elim,fun _ _ _ _ _ hk=>hk.elim,fD.refl _⟩,zp,l1,Ra hr hk rfl l1 hcell fun y hy=> ?_⟩
  ·obtain⟨e1,e2⟩:=hok i it hi
   rw[e1];exact e2
  ·obtain⟨j,hj,rfl⟩:=List.mem_iff_getElem.1 hy
   exact sM (hok j _ (pN (bC (by rw[dg zp,←l1];exact hj)) (bC hj))).2
 ·cases hab
theorem adk (h:bw F A w0 φ st tm w) {cx:CE} {vX:Value} (hc:ek st.ob w φ cx vX) {tx e':TypeId} (hk:C.P.underlying tx=some (.slice e')) {z:Nat} {rows:List (List TC)} (hr:pV st cx=some (z,rows)) (hsc:bF rows=true) (M:Mode) (sta:TS):
 ∃Dq,nP w φ sta sta (fy M rows.flatten Dq) (fun _ _=>False) (fun _=>False)∧(∀r∈rows,r.length=z)∧Dq.length=rows.length*z∧Src C.P z tx vX rows.length Dq w:=by
 obtain⟨Bi,_⟩:=tC h hc hr;obtain⟨vs,l1,zp,hz,hcell,TG⟩:=Bi.vals
 have hok: ∀(M:Mode) (i:Nat) (it:It),(fy M rows.flatten vs)[i]?=some it→ ∃v,it=(M,.sc v,v)∧Oc v:=fun M i it hi=>by
  obtain⟨tc,v,h1,h2,rfl⟩:=oN hi;obtain⟨T,hT⟩:=TG i tc v h1 h2;obtain⟨v',rfl⟩:=Rb hsc i tc h1
  cases hT with
  |sc _ _ _ hs=>exact⟨_,rfl,hs⟩
 refine⟨vs,⟨fun i it hi=> ?_,fun _ _ _ hk=>hk.elim,fun _ hk=>hk.elim,fun _ _ _ _ _ hk=>hk.elim,fD.refl _⟩,zp,l1,Ra Bi hk rfl l1 hcell fun y hy=> ?_⟩
 ·obtain⟨v,rfl,hs⟩:=hok M i it hi
  exact .sc _ _ _ hs
 ·obtain⟨j,hj,rfl⟩:=List.mem_iff_getElem.1 hy
  obtain⟨v,e1,hs⟩:=hok .deep j _ (pN (bC (by rw[dg zp,←l1];exact hj)) (bC hj))
  have:vs[j]=v:=by have:=congrArg (fun it:It=>it.2.2) e1;exact this
  rw[this]
  cases v<;>first|rfl|cases hs
theorem NJ {g o p:Nat} {b:OB} {l h:Int} (h1:p≠g) (h2:p≠o):an p (IK g o b l h st).ob=an p st.ob:=by
 show an p (pU g _ (rG g (pU o _ st.ob)))=_;rw[gf,aJ h1,jQ,aJ h1,gf,aJ h2]
theorem Rc {g o:Nat} {b:OB} {l h:Int}:aT (IK g o b l h st).ob g:=by
 refine⟨⟨true,1,[]⟩,?_⟩;show an g (pU g _ (rG g (pU o _ st.ob)))=_;rw[gf,aR rfl]
theorem aa6 (hT:ij C) {a:Act} (h:bw F A w0 φ st a.tmps w) {o:Oper} {s x:Operand} {t t':TypeId} (ho:o.op= .call {callee:= .builtin .append,args:= #[s,x],argTypes:= #[t,t']}) {K:TS→Ev R} (hd: ∀d,o.dst=some d→d<a.tmps.size) {d:Nat} (mR:o.dst=some d)
 {e:TypeId} (he:AY C t=some e) {cs cx:CE} (hcs:zy (ua C st t s)=some cs) {oo:Option Nat} {z:Nat} {dp:Bool} {rows:List (List TC)} (hb:A4 st cs=some (oo,z,dp,rows)) (hsz:LD C e z=true) {e2:TypeId} (hkx:C.P.underlying t'=some (.slice e2)) (hcS:ek st.ob w φ cs (a.eval s)) (hcX:ek st.ob w φ cx (a.eval x))
 {bE:List (List TC)} {eM:TS} (hmv:aaI d oo dp cx st=some (z,bE,eM)) (hfit:fits (rows.length+bE.length) (C.tt e).bytes=true) (hk:(K (zz d ⟨dp,z,rows++bE⟩ eM)).holds cf lp Q):Did C F A w0 φ st o a w K cf lp Q:=by
 obtain⟨Yg,hz⟩:=VJ hsz;unfold aaI at hmv
 split at hmv
 ·rename_i o' l hh
  split at hmv
  ·rename_i z0 qg hl ajh
   simp only[bq,zJ] at hmv;obtain⟨rfl,rfl,rfl⟩:=hmv;rw[Bool.or_eq_false_iff] at ajh;obtain⟨hc1,hc2⟩:=ajh
   have hgo:uY d 1 0≠o':=fun e=>by rw[e] at hc2;simp at hc2
   have hg0:uY d 1 0≠0:=by unfold uY;omega
   have hoo: ∀p,oo=some p→p≠o'∧p≠uY d 1 0:=fun p e=>by
    rw[e] at hc1;simp only[Bool.or_eq_false_iff] at hc1;exact⟨tY hc1.1,tY hc1.2⟩
   obtain⟨b0,hb0,Ct⟩:=hcX;rw[hl] at hb0
   cases hb0
   have Ct:Dx z0 qg.length l hh (φ.V o') (a.eval x):=Ct;obtain⟨φ2,h2,eβ,eV,eS,Dq,X2,Bn,Vm,hcell,akr⟩:=h.ak9 (g:=uY d 1 0) hl Ct.1 Ct.2.1 Ct.2.2.1 hg0 hgo
   have aji:ek (IK (uY d 1 0) o' ⟨true,z0,qg⟩ l hh st).ob w φ2 cs (a.eval s)∧A4 (IK (uY d 1 0) o' ⟨true,z0,qg⟩ l hh st) cs=some (oo,z0,true,rows):=by
    unfold A4 at hb ⊢
    split at hb
    ·cases hb
     exact⟨hcS,rfl⟩
    ·rename_i p cut
     obtain⟨bp,hbp,hvp⟩:=hcS;rw[hbp] at hb;obtain⟨dq,zq,rq⟩:=bp;simp only[bq,zJ] at hb;obtain⟨rfl,rfl,rfl,rfl⟩:=hb;obtain⟨n1,n2⟩:=hoo p rfl;have hlk:=NJ (st:=st) (b:=⟨true,zq,qg⟩) (l:=l) (h:=hh) n2 n1;rw[hbp] at hlk;refine⟨⟨_,hlk,?_⟩,?_⟩
     ·rw[eV p n2];exact hvp
     ·simp only[hlk]
    ·cases hb
   obtain⟨_,hka,G5,X1,Z1,Ad,c,hB⟩:=Kj h2 aji.1 aji.2 (M:= .deep) (.inr ⟨rfl,rfl⟩)
   have alT:aT (p7 oo (IK (uY d 1 0) o' ⟨true,z0,qg⟩ l hh st)).ob (uY d 1 0):=by
    cases oo with
    |none=>exact Rc
    |some p=>exact lP.2 ⟨fun e=>(hoo p rfl).2 e.symm,Rc⟩
   have p2:=akr _ alT
   have hsrc:Src C.P z0 t' (a.eval x) (aq qg l hh).length Dq w:=by
    refine Ra (o7.cut (cut:=some (l,hh)) (h.obj o' _ hl) Ct) hkx rfl Bn (fun ad n c e=>hcell _ Ct ad n c e) fun y hy=> ?_;obtain⟨j,hj,rfl⟩:=List.mem_iff_getElem.1 hy;exact sM (p2.ok j _ (pN (bC (by rw[dg Vm,←Bn];exact hj)) (bC hj)))
   obtain⟨v,w',hrun,zu,hsize,hframe⟩:=VI (ty:=o.type) hT rfl (xY hT he).1 Yg h2 (hka.o6 (uY d 1 0)) (hd d mR) (dp:=true) hz hB.parts p2 hB.width Vm hB.len Bn hB.le hB.max hsrc hB.at' hfit;refine⟨.value v,v,w',_,?_,.inl rfl,by rw[mR];exact zu,hk,hsize,fun k hk hnw=>hframe k hk fun ad Tv e=>hnw ?_⟩
   ·rw[v7 ho]
    simp only[builtin,Sem.run_bind]
    have:(#[s,x].map a.eval)= #[a.eval s,a.eval x]:=by simp
    rw[this,hB.val,hrun]
    rfl
   ·rcases hB.at' with⟨e0,_⟩|⟨ad',e0,_,⟨o2,o21,o22,o23⟩,_⟩
    ·rw[Tv] at e0;cases e0
    ·rw[Tv] at e0
     cases e0
     cases oo with
     |none=>exact absurd o21 o22
     |some p=>
      have:o2=p:=Classical.byContradiction fun hne=>o22 (lP.2 ⟨hne,o21⟩);subst this;obtain⟨n1,n2⟩:=hoo o2 rfl
      have g1: ∃q,zy (ua C st t s)=some (.ref o2 q):=by
       unfold A4 at hb
       split at hb
       ·cases hb
       ·rename_i p cut
        split at hb
        ·simp only[bq,zJ] at hb
         obtain⟨rfl,_⟩:=hb;exact⟨_,hcs⟩
        ·cases hb
       ·cases hb
      obtain⟨q,g1⟩:=g1
      have g2:aT st.ob o2:=by
       obtain⟨b2,hb2⟩:=o21;rw[NJ n2 n1] at hb2;exact⟨b2,hb2⟩
      refine .inr ⟨o2,?_,g2,by rw[e];exact eS o2 _ n2 o23⟩;unfold writes;rw[ho];simp only;refine List.mem_map.2 ⟨o2,?_,rfl⟩
      revert g1
      cases ua C st t s with
      |v tup es=>
       unfold zy
       split
       ·rename_i e0 e1
        intro g1
        cases g1
        simp only[TE.v.injEq] at e1;obtain⟨rfl,rfl⟩:=e1;exact .head _
       ·intro g1;cases g1
       ·intro g1;cases g1
      |_=>intro g1;simp[zy] at g1
  ·cases hmv
 ·cases hmv
theorem ahB (h:bw F A w0 φ st tm w) {cx:CE} {vX:Value} (hc:ek st.ob w φ cx vX) {tx e':TypeId} (hk:C.P.underlying tx=some (.slice e')) {z:Nat} {rows:List (List TC)} (hr:aew st cx=some (z,rows)) (sta:TS):
 ∃Dq,nP w φ sta sta (fy .snap rows.flatten Dq) (fun _ _=>False) (fun _=>False)∧(∀r∈rows,r.length=z)∧Dq.length=rows.length*z∧Src C.P z tx vX rows.length Dq w:=by
 unfold aew at hr
 split at hr
 ·rename_i o' cut
  split at hr
  ·rename_i z0 qg hl
   cases hr
   obtain⟨b0,hb0,Ct⟩:=hc;rw[hl] at hb0
   cases hb0
   have Bi:=o7.cut (h.obj o' _ hl) Ct;obtain⟨vs,l1,zp,hz,hcell,TG⟩:=Bi.vals
   have hok: ∀(i:Nat) (it:It),(fy .snap (Yl cut qg).flatten vs)[i]?=some it→it.1= .snap∧av w (fun k=>φ.I k∨False) .snap Lw it.2.1 it.2.2:=fun i it hi=>by
    obtain⟨tc,v,t1,t2,rfl⟩:=oN hi;obtain⟨T,hT⟩:=TG i tc v t1 t2;exact⟨rfl,hT.rm fun k hk=> .inl hk⟩
   refine⟨vs,⟨fun i it hi=> ?_,fun _ _ _ hk=>hk.elim,fun _ hk=>hk.elim,fun _ _ _ _ _ hk=>hk.elim,fD.refl _⟩,zp,l1,Ra Bi hk rfl l1 hcell fun y hy=> ?_⟩
   ·obtain⟨e1,e2⟩:=hok i it hi
    rw[e1];exact e2.mono fun k hk=>hk.elim
   ·obtain⟨j,hj,rfl⟩:=List.mem_iff_getElem.1 hy
    exact sM (hok j _ (pN (bC (by rw[dg zp,←l1];exact hj)) (bC hj))).2
  ·cases hr
 ·cases hr
theorem adl (hT:ij C) {a:Act} (h:bw F A w0 φ st a.tmps w) {o:Oper} {args:Array Operand} {ts:Array TypeId} (ho:o.op= .call {callee:= .builtin .append,args,argTypes:=ts}) {K:TS→Ev R} (hd: ∀d,o.dst=some d→d<a.tmps.size) (hk:(ql C st o K).holds cf lp Q):
 Did C F A w0 φ st o a w K cf lp Q:=by
 unfold ql at hk;rw[ho] at hk;simp only at hk
 split at hk
 ·rename_i d s x t t' mR h1 h2
  have e1:args= #[s,x]:=by cases args;simp at h1;subst h1;rfl
  have e2:ts= #[t,t']:=by cases ts;simp at h2;subst h2;rfl
  subst e1 e2;have hsv:=fC hT h t s;have hxv:=fC hT h t' x
  have fin: ∀{dp:Bool} {z:Nat} {e:TypeId} {rows bE:List (List TC)} {sta eM:TS} {G5 Dq:List Value} {X1 X2:Nat→Nat→Prop} {Z1 Z2:Nat→Prop} {Ad:Option Addr} {c:Nat} {cs:CE} {oo:Option Nat},
   AY C t=some e→zy (ua C st t s)=some cs→A4 st cs=some (oo,z,(match dp with|true=>true|false=>false),rows)∨True→LD C e z=true→ajO w φ st sta dp z rows (a.eval s) (if dp then .deep else .snap) G5 X1 Z1 Ad c→(∀ad,Ad=some ad→ ∃o',zy (ua C st t s)=some (.ref o' none)∨(∃q,zy (ua C st t s)=some (.ref o' q))∧True)→
   (∀ad,Ad=some ad→ ∃o' q,zy (ua C st t s)=some (.ref o' q)∧aT st.ob o'∧φ.S o' ad.block)→
   bw F A w0 φ eM a.tmps w→nP w φ sta eM (fy (if dp then .deep else .snap) bE.flatten Dq) X2 Z2→(∀r∈bE,r.length=z)→Dq.length=bE.length*z→Src C.P z t' (a.eval x) bE.length Dq w→fits (rows.length+bE.length) (C.tt e).bytes=true→
   (K (zz d ⟨dp,z,rows++bE⟩ eM)).holds cf lp Q→Did C F A w0 φ st o a w K cf lp Q:=by
   intro dp z e rows bE sta eM G5 Dq X1 X2 Z1 Z2 Ad c cs oo he hcs _ hsz hb _ hown FD p2 Vm Bn hsrc hfit hk;obtain⟨Yg,hz⟩:=VJ hsz;obtain⟨v,w',hrun,zu,hsize,hframe⟩:=VI (ty:=o.type) hT rfl (xY hT he).1 Yg h FD (hd d mR) hz hb.parts p2 hb.width Vm hb.len Bn hb.le hb.max hsrc hb.at' hfit;refine⟨.value v,v,w',_,?_,.inl rfl,by rw[mR];exact zu,hk,hsize,fun k hk hnw=>hframe k hk fun ad Tv e=>hnw ?_⟩
   ·rw[v7 ho]
    simp only[builtin,Sem.run_bind]
    have:(#[s,x].map a.eval)= #[a.eval s,a.eval x]:=by simp
    rw[this,hb.val,hrun]
    rfl
   ·obtain⟨o',q,g1,g2,g3⟩:=hown ad Tv
    refine .inr ⟨o',?_,g2,by rw[e];exact g3⟩;unfold writes;rw[ho];simp only;refine List.mem_map.2 ⟨o',?_,rfl⟩
    revert g1
    cases ua C st t s with
    |v tup es=>
     unfold zy
     split
     ·rename_i e0 e1
      intro g1
      cases g1
      simp only[TE.v.injEq] at e1;obtain⟨rfl,rfl⟩:=e1;exact .head _
     ·intro g1;cases g1
     ·intro g1;cases g1
    |_=>intro g1;simp[zy] at g1
  unfold ab4 at hk
  split at hk
  ·rename_i e cs cx he hcs hcx
   obtain⟨_,hcS⟩:=zR hsv hcs;obtain⟨_,hcX⟩:=zR hxv hcx
   have hown: ∀{oo:Option Nat} {z:Nat} {dp dp':Bool} {rows:List (List TC)} {M:Mode} {G5:List Value} {X1:Nat→Nat→Prop} {Z1:Nat→Prop} {Ad:Option Addr} {c:Nat},A4 st cs=some (oo,z,dp,rows)→ajO w φ st (p7 oo st) dp' z rows (a.eval s) M G5 X1 Z1 Ad c→
    ∀ad,Ad=some ad→ ∃o' q,zy (ua C st t s)=some (.ref o' q)∧aT st.ob o'∧φ.S o' ad.block:=fun {oo z dp dp' rows M G5 X1 Z1 Ad c} hb hB ad Tv=>by
    unfold A4 at hb
    split at hb
    ·cases hb
     rcases hB.at' with⟨e0,_⟩|⟨ad',e0,_,⟨o',o1,o2,o3⟩,_⟩
     ·rw[Tv] at e0;cases e0
     ·exact absurd o1 o2
    ·rename_i o' cut
     cases hl:an o' st.ob with
     |none=>rw[hl] at hb;cases hb
     |some b=>
      obtain⟨d0,z0,qg⟩:=b;rw[hl] at hb
      cases hb
      rcases hB.at' with⟨e0,_⟩|⟨ad',e0,_,⟨o2,o21,o22,o23⟩,_⟩
      ·rw[Tv] at e0;cases e0
      ·rw[Tv] at e0
       cases e0
       have:o2=o':=Classical.byContradiction fun hne=>o22 (lP.2 ⟨hne,o21⟩);subst this;exact⟨o2,cut,hcs,o21,o23⟩
    ·cases hb
   split at hk
   ·rename_i oo z dp rows hb anC
    split at hk
    ·rename_i b hsz hz1
     have hk2:(match fits (rows.length+b.size) (C.tt e).bytes with|true=>K (zz d ⟨dp,z,rows++H7 b⟩ (p7 oo st))|false=> .fail:Ev R).holds cf lp Q:=hk;clear hk
     split at hk2
     ·rename_i hfit
      have hz1:=jw hz1;subst hz1;obtain⟨hz,hka,G5,X1,Z1,Ad,c,hB⟩:=Kj h hcS hb (M:=if dp then .deep else .snap) (by cases dp<;>simp);have hv:=WD hcX
      exact fin (oo:=oo) he hcs (.inr trivial) hsz hB (fun ad Tv=>let ⟨o',q,g,_⟩:=hown hb hB ad Tv;⟨o',.inr ⟨⟨q,g⟩,trivial⟩⟩) (hown hb hB) hka (VH b _ _) (NH b) (by rw[byteCells_length,qE,Nat.mul_one])
       (by rw[hv,qE];exact Src.ofString w (Q3 hT anC) b) (by rw[qE];exact hfit) hk2
     ·exact hk2.elim
    ·exact hk.elim
   ·rename_i oo z dp rows e2 hb htx
    have hkx:=(Q4 hT htx).1
    split at hk
    ·exact hk.elim
    ·rename_i hsz
     split at hk
     ·split at hk
      ·rename_i z' bE hr
       split at hk
       ·rename_i JS
        have JS:=jw JS;subst JS;have hk2:(match(bF bE&&fits (rows.length+bE.length) (C.tt e).bytes) with|true=>K (zz d ⟨dp,z,rows++bE⟩ (p7 oo st))|false=> .fail:Ev R).holds cf lp Q:=hk;clear hk
        split at hk2
        ·rename_i hfit
         simp only[dY] at hfit;obtain⟨hz,hka,G5,X1,Z1,Ad,c,hB⟩:=Kj h hcS hb (M:=if dp then .deep else .snap) (by cases dp<;>simp);obtain⟨Dq,p2,Vm,Bn,hsrc⟩:=adk h hcX hkx hr hfit.1 (if dp then .deep else .snap) (p7 oo st);exact fin (oo:=oo) he hcs (.inr trivial) hsz hB (fun ad Tv=>let ⟨o',q,g,_⟩:=hown hb hB ad Tv;⟨o',.inr ⟨⟨q,g⟩,trivial⟩⟩) (hown hb hB) hka p2 Vm Bn hsrc hfit.2 hk2
        ·exact hk2.elim
       ·exact hk.elim
      ·exact hk.elim
     ·split at hk
      ·rename_i z' bE eM hmv
       split at hk
       ·rename_i JS
        have JS:=jw JS;subst JS;have hk2:(match fits (rows.length+bE.length) (C.tt e).bytes with|true=>K (zz d ⟨dp,z,rows++bE⟩ eM)|false=> .fail:Ev R).holds cf lp Q:=hk;clear hk
        split at hk2
        ·rename_i hfit
         exact aa6 hT h ho hd mR he hcs hb hsz hkx hcS hcX hmv hfit hk2
        ·exact hk2.elim
       ·exact hk.elim
      split at hk
      ·rename_i z' bE htp
       split at hk
       ·rename_i JS
        have JS:=jw JS;subst JS;have hk2:(match fits (rows.length+bE.length) (C.tt e).bytes with|true=>K (zz d ⟨false,z,rows++bE⟩ (p7 oo st))|false=> .fail:Ev R).holds cf lp Q:=hk;clear hk
        split at hk2
        ·rename_i hfit
         obtain⟨hz,hka,G5,X1,Z1,Ad,c,hB⟩:=Kj h hcS hb (M:= .snap) (.inl rfl);obtain⟨Dq,p2,Vm,Bn,hsrc⟩:=ahB h hcX hkx htp (p7 oo st);exact fin (oo:=oo) (dp:=false) he hcs (.inr trivial) hsz ⟨hB.val,hB.parts,hB.width,hB.len,hB.le,hB.max,hB.at'⟩ (fun ad Tv=>let ⟨o',q,g,_⟩:=hown hb hB ad Tv;⟨o',.inr ⟨⟨q,g⟩,trivial⟩⟩) (hown hb hB) hka p2 Vm Bn hsrc hfit hk2
        ·exact hk2.elim
       ·exact hk.elim
      split at hk
      ·rename_i z' bE eM d1 hab
       split at hk
       ·rename_i JS
        have JS:=jw JS;subst JS;have hk2:(match fits (rows.length+bE.length) (C.tt e).bytes with|true=>K (zz d ⟨dp&&d1,z,rows++bE⟩ eM)|false=> .fail:Ev R).holds cf lp Q:=hk;clear hk
        split at hk2
        ·rename_i hfit
         obtain⟨hz,hka,G5,X1,Z1,Ad,c,hB⟩:=Kj h hcS hb (M:=if(dp&&d1) then .deep else .snap) (by cases dp<;>cases d1<;>simp);obtain⟨FD,Dq,X2,Z2,p2,Vm,Bn,hsrc⟩:=ahA hka hB.parts.sub hcX hkx hab (M:=if(dp&&d1) then .deep else .snap) (by cases dp<;>cases d1<;>simp);exact fin (oo:=oo) (dp:=dp&&d1) he hcs (.inr trivial) hsz ⟨hB.val,hB.parts,hB.width,hB.len,hB.le,hB.max,hB.at'⟩ (fun ad Tv=>let ⟨o',q,g,_⟩:=hown hb hB ad Tv;⟨o',.inr ⟨⟨q,g⟩,trivial⟩⟩) (hown hb hB) FD p2 Vm Bn hsrc hfit hk2
        ·exact hk2.elim
       ·exact hk.elim
      ·exact hk.elim
   ·exact hk.elim
  ·exact hk.elim
 ·exact hk.elim
end Go.T
namespace Go.T
variable {F : Nat → Prop} {A : Arg} {w0 w w' : World} {φ φ' φ1 : Fp} {st st' sta eM : TS} {tm IF : Array Value} {C : mG}
variable {R : Type} {cf : Cf} {lp : Lp} {Q : R → Prop}
theorem NK {P:Program} {e:TypeId} {z:Nat} {i:TypeInfo} (h:P.info? e=some i) (hz:i.size=z) (w:World):(sizeOf e).run P w= .ok z w:=by
 simp[sizeOf,typeInfo,h,hz]
theorem ahC {R S:Nat→Prop} {m:Mode} {z:Nat} {rows:List (List TC)} {v:Value} (h:av w R m S (.sub z rows) v): ∃A c,v= .slice A rows.length c∧(rows≠[]→ ∃ad,A=some ad):=by
 cases h with
 |sub _ _ _ _ A c u T k hn=>exact⟨A,c,rfl,k.addr⟩
def afe (v:Value):FZ:=⟨.sc v,v,fun _=>False⟩
attribute [local semireducible] mg in
theorem zY (rows bE:List (List TC)):mg rows bE=bE.take rows.length++rows.drop bE.length:=rfl
theorem ahD (hT:ij C) {a:Act} (h:bw F A w0 φ st a.tmps w) {o:Oper} {args:Array Operand} {ts:Array TypeId} (ho:o.op= .call {callee:= .builtin .copy,args,argTypes:=ts}) {K:TS→Ev R} (hd: ∀d,o.dst=some d→d<a.tmps.size) (hk:(ql C st o K).holds cf lp Q):
 Did C F A w0 φ st o a w K cf lp Q:=by
 unfold ql at hk;rw[ho] at hk;simp only at hk
 split at hk
 ·rename_i s x t t' h1 h2
  have e1:args= #[s,x]:=by cases args;simp at h1;subst h1;rfl
  have e2:ts= #[t,t']:=by cases ts;simp at h2;subst h2;rfl
  subst e1 e2;have hsv:=fC hT h t s;have hxv:=fC hT h t' x;unfold aiW at hk
  split at hk
  ·rename_i e r cx he hcs hcx
   obtain⟨JQ,hcS⟩:=zR hsv hcs;obtain⟨_,hcX⟩:=zR hxv hcx
   split at hk
   ·rename_i z rows z' bE hl hr Yg
    split at hk
    ·rename_i JS
     simp only[dY] at JS;have hz1:=jw JS.1;have hz2:=jw JS.2;subst hz1
     have hk2:(match bF bE with
      |true=>(match o.dst with
       |some d=>K ((wI r ⟨true,z,mg rows bE⟩ st).set d (one (.sc (.int .i64 (Int.ofNat (qj bE.length rows.length))))))
       |none=>K (wI r ⟨true,z,mg rows bE⟩ st))
      |false=> .fail:Ev R).holds cf lp Q:=hk
     clear hk
     split at hk2
     ·rename_i hsc
      have hin:aT st.ob r:=⟨_,hl⟩;obtain⟨b0,hb0,hv0⟩:=hcS;rw[hl] at hb0
      cases hb0
      have hv0:a.eval s=φ.V r:=hv0;have hO:av w φ.I .deep (φ.S r) (.sub z rows) (φ.V r):=h.obj r _ hl;obtain⟨Ad,c,dV,op⟩:=hO.opened;obtain⟨Bi,_⟩:=tC h hcX hr;obtain⟨vs,l1,zp,hz,hcell,TG⟩:=Bi.vals;obtain⟨A',c',hxval,hA'⟩:=ahC Bi;obtain⟨hkn,hnp⟩:=Bx Yg;obtain⟨i,zv,g1,g2,_⟩:=(hT e hkn).info
      have isz:i.size=z:=by rw[g2,hz2]
      have hU:=(xY hT he).1
      have lits:dV.length=rows.length*z:=by
       have:=congrArg List.length op.tcs;rw[dg op.width,cq] at this;exact this.symm
      obtain⟨us,hus⟩: ∃us,us=vs.take (rows.length*z):=⟨_,rfl⟩
      have lus:us.length=qj bE.length rows.length*z:=by
       rw[hus,c7,l1];rcases Nat.le_total bE.length rows.length with hle|hle
       ·have:=oH z hle
        rw[show qj bE.length rows.length=bE.length from Nat.min_eq_left hle];omega
       ·have:=oH z hle
        rw[show qj bE.length rows.length=rows.length from Nat.min_eq_right hle];omega
      have usS: ∀v∈vs,Oc v:=fun v hv=>by
       obtain⟨j,hj,rfl⟩:=List.mem_iff_getElem.1 hv;obtain⟨tc,htc⟩: ∃tc,bE.flatten[j]?=some tc:=⟨_,bC (by rw[dg zp,←l1];exact hj)⟩;obtain⟨T,hT⟩:=TG j tc _ htc (bC hj);obtain⟨v',rfl⟩:=Rb hsc j tc htc
       cases hT with
       |sc _ _ _ hs=>exact hs
      have tcV:bE.flatten=vs.map .sc:=by
       apply List.ext_getElem
       ·rw[dg zp,cq,l1]
       ·intro j h1 h2
        rw[List.getElem_map];have htc:bE.flatten[j]?=some bE.flatten[j]:=bC h1
        have hj':j<vs.length:=by rw[cq] at h2;exact h2
        have hvs:vs[j]?=some vs[j]:=bC hj';obtain⟨T,hT⟩:=TG j _ _ htc hvs;obtain⟨v',hv'⟩:=Rb hsc j _ htc;rw[hv'] at hT ⊢
        cases hT with
        |sc _ _ _ hs=>rfl
      have one1: ∀v∈us,v.oneCell'=true:=fun v hv=>by
       have:=usS v (by rw[hus] at hv;exact tf hv)
       cases v<;>first|rfl|cases this
      have agU: ∀W:World,(∀x,W.cell? x=w.cell? x)→(Builtin.firstCells z (qj bE.length rows.length) (.slice A' bE.length c')).run C.P W= .ok us.toArray W:=fun W hW=>by
       by_cases hne:bE=[]
       ·have h0:us=[]:=Dt (by rw[lus,hne];simp)
        subst h0;subst hne
        cases A' with
        |none=>simp[Builtin.firstCells]
        |some ad=>exact run_firstCells_some W z _ ad _ c' [] bZ (fun j v hj=>by simp at hj)
       ·obtain⟨ad,rfl⟩:=hA' hne
        refine run_firstCells_some W z _ ad _ c' us lus fun j v hj=> ?_;rw[hW];refine hcell ad _ _ hxval j v ?_;rw[hus,zG] at hj
        split at hj
        ·exact hj
        ·cases hj
      have aiN:(mg rows bE).length=rows.length:=by
       rw[zY,ct,c7,gQ];omega
      have fin: ∀w',(Builtin.copy_ #[t,t'] o.type #[a.eval s,a.eval x]).run C.P w= .ok (goInt (qj bE.length rows.length)) w'→bw F A w0 (φ.add r (φ.S r) (φ.V r)) (wI r ⟨true,z,mg rows bE⟩ st) a.tmps w'→w.heap.size≤w'.heap.size→(∀k,k<w.heap.size→ ¬φ.S r k→w'.heap[k]?=w.heap[k]?)→Did C F A w0 φ st o a w K cf lp Q:=fun w' hrun zu hsz hfr=>by
       have run:(execOp a.eval o).run C.P w= .ok (.value (goInt (qj bE.length rows.length))) w':=by
        rw[v7 ho];simp only[builtin,Sem.run_bind]
        have:(#[s,x].map a.eval)= #[a.eval s,a.eval x]:=by simp
        rw[this,hrun]
        rfl
       have wr: ∀k,k<w.heap.size→ ¬Wr st φ (writes C st o) k→w'.heap[k]?=w.heap[k]?:=fun k hk hn=>hfr k hk fun hS=>hn (.inr ⟨r,by
        unfold writes;rw[ho];simp only;refine List.mem_map.2 ⟨r,?_,rfl⟩
        revert hcs
        cases ua C st t s with
        |v tup es=>
         unfold zy
         split
         ·rename_i e0 e1
          intro g1
          cases g1
          simp only[TE.v.injEq] at e1;obtain⟨rfl,rfl⟩:=e1;exact .head _
         ·intro g1;cases g1
         ·intro g1;cases g1
        |_=>intro g1;simp[zy] at g1,hin,hS⟩)
       cases mR:o.dst with
       |none=>
        rw[mR] at hk2;exact⟨_,goInt (qj bE.length rows.length),w',_,run,.inl rfl,by rw[mR];exact⟨_,zu⟩,hk2,hsz,wr⟩
       |some d=>
        rw[mR] at hk2;refine⟨_,goInt (qj bE.length rows.length),w',_,run,.inl rfl,?_,hk2,hsz,wr⟩;rw[mR];exact⟨_,zu.TM (v:=goInt (qj bE.length rows.length)) (hd d mR) ⟨_,rfl,_,rfl,rfl,rfl,trivial⟩⟩
      have hX:=fun k hk=>h.sep.fresh r k hin hk
      cases Tv:Ad with
      |none=>
       have hc0:=op.none Tv;have hle:=op.le;have hr0:rows=[]:=Dt au
       have X9:mg rows bE=rows:=by rw[zY,hr0];simp
       refine fin w ?_ ?_ (cL _) fun _ _ _=>rfl
       ·rw[hv0,op.val,Tv,hxval]
        simp only[Builtin.copy_,Builtin.lenOf];simp[run_underlying hU,NK g1 isz,agU w fun _=>rfl]
       ·refine h.wI hl rfl aiN ?_ h.frm (cL _) (fun _ _ _=>rfl) hX (fun k hk=>h.sep.read r k hin hk) (fun k d hk hne hd hs=>hne (h.sep.apart d r k hd hin hs hk)) (fun b cs Ny hw hk=>(h.sep.box b cs Ny hw).2.1 r hin hk)
        show av w φ.I .deep (φ.S r) (.sub z (mg rows bE)) (φ.V r);rw[X9];exact hO
      |some ad=>
       obtain⟨hS1,hsp,⟨sp,FD,G6⟩,hfz,hso⟩:=op.row ad Tv;obtain⟨b,off,spot⟩:=ad
       cases hsp
       simp only at FD G6 hfz hso hS1;have hle:=op.le;have elc:=oH z hle
       have lmin:us.length≤rows.length*z:=by rw[lus];exact oH z (Nat.min_le_right _ _)
       have lL:(dV.map (·.val)++sp).length=c*z:=G6;have hst:=run_storeCells_cells (P:=C.P) b off us 0 w (fun j hj=>by rw[tW,FD j _ (bC au)];rfl) (fun j hj=>by rw[tW];exact hfz j au) one1;rw[tW] at hst;have r2:=FD.put (p:=0) (us:=us) au;rw[tW,List.take_zero,tg,lG] at r2
       have hnew:sN (w.setCells b off us) (φ.S r) z (mg rows bE) (φ.V r) Ad c (us.map afe++dV.drop (bE.length*z)):=by
        have ajj:(us.map afe++dV.drop (bE.length*z)).map (·.val)=us++(dV.map (·.val)).drop (bE.length*z):=by
         rw[td,List.map_map,Bp]
         congr 1
         have:((fun t:FZ=>t.val)∘afe)=id:=rfl;rw[this,List.map_id]
        have aav:(dV.map (·.val)++sp).drop us.length=(dV.map (·.val)).drop (bE.length*z)++sp:=by
         rcases Nat.le_total bE.length rows.length with hq|hq
         ·have:=oH z hq
          rw[lus,show qj bE.length rows.length=bE.length from Nat.min_eq_left hq,List.drop_append_of_le_length (by rw[cq];omega)]
         ·have:=oH z hq
          rw[lus,show qj bE.length rows.length=rows.length from Nat.min_eq_right hq,List.drop_append_of_le_length (by rw[cq];omega),Bo (by rw[cq];omega),Bo (by rw[cq];omega)]
        refine⟨by rw[aiN];exact op.val,by rw[aiN];exact op.le,op.cap,op.z0,fun q hq=> ?_,?_,fun t ht=> ?_,?_,fun t ht k hk=> ?_,op.none,fun ad e=> ?_⟩
        ·rw[zY] at hq
         rcases List.mem_append.1 hq with hq|hq
         ·exact zp q (tf hq)
         ·exact op.width q (rD hq)
        ·rw[zY,Vp,CM zp,CN op.width,op.tcs,tcV,←Du,←hus,td,List.map_map,Bp]
         rfl
        ·rcases List.mem_append.1 ht with ht|ht
         ·obtain⟨v,hv,rfl⟩:=List.mem_map.1 ht
          exact .sc _ _ _ (usS v (by rw[hus] at hv;exact tf hv))
         ·have hm:=rD ht
          refine(op.ok t hm).move (fun k hk=>hk.elim) fun _ k hk=> ?_;have hs:=op.sub t hm k hk;exact gV _ _ _ _ (hX k hs.1).1 (hs.2 _ Tv)
        ·refine List.pairwise_append.2 ⟨?_,(op.qh.sublist (List.drop_sublist _ _)),fun x hx y hy k hk=> ?_⟩
         ·rw[List.pairwise_map]
          exact List.pairwise_of_forall fun _ _ k hk=>hk.elim
         ·obtain⟨v,hv,rfl⟩:=List.mem_map.1 hx
          exact hk.elim
        ·rcases List.mem_append.1 ht with ht|ht
         ·obtain⟨v,hv,rfl⟩:=List.mem_map.1 ht
          exact hk.elim
         ·exact op.sub t (rD ht) k hk
        ·rw[Tv] at e
         cases e
         refine⟨hS1,rfl,⟨sp,?_,?_⟩,fun j hj=> ?_,fun hz1 j=> ?_⟩
         ·rw[ajj,tT,←aav];exact r2
         ·rw[ajj,tT,←aav,ct,gQ];omega
         ·rw[show(w.setCells b off us).frozen? ⟨b,off+j,none⟩=w.frozen? ⟨b,off+j,none⟩ from World.frozen?_setCells b us off w _];exact hfz j hj
         ·rw[show(w.setCells b off us).frozen? ⟨b,j,none⟩=w.frozen? ⟨b,j,none⟩ from World.frozen?_setCells b us off w _];exact hso hz1 j
       have hsz:=(ni b us off w).2.2.2;refine fin (w.setCells b off us) ?_ ?_ (by rw[hsz];exact cL _) fun k hk hn=>gV _ _ _ _ hk fun e=>hn (by rw[e];exact hS1)
       ·rw[hv0,op.val,Tv,hxval]
        simp only[Builtin.copy_,Builtin.lenOf];simp[run_underlying hU,NK g1 isz,agU w fun _=>rfl,hst]
       ·refine h.wI hl rfl aiN hnew.rep (h.frm.setCells (hX b hS1).2) (by rw[hsz];exact cL _) (fun k hk hn=>gV _ _ _ _ hk fun e=>hn (by rw[e];exact hS1)) (fun k hk=>by rw[hsz];exact hX k hk) (fun k hk=>h.sep.read r k hin hk) (fun k d hk hne hd hs=>hne (h.sep.apart d r k hd hin hs hk)) (fun b' cs Ny hw hk=>(h.sep.box b' cs Ny hw).2.1 r hin hk)
     ·exact hk2.elim
    ·exact hk.elim
   ·exact hk.elim
  ·exact hk.elim
 ·exact hk.elim
end Go.T
