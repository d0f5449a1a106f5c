import Derived.Test.YtlkjkfidmkdchaaT2
import Derived.Deep.AppendSrc
import Derived.Deep.MidRow
import Derived.Deep.Upon
import Derived.Laws.MakeOwn
import Derived.Laws.IdiomStrings
import Derived.Laws.IdiomCopy
set_option linter.all false
namespace Go.T
variable {F : Nat → Prop} {A : Arg} {w0 w w' : World} {φ φ' : Fp} {st st' bh eZ : TS} {tm qc : Array Value} {C : dW}
theorem gQ: ∀(W:List (Nat×OB)) (ob:List (Nat×OB)) (d:Nat),aa d (c7 W ob)=match aa d W with|some b=>some b|none=>aa d ob
 |[],ob,d=>rfl
 |(i,b)::r,ob,d=>by
  simp only[c7,bP,aa,gQ r ob d]
  by_cases h:d=i
  ·subst h;simp
  ·rw[aH h,beq_false (Ne.symm h)]
theorem xN {α:Type}: ∀{W:List (Nat×α)} {d:Nat},d∈g8 W↔ ∃b,aa d W=some b
 |[],d=>by simp[g8,aa]
 |(i,b)::r,d=>by
  simp only[g8,bg,xN (W:=r),aa]
  by_cases h:d=i
  ·subst h;simp
  ·rw[beq_false (Ne.symm h)];simp[h]
theorem sy {α:Type} {W:List (Nat×α)} {d:Nat} (h:d∉g8 W):aa d W=none:=by
 cases hd:aa d W with
 |none=>rfl
 |some b=>exact absurd (xN.2 ⟨b,hd⟩) h
theorem ql {a l:List Nat} (h:je a l=true): ∃x,x∈a∧x∈l:=by
 induction a with
 |nil=>cases h
 |cons y r ih=>
  simp only[je] at h
  cases h1:dx y l with
  |true=>exact⟨y,.head _,c8.1 h1⟩
  |false=>rw[h1] at h;obtain⟨x,a,b⟩:=ih h;exact⟨x,.tail _ a,b⟩
def Fp.wr (φ:Fp) (W:List (Nat×OB)) (X:Nat→Nat→Prop) (Z:Nat→Prop):Fp:=
 {φ with I:=fun k=>φ.I k∨Z k,S:=fun d k=>match aa d W with|some _=>X d k|none=>φ.S d k}
theorem wV {W:List (Nat×OB)} {X:Nat→Nat→Prop} {Z:Nat→Prop} {d k:Nat} (h:aa d W=none):(φ.wr W X Z).S d k=φ.S d k:=by
 unfold Fp.wr;simp only[h]
theorem AF {W:List (Nat×OB)} {X:Nat→Nat→Prop} {Z:Nat→Prop} {d k:Nat} {b:OB} (h:aa d W=some b):(φ.wr W X Z).S d k=X d k:=by
 unfold Fp.wr;simp only[h]
theorem ak.wrote (h:ak F A w0 φ st tm w) (W:List (Nat×OB)) (X:Nat→Nat→Prop) (Z G:Nat→Prop)
 (hf:CX F w0 w') (hsz:w.heap.size≤w'.heap.size) (hw: ∀k,k<w.heap.size→ ¬G k→w'.heap[k]?=w.heap[k]?)
 (gF: ∀k,G k→w0.heap.size≤k∨F k) (gI: ∀k,G k→ ¬φ.I k) (gS: ∀k o,G k→aj st.ob o→aa o W=none→ ¬φ.S o k) (gB: ∀b cs,aa b st.bx=some cs→ ¬G (φ.β b).block)
 (hW: ∀o b',aa o W=some b'→ ∃b,aa o st.ob=some b∧b'.z=b.z∧b'.rows.length=b.rows.length∧ah w' (fun k=>φ.I k∨Z k) b'.m (X o) (.sub b'.z b'.rows) (φ.V o)∧
   ∀k,X o k→k<w'.heap.size∧(w0.heap.size≤k∨F k)∧ ¬φ.I k∧ ¬Z k∧(∀d,aj st.ob d→aa d W=none→ ¬φ.S d k)∧(∀d b,aa d W=some b→X d k→d=o)∧ ∀b cs,aa b st.bx=some cs→lS b=true→(φ.β b).block≠k)
 (hZ: ∀k,Z k→k<w'.heap.size∧(w0.heap.size≤k∨F k∨A.sh k)∧(∀d,aj st.ob d→aa d W=none→ ¬φ.S d k)∧ ∀b cs,aa b st.bx=some cs→lS b=true→(φ.β b).block≠k):
 ak F A w0 (φ.wr W X Z) (ja W st) tm w':=by
 have fI: ∀d,aj (c7 W st.ob) d↔aj st.ob d:=fun d=>by
  unfold aj;rw[gQ]
  cases hd:aa d W with
  |none=>rfl
  |some b=>obtain⟨b0,h0,_⟩:=hW d b hd;exact⟨fun _=>⟨b0,h0⟩,fun _=>⟨b,rfl⟩⟩
 have gA: ∀k,G k→ ¬A.all k:=fun k hg ha=>by
  have:=h.sep.ez k ha;rcases gF k hg with h3|h3
  ·omega
  ·exact this.2 h3
 have stI: ∀k,φ.I k→w'.heap[k]?=w.heap[k]?:=fun k hk=>hw k (h.sep.ro k hk).1 fun hg=>gI k hg hk
 have stS: ∀d k,aa d W=none→d=0∨aj st.ob d→φ.S d k→w'.heap[k]?=w.heap[k]?:=fun d k hn hd hk=>hw k (h.sep.lt h.frm.size hd hk) fun hg=>by
  rcases hd with rfl|hd
  ·rw[h.sep.arg] at hk;exact gA k hg hk
  ·exact gS k d hg hd hn hk
 have w0n:aa 0 W=none:=by
  cases h0:aa 0 W with
  |none=>rfl
  |some b=>obtain⟨b0,h1,_⟩:=hW 0 b h0;exact absurd rfl (h.sep.nz 0 ⟨b0,h1⟩)
 have stR: ∀ds k,(∀d∈ds,aa d W=none)→(∀d∈ds,d=0∨aj st.ob d)→rd φ ds k→rd (φ.wr W X Z) ds k∧w'.heap[k]?=w.heap[k]?:=fun ds k hn hd hk=>by
  rcases hk with hk|⟨d,hm,hk⟩
  ·exact⟨.inl (.inl hk),stI k hk⟩
  ·exact⟨.inr ⟨d,hm,by rw[wV (hn d hm)];exact hk⟩,stS d k (hn d hm) (hd d hm) hk⟩
 have stV: ∀p b1 ad n c i f tc u,aa p W=none→aa p st.ob=some b1→φ.V p= .slice (some ad) n c→kO b1.rows i f=some tc→w.cell? (ad.add (i*b1.z+f))=some u→w'.cell? (ad.add (i*b1.z+f))=some u:=by
  intro p b1 ad n c i f tc u hne hp hv ht hcell;have hO:=h.obj p b1 hp;unfold eE at hO;rw[hv] at hO
  have hS:φ.S p ad.block:=by
   cases hO with
   |sub _ _ _ _ _ _ u T k hn=>exact(k.own (by unfold OB.m;split<;>simp)).2 ad rfl|>.1
  rw[bT (w:=w)]
  ·exact hcell
  ·rw[aK];exact stS p _ hne (.inr ⟨b1,hp⟩) hS
 have cbox: ∀p cs,aa p st.bx=some cs→w'.heap[(φ.β p).block]?=w.heap[(φ.β p).block]?:=fun p cs hp=>hw _ (h.sep.spot p cs hp).2.1 (gB p cs hp)
 have look1: ∀{d b},aa d st.ob=some b→ ∃b',aa d (c7 W st.ob)=some b'∧b'.z=b.z∧b'.rows.length=b.rows.length∧(aa d W=none→b'=b):=fun {d b} hb=>by
  rw[gQ]
  cases hd:aa d W with
  |none=>exact⟨b,hb,rfl,rfl,fun _=>rfl⟩
  |some b'=>
   obtain⟨b0,h0,h1,h2,_⟩:=hW d b' hd;rw[hb] at h0;cases h0;exact⟨b',rfl,h1,h2,fun e=>by cases e⟩
 have obj: ∀o b,aa o (c7 W st.ob)=some b→eE w' (φ.wr W X Z) o b:=fun o b ho=>by
  rw[gQ] at ho;unfold eE
  cases hd:aa o W with
  |none=>
   rw[hd] at ho;refine(ah.mono ((h.obj o b ho).move (fun k hk=>⟨.inl hk,stI k hk⟩) fun _ k hk=>stS o k hd (.inr ⟨b,ho⟩) hk) fun k hk=> ?_);rw[wV hd];exact hk
  |some b'=>
   rw[hd] at ho
   cases ho
   obtain⟨b0,h0,h1,h2,h3,_⟩:=hW o _ hd;refine ah.mono h3 fun k hk=> ?_;rw[AF hd];exact hk
 have hce: ∀e v,aW st.ob w φ e v→aW (c7 W st.ob) w' (φ.wr W X Z) (oY (g8 W) e) v:=fun e v he=>by
  cases e with
  |ref p cut=>
   obtain⟨b1,h1,h2⟩:=he;obtain⟨b',g1,g2,g3,_⟩:=look1 h1;refine⟨b',g1,?_⟩
   cases cut with
   |none=>exact h2
   |some q=>obtain⟨l,r⟩:=q;simp only at h2 ⊢;rw[g2,g3];exact h2
  |snap ds loc z rows=>
   simp only[oY]
   cases hd:je ds (g8 W) with
   |true=>trivial
   |false=>
    have hn: ∀d∈ds,aa d W=none:=fun d hm=>sy (gu hd hm);obtain⟨h1,h2,h3⟩:=he;refine⟨fun d hm=>(h1 d hm).imp id (fI d).2,h2.move (fun k hk=>stR ds k hn h1 hk) (fun hm=>absurd rfl hm),fun p i f hl=> ?_⟩;obtain⟨a1,b1,a2,a3,a4,ad,n,c,a5,a6⟩:=h3 p i f hl;obtain⟨b',g1,_,_,g4⟩:=look1 a2;have:=g4 (hn p a1);subst this;exact⟨a1,_,g1,a3,a4,ad,n,c,a5,stV p _ ad n c _ _ _ _ (hn p a1) a2 a5 a4 a6⟩
  |_=>exact he
 have tq: ∀e v,(∀t es,e≠ .v t es)→aQ st.ob w φ e v→aQ (c7 W st.ob) w' (φ.wr W X Z) (mP (g8 W) e) v:=fun e v hv he=>by
  cases e with
  |v t es=>exact absurd rfl (hv t es)
  |ep ds cells=>
   simp only[mP]
   cases hd:je ds (g8 W) with
   |true=>trivial
   |false=>
    have hn: ∀d∈ds,aa d W=none:=fun d hm=>sy (gu hd hm);obtain⟨h1,ad,h2,hr,h3⟩:=he;refine⟨fun d hm=>(h1 d hm).imp id (fI d).2,ad,h2,fun hc=>(stR ds _ hn h1 (hr hc)).1,fun j tc hj=> ?_⟩;obtain⟨u,h4,h5⟩:=h3 j tc hj
    have hc:cells≠[]:=fun e=>by rw[e] at hj;simp at hj
    exact⟨u,by rw[bT (w:=w) (by rw[aK];exact(stR ds _ hn h1 (hr hc)).2)];exact h4,h5.move (fun k hk=>stR ds k hn h1 hk) (fun hm=>absurd rfl hm)⟩
  |er p path i f=>
   obtain⟨b1,h1,h2,ad,n,c,h3,h4⟩:=he;obtain⟨b',g1,g2,g3,g4⟩:=look1 h1
   cases path with
   |none=>exact⟨b',g1,h2,ad,n,c,h3,by simp only at h4 ⊢;rw[g2];exact h4⟩
   |some q=>
    obtain⟨i0,f0⟩:=q;simp only[mP]
    cases hd:dx p (g8 W) with
    |true=>trivial
    |false=>
     have hn:=sy (bC.1 hd);have:=g4 hn;subst this;obtain⟨a1,z1,fY,a2,ad1,n1,c1,a3,a4⟩:=h4;exact⟨_,g1,h2,ad,n,c,h3,a1,z1,fY,a2,ad1,n1,c1,stV p _ ad n c _ _ _ _ hn h1 h3 a2 a3,a4⟩
  |_=>exact he
 have hsep: ∀bx',(∀b cs',aa b bx'=some cs'→ ∃cs,aa b st.bx=some cs∧cs'.length=cs.length)→Sep F A w0 w' (φ.wr W X Z) bx' (c7 W st.ob):=fun bx' tw=>by
  have hs:=h.sep.boxes tw
  exact {
   arg:=by
    funext k
    rw[wV w0n,h.sep.arg]
   nz:=fun d hd=>h.sep.nz d ((fI d).1 hd)
   apart:=fun d d' k h1 h2 h3 h4=>by
    have i1:=(fI d).1 h1;have i2:=(fI d').1 h2
    cases e1:aa d W with
    |some b=>
     rw[AF e1] at h3;obtain⟨_,_,_,_,_,hx⟩:=hW d b e1;obtain⟨_,_,_,_,x5,x6,_⟩:=hx k h3
     cases e2:aa d' W with
     |some b'=>rw[AF e2] at h4;exact(x6 d' b' e2 h4).symm
     |none=>rw[wV e2] at h4;exact absurd h4 (x5 d' i2 e2)
    |none=>
     rw[wV e1] at h3
     cases e2:aa d' W with
     |some b'=>
      rw[AF e2] at h4;obtain⟨_,_,_,_,_,hx⟩:=hW d' b' e2;exact absurd h3 ((hx k h4).2.2.2.2.1 d i1 e1)
     |none=>rw[wV e2] at h4;exact h.sep.apart d d' k i1 i2 h3 h4
   read:=fun d k hd hk=>by
    have hd:=(fI d).1 hd
    cases e1:aa d W with
    |some b=>
     rw[AF e1] at hk;obtain⟨_,_,_,_,_,hx⟩:=hW d b e1;obtain⟨_,_,x3,x4,_⟩:=hx k hk;exact fun hi=>hi.elim x3 x4
    |none=>
     rw[wV e1] at hk;exact fun hi=>hi.elim (h.sep.read d k hd hk) fun hz=>(hZ k hz).2.2.1 d hd e1 hk
   fresh:=fun d k hd hk=>by
    have hd:=(fI d).1 hd
    cases e1:aa d W with
    |some b=>
     rw[AF e1] at hk;obtain⟨_,_,_,_,_,hx⟩:=hW d b e1;exact⟨(hx k hk).1,(hx k hk).2.1⟩
    |none=>
     rw[wV e1] at hk;exact⟨cW (h.sep.fresh d k hd hk).1 hsz,(h.sep.fresh d k hd hk).2⟩
   ro:=fun k hk=>hk.elim (fun hk=>⟨cW (h.sep.ro k hk).1 hsz,(h.sep.ro k hk).2⟩) fun hz=>⟨(hZ k hz).1,(hZ k hz).2.1⟩
   ez:=h.sep.ez
   box:=fun p cs hp pM=>by
    obtain⟨cs0,c1,_⟩:=tw p cs hp;obtain⟨a1,a2,a3,a4⟩:=hs.box p cs hp pM;refine⟨fun hi=>hi.elim a1 fun hz=>(hZ _ hz).2.2.2 p cs0 c1 pM rfl,fun d hd hk=> ?_,a3,a4⟩;have hd:=(fI d).1 hd
    cases e1:aa d W with
    |some b=>
     rw[AF e1] at hk;obtain⟨_,_,_,_,_,hx⟩:=hW d b e1;exact(hx _ hk).2.2.2.2.2.2 p cs0 c1 pM rfl
    |none=>rw[wV e1] at hk;exact a2 d hd hk
   spot:=fun p cs hp=>⟨(hs.spot p cs hp).1,cW (hs.spot p cs hp).2.1 hsz,(hs.spot p cs hp).2.2⟩
   soft:=fun p cs j hp pM hj=>by
    obtain⟨cs0,c1,c2⟩:=tw p cs hp;rw[dz (w:=w) (by rw[aK];exact cbox p cs0 c1)]
    exact h.sep.soft p cs0 j c1 pM aA}
 have tw: ∀b cs,aa b st.bx=some cs→ ∀j,j<cs.length→w'.cell? ((φ.β b).add j)=w.cell? ((φ.β b).add j):=fun p cs hp j _=>bT (by rw[aK];exact cbox p cs hp)
 cases W with
 |nil=>
  have:=h.qi (f:=id) (g:=id) (k:=id) (φ':=φ.wr [] X Z) rfl rfl (fun e v he=> ?_) (fun e v hv he=> ?_) tw obj (by rw[sv];exact hsep st.bx fun b cs hb=>⟨cs,hb,rfl⟩) hf
  ·rw[jS] at this;exact this
  ·have:=hce e v he
   have e1:oY (g8 ([]:List (Nat×OB))) e=e:=by
    cases e with
    |snap ds l z rows=>simp only[oY];cases hd:je ds (g8 ([]:List (Nat×OB))) with
     |true=>obtain⟨x,_,hx⟩:=ql hd;cases hx
     |false=>rfl
    |_=>rfl
   rw[e1] at this;exact this
  ·have:=tq e v hv he
   have e1:mP (g8 ([]:List (Nat×OB))) e=e:=by
    cases e with
    |ep ds cells=>simp only[mP];cases hd:je ds (g8 ([]:List (Nat×OB))) with
     |true=>obtain⟨x,_,hx⟩:=ql hd;cases hx
     |false=>rfl
    |er p path i f=>cases path<;>rfl
    |_=>rfl
   rw[e1] at this;exact this
 |cons a r=>exact h.qi (f:=oY (g8 (a::r))) (g:=mP (g8 (a::r))) (k:=c7 (a::r)) rfl rfl hce tq tw obj (hsep _ (cr _)) hf
end Go.T
namespace Go.T
variable {F : Nat → Prop} {A : Arg} {w0 w w' : World} {φ φ' : Fp} {st st' bh eZ : TS} {tm qc : Array Value} {C : dW}
variable {R : Type} {cf : Cf} {lp : Lp} {Q : R → Prop}
theorem D1 {ob:List (Nat×OB)} {e:CE} {v:Value} (h:aW ob w φ e v) (hg:e≠ .gone) (hb: ∀o b,aa o ob=some b→eE w φ o b):v.oneCell'=true:=by
 cases e with
 |sc x=>obtain⟨rfl,h⟩:=h;cases v<;>first|rfl|cases h
 |nil z=>obtain⟨rfl,_⟩:=h;rfl
 |ref o cut=>
  obtain⟨b,h1,h2⟩:=h;have:=eE.cut (hb o b h1) h2
  cases this;rfl
 |snap ds l z rows=>have:=h.2.1;cases this;rfl
 |gone=>exact absurd rfl hg
theorem ir {Rd S:Nat→Prop} {m:Mode} {c:TC} {v:Value} (h:ah w Rd m S c v):v.oneCell'=true:=by
 cases h with
 |any _ _ _ h=>exact h.1
 |sc _ _ _ h=>cases v<;>first|rfl|cases h
 |sub=>rfl
theorem ef (b:Nat): ∀(vs:List Value) (o:Nat) (w:World),(w.setCells b o vs).os=w.os∧(w.setCells b o vs).tape=w.tape∧(w.setCells b o vs).output=w.output∧(w.setCells b o vs).heap.size=w.heap.size
 |[],_,_=>⟨rfl,rfl,rfl,rfl⟩
 |v::r,o,w=>by
  obtain⟨h1,h2,h3,h4⟩:=ef b r (o+1) (w.setCell ⟨b,o,none⟩ v);refine⟨h1,h2,h3,?_⟩;rw[World.setCells,h4];simp[World.setCell]
theorem bV (b o:Nat) (vs:List Value) (w:World) {k:Nat} (hk:k<w.heap.size) (hne:k≠b):(w.setCells b o vs).heap[k]?=w.heap[k]?:=World.heap_setCells_other w b o vs hk hne
theorem CX.setCells {b o:Nat} {vs:List Value} (h:CX F w0 w) (hb:w0.heap.size≤b∨F b):CX F w0 (w.setCells b o vs):=by
 obtain⟨h1,h2,h3,h4⟩:=ef b vs o w;refine⟨h1.trans h.os,h2.trans h.tape,h3.trans h.output,by rw[h4];exact h.size,fun k hk hF=> ?_⟩;rw[bV b o vs w (cW hk h.size) (fun e=>by subst e;rcases hb with hb|hb;omega;exact hF hb)];exact h.block k hk hF
def bD (M:Mode):List TC→List Value→List It
 |c::cs,v::vs=>(M,c,v)::bD M cs vs
 |_,_=>[]
theorem eu {M:Mode}: ∀{cs:List TC} {vs:List Value} {i:Nat} {it:It},(bD M cs vs)[i]?=some it→ ∃c v,cs[i]?=some c∧vs[i]?=some v∧it=(M,c,v)
 |[],_,_,_,h=>by simp[bD] at h
 |_::_,[],_,_,h=>by simp[bD] at h
 |c::cs,v::vs,0,it,h=>by simp only[bD,bG,aI] at h;exact⟨c,v,rfl,rfl,h.symm⟩
 |c::cs,v::vs,i+1,it,h=>by
  simp only[bD,g7] at h;obtain⟨c',v',h1,h2,h3⟩:=eu h;exact⟨c',v',by simpa using h1,by simpa using h2,h3⟩
theorem eL {M:Mode}: ∀{cs:List TC} {vs:List Value} {i:Nat} {c:TC} {v:Value},cs[i]?=some c→vs[i]?=some v→(bD M cs vs)[i]?=some (M,c,v)
 |[],_,_,_,_,h,_=>by simp at h
 |_::_,[],_,_,_,_,h=>by simp at h
 |c0::cs,v0::vs,0,c,v,h1,h2=>by
  simp only[bG,aI] at h1 h2;subst h1 h2
  rfl
 |c0::cs,v0::vs,i+1,c,v,h1,h2=>by
  simp only[bD,g7] at h1 h2 ⊢;exact eL h1 h2
theorem cF {M:Mode}: ∀{cs:List TC} {vs:List Value},cs.length=vs.length→(bD M cs vs).length=cs.length
 |[],[],_=>rfl
 |[],_::_,h=>by cases h
 |_::_,[],h=>by cases h
 |c::cs,v::vs,h=>by simp only[bD,eT];rw[cF (cs:=cs) (vs:=vs) (by simpa using h)]
theorem lE {M:Mode}: ∀{cs cs':List TC} {vs vs':List Value},cs.length=vs.length→bD M (cs++cs') (vs++vs')=bD M cs vs++bD M cs' vs'
 |[],_,[],_,_=>rfl
 |[],_,_::_,_,h=>by cases h
 |_::_,_,[],_,h=>by cases h
 |c::cs,cs',v::vs,vs',h=>by
  simp only[lU,bD];rw[lE (cs:=cs) (vs:=vs) (by simpa using h)]
structure dM (w:World) (φ:Fp) (st st':TS) (aZ:List It) (X:Nat→Nat→Prop) (Z:Nat→Prop):Prop where
 ok: ∀(i:Nat) (it:It),aZ[i]?=some it→ah w (fun k=>φ.I k∨Z k) it.1 (X i) it.2.1 it.2.2
 src: ∀(i k:Nat),i<aZ.length→X i k→ ¬Z k∧ ∃o,aj st.ob o∧ ¬aj st'.ob o∧φ.S o k
 srcZ: ∀k,Z k→ ∃o,aj st.ob o∧ ¬aj st'.ob o∧φ.S o k
 apart: ∀(i j k:Nat),i<aZ.length→j<aZ.length→X i k→X j k→i=j
 sub:bI st' st
theorem dM.nil (st:TS):dM w φ st st [] (fun _ _=>False) (fun _=>False):=⟨fun i it h=>by simp at h,fun i k h=>by simp at h,fun k h=>h.elim,fun i j k h=>by simp at h,bI.refl _⟩
theorem dB.parts (h:ak F A w0 φ st tm w) {aZ:List It} {os:List Nat} (t:dB w φ st st' aZ os): ∃X Z,dM w φ st st' aZ X Z:=by
 obtain⟨I,X,hb,hn⟩:=t.FE h
 have dom: ∀i it o,aZ[i]?=some it→os[i]?=some o→o≠0→aj st.ob o∧ ¬aj st'.ob o:=fun i it o hi ho h0=>by
  rcases t.at' i it o hi ho with⟨e,_⟩|⟨hd,hd',_⟩
  ·exact absurd e h0
  ·exact⟨hd,hd'⟩
 have own_S: ∀{m v S k},vi m v S k→S k:=fun {m v S k} hk=>by
  cases m with
  |snap=>exact hk.elim
  |top=>exact hk.1
  |deep=>exact hk
 refine⟨fun i k=> ∃(it:It) (o:Nat),aZ[i]?=some it∧os[i]?=some o∧o≠0∧vi it.1 it.2.2 (φ.S o) k,
  fun k=> ∃(i:Nat) (it:It) (o:Nat),aZ[i]?=some it∧os[i]?=some o∧o≠0∧φ.S o k∧ ¬vi it.1 it.2.2 (φ.S o) k,⟨fun i it hi=> ?_,fun i k hi hk=> ?_,fun k hk=> ?_,fun i j k hi hj hk hk'=> ?_,t.sub⟩⟩
 ·obtain⟨o,ho⟩: ∃o,os[i]?=some o:=⟨_,aO (by rw[t.len];exact(List.getElem?_eq_some_iff.1 hi).1)⟩
  rcases t.at' i it o hi ho with⟨e,hc⟩|⟨hd,hn,m',hm,LH,hc⟩
  ·exact(hc.fh fun k hk=> .inl hk).mono fun k hk=>hk.elim
  ·have h0:=h.sep.nz o hd
   exact(hc.out hm LH (fun k hk=> .inl hk) fun k hk hno=> .inr ⟨i,it,o,hi,ho,h0,hk,hno⟩).mono fun k hk=>⟨it,o,hi,ho,h0,hk⟩
 ·obtain⟨it,o,h1,h2,h0,hk⟩:=hk
  obtain⟨hd,hd'⟩:=dom i it o h1 h2 h0;refine⟨?_,o,hd,hd',own_S hk⟩;rintro⟨i',it',o',g1,g2,g0,g3,g4⟩;have:=h.sep.apart o o' k hd (dom i' it' o' g1 g2 g0).1 (own_S hk) g3;subst this;have:=t.inj i i' o h2 g2 h0;subst this;rw[h1] at g1
  cases g1
  exact g4 hk
 ·obtain⟨i,it,o,h1,h2,h0,hk,_⟩:=hk
  obtain⟨hd,hd'⟩:=dom i it o h1 h2 h0;exact⟨o,hd,hd',hk⟩
 ·obtain⟨it,o,h1,h2,h0,hk⟩:=hk
  obtain⟨it',o',g1,g2,g0,hk'⟩:=hk';have:=h.sep.apart o o' k (dom i it o h1 h2 h0).1 (dom j it' o' g1 g2 g0).1 (own_S hk) (own_S hk');subst this;exact t.inj i j o h2 g2 h0
theorem dM.app (h:ak F A w0 φ st tm w) {a b:List It} {Xa Xb:Nat→Nat→Prop} {Za Zb:Nat→Prop} (p:dM w φ st bh a Xa Za) (q:dM w φ bh eZ b Xb Zb):
 dM w φ st eZ (a++b) (fun i k=>if i<a.length then Xa i k else Xb (i-a.length) k) (fun k=>Za k∨Zb k):=by
 have cross: ∀k,(∃o,aj st.ob o∧ ¬aj bh.ob o∧φ.S o k)→(∃o,aj bh.ob o∧ ¬aj eZ.ob o∧φ.S o k)→False:=fun k ⟨o,a1,a2,a3⟩ ⟨o',b1,b2,b3⟩=>by
  have:=h.sep.apart o o' k a1 (p.sub.dom b1) a3 b3;subst this;exact a2 b1
 have upa: ∀{k},(∃o,aj st.ob o∧ ¬aj bh.ob o∧φ.S o k)→ ∃o,aj st.ob o∧ ¬aj eZ.ob o∧φ.S o k:=fun⟨o,a1,a2,a3⟩=>⟨o,a1,fun hd=>a2 (q.sub.dom hd),a3⟩;have upb: ∀{k},(∃o,aj bh.ob o∧ ¬aj eZ.ob o∧φ.S o k)→ ∃o,aj st.ob o∧ ¬aj eZ.ob o∧φ.S o k:=fun⟨o,a1,a2,a3⟩=>⟨o,p.sub.dom a1,a2,a3⟩;refine⟨fun i it hi=> ?_,fun i k hi hk=> ?_,fun k hk=> ?_,fun i j k hi hj hk hk'=> ?_,q.sub.trans p.sub⟩
 ·by_cases hl:i<a.length
  ·rw[dY hl] at hi
   simp only[aT hl];exact(p.ok i it hi).fh fun k hk=>hk.imp id .inl
  ·rw[eA aA] at hi
   simp only[aH hl];exact(q.ok _ it hi).fh fun k hk=>hk.imp id .inr
 ·by_cases hl:i<a.length
  ·simp only[aT hl] at hk
   obtain⟨h1,h2⟩:=p.src i k hl hk;exact⟨fun hz=>hz.elim h1 fun hb=>cross k h2 (q.srcZ k hb),upa h2⟩
  ·simp only[aH hl] at hk
   obtain⟨h1,h2⟩:=q.src _ k (by simp at hi;omega) hk;exact⟨fun hz=>hz.elim (fun ha=>cross k (p.srcZ k ha) h2) h1,upb h2⟩
 ·exact hk.elim (fun h=>upa (p.srcZ k h)) fun h=>upb (q.srcZ k h)
 ·simp only[cL] at hi hj
  by_cases hl:i<a.length
  ·simp only[aT hl] at hk
   by_cases hl':j<a.length
   ·simp only[aT hl'] at hk';exact p.apart i j k hl hl' hk hk'
   ·simp only[aH hl'] at hk'
    exact(cross k (p.src i k hl hk).2 (q.src _ k aA hk').2).elim
  ·simp only[aH hl] at hk
   by_cases hl':j<a.length
   ·simp only[aT hl'] at hk'
    exact(cross k (p.src j k hl' hk').2 (q.src _ k aA hk).2).elim
   ·simp only[aH hl'] at hk'
    have:=q.apart _ _ k aA aA hk hk';omega
theorem pk {fQ:TS} (M:Mode): ∀(cs:List CE) (st:TS) (vs:List Value) (ts:List TC) (st':TS) (d:Bool),ak F A w0 φ st tm w→bI st fQ→vs.length=cs.length→(∀(j:Nat) (e:CE),cs[j]?=some e→ ∃v,vs[j]?=some v∧aW fQ.ob w φ e v)→
 (M= .snap∨d=true∧M= .deep)→uR cs st=some (ts,st',d)→ak F A w0 φ st' tm w∧ts.length=cs.length∧bI st' st∧ ∃os,dB w φ st st' (bD M ts vs) os
 |[],st,vs,ts,st',d,h,hs,hl,hc,hM,ho=>by
  cases ho
  exact⟨h,rfl,bI.refl _,[],by cases vs<;>exact dB.nil _⟩
 |e::r,st,vs,ts,st',d,h,hs,hl,hc,hM,ho=>by
  simp only[uR] at ho
  split at ho
  ·rename_i c bh d1 hab
   split at ho
   ·rename_i cs' eZ d2 EG
    cases ho
    cases vs with
    |nil=>cases hl
    |cons v vs=>
     obtain⟨v',CK,hok⟩:=hc 0 e rfl;simp only[bG,aI] at CK;subst CK;obtain⟨h1,BF,ht⟩:=zc h hs hok hab
     obtain⟨o,ht⟩:=ht M (by
      rcases hM with rfl|⟨hd,rfl⟩
      ·unfold BP;cases e<;>rfl
      ·simp only[cm] at hd
       have MI:=hd.1;subst MI
       cases e with
       |snap ds l z rows=>
        cases ds with
        |nil=>simp[fc] at hab
        |cons _ _=>simp[fc] at hab
       |gone=>simp[fc] at hab
       |_=>rfl)
     obtain⟨h2,qB,NG,os,hts⟩:=pk M r bh vs cs' _ d2 h1 (BF.trans hs) (by simpa using hl) (fun j e he=>by
      obtain⟨v',a1,a2⟩:=hc (j+1) e (by simpa using he)
      exact⟨v',by simpa using a1,a2⟩) (by
       rcases hM with hM|⟨hd,hM⟩
       ·exact .inl hM
       ·simp only[cm] at hd;exact .inr ⟨hd.2,hM⟩) EG
     exact⟨h2,by simp[qB],NG.trans BF,o::os,(dB.one ht BF).app h.sep.nz hts⟩
   ·cases ho
  ·cases ho
theorem jV {z:Nat}: ∀{rows:List (List TC)},(∀r∈rows,r.length=z)→ ∀{i f:Nat} {tc:TC},kO rows i f=some tc→rows.flatten[i*z+f]?=some tc∧f<z∧i<rows.length
 |[],_,i,f,tc,h=>by simp[kO] at h
 |r::rs,hw,0,f,tc,h=>by
  have hr:=hw r (.head _);simp only[kO,bG,Option.bind_some] at h
  have hf:f<z:=by rw[←hr];exact(List.getElem?_eq_some_iff.1 h).1
  refine⟨?_,hf,by simp⟩;rw[nH,Nat.zero_mul,dZ,dY aA];exact h
 |r::rs,hw,i+1,f,tc,h=>by
  have hr:=hw r (.head _)
  have h':kO rs i f=some tc:=by simpa [kO] using h
  obtain⟨h1,h2,h3⟩:=jV (fun r hr=>hw r (.tail _ hr)) h';refine⟨?_,h2,by simpa using h3⟩;rw[nH,eA (by rw[hr,iM];omega),hr,show(i+1)*z+f-z=i*z+f by rw[iM];omega];exact h1
theorem aR {z:Nat}: ∀{rows:List (List TC)},(∀r∈rows,r.length=z)→rows.flatten.length=rows.length*z
 |[],_=>by simp
 |r::rs,hw=>by
  rw[nH,cL,aR fun r hr=>hw r (.tail _ hr),hw r (.head _),eT,iM];omega
theorem dM.row (dp:Bool) {X:Nat→Nat→Prop} {Z:Nat→Prop} {z:Nat} {rows:List (List TC)} {vs:List Value} (p:dM w φ st st' (bD (if dp then .deep else .snap) rows.flatten vs) X Z) (hz:0<z) (hw: ∀r∈rows,r.length=z)
 (hl:vs.length=rows.length*z) {ad:Addr} {c:Nat} (hc:rows.length≤c) (Ii:c≤maxLen) (hs:ad.spot=none) (hnew: ∀i k,i<rows.length*z→X i k→k≠ad.block)
 (hmem: ∀k,(φ.I k∨Z k)→w'.heap[k]?=w.heap[k]?) (PD: ∀i k,i<rows.length*z→X i k→w'.heap[k]?=w.heap[k]?)
 (hcell: ∀(j:Nat) (v:Value),vs[j]?=some v→w'.cell? (ad.add j)=some v) (hall: ∀j,j<c*z→(∃x,w'.cell? ⟨ad.block,ad.off+j,none⟩=some x)∧w'.frozen? ⟨ad.block,ad.off+j,none⟩=false) (wL:1<z→ ∀i,w'.frozen? ⟨ad.block,i,none⟩=false):
 ah w' (fun k=>φ.I k∨Z k) (OB.m ⟨dp,z,rows⟩) (fun k=>k=ad.block∨ ∃i,i<rows.length*z∧X i k) (.sub z rows) (.slice (some ad) rows.length c):=by
 have hfl:=aR hw
 have hlen:(bD (if dp then Mode.deep else .snap) rows.flatten vs).length=rows.length*z:=by rw[cF (by rw[hfl,hl]),hfl]
 have inj: ∀{i f i' f':Nat},f<z→f'<z→i*z+f=i'*z+f'→i=i'∧f=f':=fun {i f i' f'} h1 h2 e=>by
  have e1:(i*z+f)/z=i:=by rw[Nat.mul_comm,Nat.mul_add_div hz,Nat.div_eq_of_lt h1,jO]
  have e2:(i'*z+f')/z=i':=by rw[Nat.mul_comm,Nat.mul_add_div hz,Nat.div_eq_of_lt h2,jO]
  have:i=i':=by rw[←e1,e,e2]
  subst this;exact⟨rfl,by omega⟩
 refine .sub _ _ z rows (some ad) c (fun i f=>vs.getD (i*z+f) undef) (fun i f k=>f<z∧i<rows.length∧dp=true∧X (i*z+f) k) ⟨hc,Ii,hz,hw,fun _=>⟨ad,rfl⟩,?_,?_,?_,fun _ EF ad' e i=>(by cases e;exact wL EF i),?_⟩ ?_
 ·intro ad' e i f tc ht
  cases e
  obtain⟨h1,h2,h3⟩:=jV hw ht
  have hlt:i*z+f<vs.length:=by rw[hl,←hfl];exact(List.getElem?_eq_some_iff.1 h1).1
  rw[hcell _ _ (aO hlt)];simp[List.getD,aO hlt]
 ·intro hm
  exfalso
  revert hm
  unfold OB.m
  split<;>simp
 ·intro _
  refine⟨fun e=>(by cases e),fun ad' e=> ?_⟩
  cases e
  exact⟨.inl rfl,hs,hall⟩
 ·intro hm i f k hk
  obtain⟨h1,h2,h3,h4⟩:=hk;have hi:i*z+f<rows.length*z:=cW (Nat.add_lt_add_left h1 _) (by rw[←uO];exact gq _ h2);refine⟨.inr ⟨_,hi,h4⟩,fun ad' e=>(by cases e;exact hnew _ k hi h4),fun i' f' hk'=> ?_⟩;obtain⟨g1,g2,g3,g4⟩:=hk';have hi':i'*z+f'<rows.length*z:=cW (Nat.add_lt_add_left g1 _) (by rw[←uO];exact gq _ g2);exact inj g1 h1 (p.apart _ _ k (by rw[hlen];exact hi') (by rw[hlen];exact hi) g4 h4)
 ·intro i f tc ht
  obtain⟨h1,h2,h3⟩:=jV hw ht
  have hlt:i*z+f<vs.length:=by rw[hl,←hfl];exact(List.getElem?_eq_some_iff.1 h1).1
  have hv:vs[i*z+f]?=some (vs.getD (i*z+f) undef):=by simp[List.getD,aO hlt]
  have:=p.ok _ _ (eL h1 hv);simp only at this
  cases dp with
  |true=>
   simp only[if_true] at this;refine(ah.move this (fun k hk=>⟨hk,hmem k hk⟩) fun _ k hk=>PD _ k (by rw[←hl];exact hlt) hk).mono fun k hk=>⟨h2,h3,rfl,hk⟩
  |false=>
   simp only[qE,if_false] at this;exact(ah.move this (fun k hk=>⟨hk,hmem k hk⟩) fun hm=>absurd rfl hm).fK fun k hk=>hk
end Go.T
namespace Go.T
variable {F : Nat → Prop} {A : Arg} {w0 w w' : World} {φ φ' : Fp} {st st' bh eZ : TS} {tm qc : Array Value} {C : dW}
variable {R : Type} {cf : Cf} {lp : Lp} {Q : R → Prop}
theorem ak.JB (h:ak F A w0 φ st tm w) (g:ff w w') {e:CE} {v:Value} (he:aW st.ob w φ e v):aW st.ob w' φ e v:=
 he.stay (fun k hk=>g.block k (h.sep.ro k hk).1) (fun d k hd hk=>g.block k (h.sep.lt h.frm.size hd hk)) fun o ho ad n c hv i v hc=>g.cell hc
theorem jW (w:World) (arr:Array Value) (t:TypeId) (j:Nat):(w.alloc (.cells arr t)).cell? ⟨w.heap.size,j,none⟩=arr[j]?:=by
 unfold World.cell?;simp only[heap_alloc_new]
 rfl
theorem gl (w:World) (arr:Array Value) (t:TypeId) (j:Nat):(w.alloc (.cells arr t)).frozen? ⟨w.heap.size,j,none⟩=false:=by
 unfold World.frozen?;simp only[heap_alloc_new];simp
theorem add_lit (b o j:Nat):(⟨b,o,none⟩:Addr).add j=⟨b,o+j,none⟩:=ju j rfl
theorem FF (h:ak F A w0 φ st tm w) {d:Nat} (hw:lS d=true) {cs:List CE} {arr:Array Value} {t:TypeId} (hc:KW st.ob w φ cs arr):
 ak F A w0 (φ.box d ⟨w.heap.size,0,none⟩) (r9 d cs st) tm (w.alloc (.cells arr t)):=by
 have g:=ff.alloc w (.cells arr t);refine(h.BS g).r9 hw rfl cY (fun o ho hS=> ?_) (fun hI=> ?_) (.inl h.frm.size) (fun b' cs' hb' _ e=> ?_) (fun j e he=> ?_) fun j hj=> ?_
 ·have:=(h.sep.fresh o _ ho hS).1;simp at this
 ·have:=(h.sep.ro _ hI).1;simp at this
 ·have:=(h.sep.spot b' cs' hb').2.1;rw[e] at this;simp at this
 ·obtain⟨x,h1,h2,h3⟩:=hc.2 j e he
  exact⟨x,by rw[add_lit,jW,dZ];exact h1,h2,h.JB g h3⟩
 ·rw[add_lit];exact gl _ _ _ _
theorem FG (h0:ak F A w0 φ st tm w) (h:ak F A w0 φ st' tm w) {dp:Bool} {z:Nat} {rows:List (List TC)} {vs:List Value} {X:Nat→Nat→Prop} {Z G:Nat→Prop} {d:Nat}
 (p:dM w φ st st' (bD (if dp then .deep else .snap) rows.flatten vs) X Z) (hz:0<z) (mO: ∀r∈rows,r.length=z) (hl:vs.length=rows.length*z) {ad:Addr} {c:Nat} (hc:rows.length≤c) (Ii:c≤maxLen) (hs:ad.spot=none)
 (hf:CX F w0 w') (hsz:w.heap.size≤w'.heap.size) (hw: ∀k,k<w.heap.size→ ¬G k→w'.heap[k]?=w.heap[k]?) (hG: ∀k,G k→ ∃o,aj st.ob o∧ ¬aj st'.ob o∧φ.S o k)
 (OV: ∀k,Z k→ ¬G k∧k≠ad.block) (LJ: ∀i k,i<rows.length*z→X i k→ ¬G k∧k≠ad.block) (hb:(w.heap.size≤ad.block∧ad.block<w'.heap.size)∨ ∃o,aj st.ob o∧ ¬aj st'.ob o∧φ.S o ad.block)
 (hcell: ∀(j:Nat) (v:Value),vs[j]?=some v→w'.cell? (ad.add j)=some v) (hall: ∀j,j<c*z→(∃x,w'.cell? ⟨ad.block,ad.off+j,none⟩=some x)∧w'.frozen? ⟨ad.block,ad.off+j,none⟩=false) (wL:1<z→ ∀i,w'.frozen? ⟨ad.block,i,none⟩=false) (hd:d<tm.size):
 Rel F A w0 (kz d ⟨dp,z,rows⟩ st') (tm.setIfInBounds d (.slice (some ad) rows.length c)) w':=by
 have kI: ∀{k},(∃o,aj st.ob o∧ ¬aj st'.ob o∧φ.S o k)→ ¬φ.I k:=fun⟨o,a1,a2,a3⟩=>h0.sep.read o _ a1 a3
 have kS: ∀{k},(∃o,aj st.ob o∧ ¬aj st'.ob o∧φ.S o k)→ ∀o',aj st'.ob o'→ ¬φ.S o' k:=fun⟨o,a1,a2,a3⟩ o' ho' hk=>by
  have:=h0.sep.apart o o' _ a1 (p.sub.dom ho') a3 hk;subst this;exact a2 ho'
 have kF: ∀{k},(∃o,aj st.ob o∧ ¬aj st'.ob o∧φ.S o k)→k<w.heap.size∧(w0.heap.size≤k∨F k):=fun⟨o,a1,a2,a3⟩=>h0.sep.fresh o _ a1 a3
 have kB: ∀{k},(∃o,aj st.ob o∧ ¬aj st'.ob o∧φ.S o k)→ ∀b cs,aa b st'.bx=some cs→(φ.β b).block≠k:=fun {k} ⟨o,a1,a2,a3⟩ b cs hb e=>by
  obtain⟨cs0,c0,_⟩:=p.sub.bx b cs hb
  cases pM:lS b with
  |true=>exact(h0.sep.box b cs0 c0 pM).2.1 o a1 (by rw[e];exact a3)
  |false=>
   have h1:=h0.sep.ez _ ((h0.sep.spot b cs0 c0).2.2 pM);rw[e] at h1;rcases (h0.sep.fresh o k a1 a3).2 with h3|h3
   ·omega
   ·exact h1.2 h3
 have h1:=h.wrote (w':=w') [] (fun _ _=>False) Z G hf hsz hw (fun k hk=>(kF (hG k hk)).2) (fun k hk=>kI (hG k hk)) (fun k o hk ho _=>kS (hG k hk) o ho) (fun b cs hb hk=>kB (hG _ hk) b cs hb rfl)
  (fun o b' hb'=>by simp[aa] at hb')
  (fun k hk=>⟨cW (kF (p.srcZ k hk)).1 hsz,(kF (p.srcZ k hk)).2.elim .inl fun hF=> .inr (.inl hF),fun o ho _=>kS (p.srcZ k hk) o ho,fun b cs hb _=>kB (p.srcZ k hk) b cs hb⟩)
 have hlen:(bD (if dp then Mode.deep else .snap) rows.flatten vs).length=rows.length*z:=by rw[cF (by rw[aR mO,hl]),aR mO]
 have hrow:=p.row (w':=w') dp hz mO hl hc Ii hs (fun i k hi hk=>(LJ i k hi hk).2)
  (fun k hk=>by
    rcases hk with hk|hk
    ·exact hw k (h0.sep.ro k hk).1 fun hg=>kI (hG k hg) hk
    ·exact hw k (kF (p.srcZ k hk)).1 (OV k hk).1)
  (fun i k hi hk=>hw k (kF (p.src i k (by rw[hlen];exact hi) hk).2).1 (LJ i k hi hk).1) hcell hall wL
 have PE: ¬φ.I ad.block:=fun hI=>by
  rcases hb with⟨hb,_⟩|hb
  ·have:=(h0.sep.ro _ hI).1;omega
  ·exact kI hb hI
 have h2:=h1.nY (o:=gY d 0 0) (b:=⟨dp,z,rows⟩) (by unfold gY;omega) hrow (fun k hk=>by
  rcases hk with rfl|⟨i,hi,hk⟩
  ·rcases hb with⟨b1,b2⟩|hb
   ·exact⟨b2,.inl (aB h0.frm.size b1)⟩
   ·exact⟨cW (kF hb).1 hsz,(kF hb).2⟩
  ·have:=kF (p.src i k (by rw[hlen];exact hi) hk).2
   exact⟨cW this.1 hsz,this.2⟩)
  (fun k hk hI=>by
    rcases hk with rfl|⟨i,hi,hk⟩
    ·rcases hI with hI|hI
     ·exact PE hI
     ·exact(OV _ hI).2 rfl
    ·have OW:=p.src i k (by rw[hlen];exact hi) hk
     rcases hI with hI|hI
     ·exact kI OW.2 hI
     ·exact OW.1 hI)
  (fun k o hk _ ho hS=>by
    have hS:φ.S o k:=hS;have ho:aj st'.ob o:=ho;rcases hk with rfl|⟨i,hi,hk⟩
    ·rcases hb with⟨b1,_⟩|hb
     ·have:=(h.sep.fresh o _ ho hS).1;omega
     ·exact kS hb o ho hS
    ·exact kS (p.src i k (by rw[hlen];exact hi) hk).2 o ho hS)
  (fun b cs hb' pM hk=>by
    have hb':aa b st'.bx=some cs:=hb';rcases hk with e|⟨i,hi,hk⟩
    ·rcases hb with⟨b1,_⟩|hb
     ·have:=(h.sep.spot b cs hb').2.1
      have e:(φ.β b).block=ad.block:=e;omega
     ·exact kB hb b cs hb' e
    ·exact kB (p.src i _ (by rw[hlen];exact hi) hk).2 b cs hb' rfl)
 have h3:=h2.wU (d:=d) (e:=one (.ref (gY d 0 0) none)) (v:= .slice (some ad) rows.length c) hd (yW rfl ⟨⟨dp,z,rows⟩,by
  show aa _ (eN _ _ _)=_
  exact dJ,by simp[Fp.add]⟩)
 exact⟨_,h3⟩
theorem D2 (h:ak F A w0 φ st tm w) {dp:Bool} {z d:Nat} (hz:0<z) (hd:d<tm.size):Rel F A w0 (kz d ⟨dp,z,[]⟩ st) (tm.setIfInBounds d (.slice none 0 0)) w:=by
 have h2:=h.nY (o:=gY d 0 0) (b:=⟨dp,z,[]⟩) (X:=r6) (v:= .slice none 0 0) (by unfold gY;omega) (kT hz) (fun k hk=>hk.elim) (fun k hk=>hk.elim) (fun k o hk=>hk.elim) (fun b cs _ _ hk=>hk)
 exact⟨_,h2.wU (d:=d) (e:=one (.ref (gY d 0 0) none)) (v:= .slice none 0 0) hd (yW rfl ⟨⟨dp,z,[]⟩,by
  show aa _ (eN _ _ _)=_
  exact dJ,by simp[Fp.add]⟩)⟩
theorem ah.parts (h:ak F A w0 φ st tm w) {o:Nat} (ho:aj st.ob o) {m M:Mode} {z:Nat} {rows:List (List TC)} {v:Value} (hr:ah w φ.I m (φ.S o) (.sub z rows) v) (hm:m≠ .snap) (hM:M= .snap∨M= .deep∧m= .deep):
 ∃vals X Z,vals.length=rows.length*z∧dM w φ st (eD o st) (bD M rows.flatten vals) X Z∧ ∀ad n c,v= .slice (some ad) n c→(∀(j:Nat) (x:Value),vals[j]?=some x→w.cell? (ad.add j)=some x)∧(∀i k,X i k→k≠ad.block)∧ ∀k,Z k→k≠ad.block:=by
 cases hr with
 |sub _ _ _ _ Ad c u T k hn=>
  have hz:=k.z0;have mO:=k.width;have hsub:=bI.kill st o;have hfl:=aR mO
  have at_of: ∀{p:Nat} {tc:TC},rows.flatten[p]?=some tc→kO rows (p/z) (p % z)=some tc:=fun {p tc} hp=>by
   have hlt:p<rows.length*z:=by rw[←hfl];exact(List.getElem?_eq_some_iff.1 hp).1
   have hi:p/z<rows.length:=Nat.div_lt_of_lt_mul (by rw[Nat.mul_comm];exact hlt);have hrl:=mO _ (qG hi)
   have hf:p % z<(rows[p/z]).length:=by rw[hrl];exact Nat.mod_lt _ hz
   have h1:kO rows (p/z) (p % z)=some (rows[p/z][p % z]):=by simp[kO,aO hi,aO hf]
   have h2:=(jV mO h1).1;rw[qI p z] at h2;rw[h1,←h2,hp]
  have fI:aj st.ob o∧ ¬aj (eD o st).ob o:=⟨ho,fun hd=>(cZ.1 hd).1 rfl⟩
  let vals:List Value:=(List.range (rows.length*z)).map fun p=>u (p/z) (p % z)
  have hvl:vals.length=rows.length*z:=by simp[vals]
  have hval: ∀{p:Nat} {x:Value},vals[p]?=some x→p<rows.length*z∧x=u (p/z) (p % z):=fun {p x} hp=>by
   have hlt:p<rows.length*z:=by rw[←hvl];exact(List.getElem?_eq_some_iff.1 hp).1
   refine⟨hlt,?_⟩;simp[vals,hlt] at hp;exact hp.symm
  have hcl:(bD M rows.flatten vals).length=rows.length*z:=by rw[cF (by rw[hfl,hvl]),hfl]
  have hmem: ∀ad n c',Value.slice Ad rows.length c= .slice (some ad) n c'→ ∀(j:Nat) (x:Value),vals[j]?=some x→w.cell? (ad.add j)=some x:=fun ad n c' e j x hx=>by
   cases e
   obtain⟨hlt,rfl⟩:=hval hx;obtain⟨tc,Ij⟩: ∃tc,rows.flatten[j]?=some tc:=⟨_,aO (by rw[hfl];exact hlt)⟩;have:=k.cell ad rfl _ _ tc (at_of Ij);rw[qI j z] at this;exact this
  by_cases yD:M= .deep
  ·subst yD
   have zS:m= .deep:=by
    rcases hM with e|⟨_,e⟩
    ·cases e
    ·exact e
   subst zS;refine⟨vals,fun p b=>p<rows.length*z∧T (p/z) (p % z) b,fun _=>False,hvl,⟨fun i it hi=> ?_,fun i b hi hb=> ?_,fun b hb=>hb.elim,fun i j b hi hj hb hb'=> ?_,hsub⟩,fun ad n c' e=>⟨hmem ad n c' e,fun i b hb=> ?_,fun b hb=>hb.elim⟩⟩
   ·obtain⟨tc,x,h1,h2,rfl⟩:=eu hi
    obtain⟨hlt,rfl⟩:=hval h2;exact((hn _ _ tc (at_of h1)).fh fun b hb=> .inl hb).mono fun b hb=>⟨hlt,hb⟩
   ·exact⟨id,o,fI.1,fI.2,(k.fP rfl _ _ b hb.2).1⟩
   ·obtain⟨e1,e2⟩:=(k.fP rfl _ _ b hb.2).2.2 _ _ hb'.2
    rw[←qI i z,←qI j z,e1,e2]
   ·cases e
    exact(k.fP rfl _ _ b hb.2).2.1 ad rfl
  ·have NH:M= .snap:=hM.elim id fun⟨e,_⟩=>absurd e yD
   subst NH;refine⟨vals,fun _ _=>False,fun b=>m= .deep∧ ∃i f,T i f b,hvl,⟨fun i it hi=> ?_,fun i b hi hb=>hb.elim,fun b hb=> ?_,fun i j b hi hj hb=>hb.elim,hsub⟩,fun ad n c' e=>⟨hmem ad n c' e,fun i b hb=>hb.elim,fun b hb=> ?_⟩⟩
   ·obtain⟨tc,x,h1,h2,rfl⟩:=eu hi
    obtain⟨hlt,rfl⟩:=hval h2;exact(hn _ _ tc (at_of h1)).freeze (fun b hb=> .inl hb) fun hx b hb=> .inr ⟨jr hx,_,_,hb⟩
   ·obtain⟨zS,i,f,hb⟩:=hb
    exact⟨o,fI.1,fI.2,(k.fP zS _ _ b hb).1⟩
   ·cases e
    obtain⟨zS,i,f,hb⟩:=hb;exact(k.fP zS _ _ b hb).2.1 ad rfl
end Go.T
namespace Go.T
variable {F : Nat → Prop} {A : Arg} {w0 w w' : World} {φ φ' : Fp} {st st' bh eZ : TS} {tm qc : Array Value} {C : dW}
variable {R : Type} {cf : Cf} {lp : Lp} {Q : R → Prop}
def Wr (st:TS) (φ:Fp) (l:List Nat) (k:Nat):Prop:=(∃b cs,2*b+1∈l∧aa b st.bx=some cs∧lS b=true∧k=(φ.β b).block)∨ ∃o,2*o∈l∧aj st.ob o∧φ.S o k
def BD (C:dW) (F:Nat→Prop) (A:Arg) (w0:World) (φ:Fp) (st:TS) (o:Oper) (a:Act) (w:World) (K:TS→Ev R) (cf:Cf) (lp:Lp) (Q:R→Prop):Prop:=
 ∃nx v w' st',(execOp a.eval o).run C.P w= .ok nx w'∧(nx= .value v∨nx= .skip∧v=undef)∧Rel F A w0 st' (a.put o.dst v).tmps w'∧(K st').holds cf lp Q∧w.heap.size≤w'.heap.size∧
  ∀k,k<w.heap.size→ ¬Wr st φ (writes C st o) k→w'.heap[k]?=w.heap[k]?
theorem mm {i:dj} (h:lC i=true):known i=true∧ ∀e,i.ti≠ .ptr e:=by
 unfold lC at h;unfold known
 split at h<;>first|cases h|skip
 rename_i h1 h2;exact⟨by split<;>first|rfl|(rename_i e;exact absurd e h1),fun e he=>h2 e he⟩
theorem Db (hT:bZ C) {a:Act} (h:ak F A w0 φ st a.tmps w) {o:Oper} {K:TS→Ev R} (hd: ∀d,o.dst=some d→d<a.tmps.size) (hk:(xB C st o K).holds cf lp Q):BD C F A w0 φ st o a w K cf lp Q:=by
 unfold xB at hk
 cases dr:o.dst with
 |none=>rw[dr] at hk;exact hk.elim
 |some d=>
  rw[dr] at hk;obtain⟨v,e,h1,h2,h3,_⟩:=Az hT h hk;exact⟨_,v,w,_,h1,.inl rfl,⟨φ,by rw[dr];exact h.wU (hd d dr) h2⟩,h3,bu _,fun _ _ _=>rfl⟩
theorem FH (hT:bZ C) {a:Act} (h:ak F A w0 φ st a.tmps w) {o:Oper} {t:TypeId} (ho:o.op= .alloc t) {K:TS→Ev R} (hd: ∀d,o.dst=some d→d<a.tmps.size) (hk:(fe C st o K).holds cf lp Q):BD C F A w0 φ st o a w K cf lp Q:=by
 unfold fe at hk;rw[ho] at hk;simp only at hk
 split at hk
 ·rename_i d dr hp
  split at hk
  ·rename_i hw
   obtain⟨hkn,hnp⟩:=mm hp;obtain⟨i,z,h1,h2,h3,h4,h5⟩:=y8 (w:=w) (φ:=φ) hT hkn hnp (ob:=st.ob)
   have hn:=(FF h hw (t:=t) h4).wU (d:=d) (e:= .bp d 0) (v:= .pointer (some ⟨w.heap.size,0,none⟩)) (hd d dr) (by
    show _=Value.pointer (some (((φ.box d ⟨w.heap.size,0,none⟩).β d).add 0))
    rw[jU,Addr.add_zero'])
   refine⟨.value (.pointer (some ⟨w.heap.size,0,none⟩)),_,_,_,?_,.inl rfl,⟨_,by rw[dr];exact hn⟩,hk,by simp,fun k hk _=>(ff.alloc w _).block k hk⟩;unfold execOp;rw[ho];simp[Instr.alloc,zeroValue,typeInfo,h1,h3,newVar,newRow]
  ·exact hk.elim
 ·exact hk.elim
theorem JC (hT:bZ C) {a:Act} (h:ak F A w0 φ st a.tmps w) {o:Oper} {t:TypeId} {x:Operand} (ho:o.op= .box t x) {K:TS→Ev R} (hd: ∀d,o.dst=some d→d<a.tmps.size) (hk:(fe C st o K).holds cf lp Q):BD C F A w0 φ st o a w K cf lp Q:=by
 unfold fe at hk;rw[ho] at hk;simp only at hk
 split at hk
 ·rename_i d cs dr hc
  split at hk
  ·rename_i hw
   have hcs:=ie (bH hT h t x) hc
   have hn:=(FF h hw (t:=t) (arr:=(a.eval x).cells) hcs).wU (d:=d) (e:= .bp d 0) (v:= .pointer (some ⟨w.heap.size,0,none⟩)) (hd d dr) (by
    show _=Value.pointer (some (((φ.box d ⟨w.heap.size,0,none⟩).β d).add 0))
    rw[jU,Addr.add_zero'])
   refine⟨.value (.pointer (some ⟨w.heap.size,0,none⟩)),_,_,_,?_,.inl rfl,⟨_,by rw[dr];exact hn⟩,hk,by simp,fun k hk _=>(ff.alloc w _).block k hk⟩;unfold execOp;rw[ho];simp[Instr.box,newVar,newRow]
  ·exact hk.elim
 ·exact hk.elim
theorem q9 {P:Program} {tt:TypeId→dj} {t:TypeId} (h:o8 P tt t) {ad:Addr} (hs:ad.spot=none) {v:Value} (hv:v.cells.size=(tt t).size) (h1: ∀x∈v.cells.toList,x.oneCell'=true)
 (hc: ∀j,j<v.cells.size→(w.cell? (ad.add j)).isSome=true∧w.frozen? (ad.add j)=false):(Instr.storeAt t (.pointer (some ad)) v).run P w= .ok () (w.setCells ad.block ad.off v.cells.toList):=by
 obtain⟨i,z,g1,g2,_⟩:=h.info;have tC: ∀j,ad.add j=⟨ad.block,ad.off+j,none⟩:=fun j=>ju j hs;have hst:=run_storeCells_cells (P:=P) ad.block ad.off v.cells.toList 0 w (fun j hj=>by rw[jO,←tC];exact(hc j (by simpa using hj)).1) (fun j hj=>by rw[jO,←tC];exact(hc j (by simpa using hj)).2) h1
 have had:(⟨ad.block,ad.off,none⟩:Addr)=ad:=by cases ad;simp_all
 rw[had,jO] at hst;simp only[Instr.storeAt,Instr.sureAddr,storeVar,sizeOf,typeInfo,Sem.run_bind,Sem.run_pure,Result.andThen];simp[g1,g2,hv,hst]
theorem pV: ∀{cs:List CE},uB cs=false→ ∀e∈cs,e≠ .gone
 |[],_,e,he=>by cases he
 |c::r,h,e,he=>by
  cases c with
  |gone=>cases h
  |_=>
   rcases bg.1 he with rfl|he
   ·simp
   ·exact pV (cs:=r) h e he
theorem o9.one {cs:List CE} {v:Value} (h:o9 st.ob w φ cs v) (hb: ∀o b,aa o st.ob=some b→eE w φ o b) (hg:uB cs=false): ∀x∈v.cells.toList,x.oneCell'=true:=by
 intro x hx;obtain⟨j,hj,rfl⟩:=List.mem_iff_getElem.1 hx
 have hj':j<cs.length:=by rw[←h.1];simpa using hj
 obtain⟨y,h1,_,h3⟩:=h.2 j _ (aO hj')
 have NI:j<v.cells.size:=by simpa using hj
 rw[jM NI] at h1;simp only[aI] at h1;rw[Array.getElem_toList,h1];exact D1 h3 (pV hg _ (qG hj')) hb
theorem Dc {α:Type} {old cs:List α} {off j:Nat} {e:α} (h:(old.take off++cs++old.drop (off+cs.length))[j]?=some e) (hle:off+cs.length≤old.length):
 (off≤j∧j<off+cs.length∧cs[j-off]?=some e)∨((j<off∨off+cs.length≤j)∧old[j]?=some e):=by
 have hto:(old.take off).length=off:=by rw[eU];omega
 rw[fJ] at h
 by_cases h1:j<off
 ·rw[dY aA,tF,aT h1] at h
  exact .inr ⟨.inl h1,h⟩
 ·rw[eA aA,hto] at h
  by_cases h2:j<off+cs.length
  ·rw[dY aA] at h
   exact .inl ⟨by omega,h2,h⟩
  ·rw[eA aA,gn,show off+cs.length+(j-off-cs.length)=j by omega] at h
   exact .inr ⟨.inr aA,h⟩
theorem qm {α:Type} {old cs:List α} {off:Nat} (hle:off+cs.length≤old.length):(old.take off++cs++old.drop (off+cs.length)).length=old.length:=by
 simp only[cL,eU,kC];omega
theorem AG {a:Act} (hT:bZ C) (h:ak F A w0 φ st a.tmps w) {o:Oper} {t:TypeId} {p x:Operand} (ho:o.op= .store t p x) (dr:o.dst=none) {cs:List CE} (hkn:known (C.tt t)=true) (hcs:o9 st.ob w φ cs (a.eval x))
 (hsz:cs.length=(C.tt t).size) {b off:Nat} (hp:gH C st 0 p= .bp b off) {st':TS} (hs:uU b off cs st=some st') {K:TS→Ev R} (hk:(K st').holds cf lp Q):BD C F A w0 φ st o a w K cf lp Q:=by
 unfold uU at hs
 split at hs
 ·rename_i old hb
  split at hs
  ·rename_i OX hle
   cases hs
   have hle:=gD hle;simp only[cm,nF] at OX;obtain⟨hw,hg⟩:=OX;have Kx:=bH hT h 0 p;rw[hp] at Kx;have Kx:a.eval p= .pointer (some ((φ.β b).add off)):=Kx;have jl:=(h.sep.spot b old hb).1 hw;have tC: ∀j,(φ.β b).add j=⟨(φ.β b).block,(φ.β b).off+j,none⟩:=fun j=>ju j jl;obtain⟨bx1,bx2,bx3,bx4⟩:=h.sep.box b old hb hw;have EH:(a.eval x).cells.size=cs.length:=hcs.1
   have hrun:=q9 (w:=w) (hT t hkn) (ad:=(φ.β b).add off) (ou off jl) (v:=a.eval x) (by rw[EH,hsz]) (hcs.one h.obj hg) (fun j hj=>by
    rw[Addr.add_add]
    have hj:off+j<old.length:=by rw[EH] at hj;omega
    obtain⟨v,c1,_⟩:=h.box b old hb (off+j) _ (aO hj)
    exact⟨by rw[c1];rfl,h.sep.soft b old (off+j) hb hw hj⟩)
   rw[aK,tC off] at hrun;simp only at hrun;have qC: ∀k,k<w.heap.size→k≠(φ.β b).block→(w.setCells (φ.β b).block ((φ.β b).off+off) (a.eval x).cells.toList).heap[k]?=w.heap[k]?:=fun k hk hne=>bV _ _ _ _ hk hne;have hlt:(φ.β b).block<w.heap.size:=(h.sep.spot b old hb).2.1
   have hnew:=h.r8 (w':=w.setCells (φ.β b).block ((φ.β b).off+off) (a.eval x).cells.toList) hb hw (qm hle) (h.frm.setCells bx3) (by rw[(ef _ _ _ _).2.2.2];exact bu _) qC
    (fun j hj=>by rw[World.frozen?_setCells];exact h.sep.soft b old j hb hw (by rw[qm hle] at hj;exact hj))
    (fun j e he=>by
      rcases Dc he hle with⟨l1,l2,l3⟩|⟨l1,l2⟩
      ·obtain⟨y,y1,y2,y3⟩:=hcs.2 _ e l3
       have hin:=World.cell?_setCells_in (φ.β b).block (a.eval x).cells.toList ((φ.β b).off+off) w (fun j' hj'=>by
        have hj':j'<cs.length:=by rw[←EH];simpa using hj'
        obtain⟨v,c1,_⟩:=h.box b old hb (off+j') _ (aO aA);rw[tC] at c1
        rw[show(φ.β b).off+off+j'=(φ.β b).off+(off+j') by omega,c1];rfl) (j-off) (by rw[lT,EH];omega)
       refine⟨y,?_,y2,y3⟩;rw[tC,show(φ.β b).off+j=(φ.β b).off+off+(j-off) by omega,hin]
       have NI:j-off<(a.eval x).cells.size:=by rw[EH];omega
       rw[jM NI] at y1;rw[Array.getElem_toList,←y1]
      ·obtain⟨v,c1,c2,c3⟩:=h.box b old hb j e l2
       refine⟨v,?_,c2,c3⟩;rw[World.cell?_setCells_out]
       ·exact c1
       ·intro _ _
        rw[tC,lT,EH];simp only
        omega)
   refine⟨.skip,undef,_,_,?_,.inr ⟨rfl,rfl⟩,⟨φ,by rw[dr];exact hnew⟩,hk,by rw[(ef _ _ _ _).2.2.2];exact bu _,fun k hk Ik=> ?_⟩
   ·unfold execOp
    rw[ho];simp only[Sem.run_bind,Kx,tC,hrun,Result.andThen]
    rfl
   ·refine qC k hk fun e=>Ik (.inl ⟨b,old,?_,hb,hw,e⟩)
    unfold writes;rw[ho];simp only[hp];exact .head _
  ·cases hs
 ·cases hs
end Go.T
namespace Go.T
variable {F : Nat → Prop} {A : Arg} {w0 w w' : World} {φ φ' : Fp} {st st' bh eZ : TS} {tm qc : Array Value} {C : dW}
variable {R : Type} {cf : Cf} {lp : Lp} {Q : R → Prop}
def ga (rows:List (List TC)) (i f:Nat) (cs:List TC):List (List TC):=match rows[i]? with
 |some r=>rows.set i (r.take f++cs++r.drop (f+cs.length))
 |none=>rows
attribute [local semireducible] setRow in
theorem iu (rows:List (List TC)) (i:Int) (f:Nat) (cs:List TC):setRow rows i f cs=ga rows i.toNat f cs:=rfl
theorem de (rows:List (List TC)) (i f:Nat) (cs:List TC):(ga rows i f cs).length=rows.length:=by
 unfold ga;split<;>simp
theorem m0 {rows:List (List TC)} {i f:Nat} {cs row:List TC} (hrow:rows[i]?=some row) (hf:f+cs.length≤row.length) {i' f':Nat} {tc:TC} (h:kO (ga rows i f cs) i' f'=some tc):
 (i'=i∧f≤f'∧f'<f+cs.length∧cs[f'-f]?=some tc)∨((i'≠i∨f'<f∨f+cs.length≤f')∧kO rows i' f'=some tc):=by
 unfold ga at h;simp only[hrow] at h
 by_cases hi:i'=i
 ·subst hi
  have hlt:=(List.getElem?_eq_some_iff.1 hrow).1;simp only[kO,List.getElem?_set_self hlt,Option.bind_some] at h;rcases Dc h hf with⟨a,b,c⟩|⟨a,b⟩
  ·exact .inl ⟨rfl,a,b,c⟩
  ·exact .inr ⟨.inr a,by simp[kO,hrow,b]⟩
 ·simp only[kO,List.getElem?_set_ne (Ne.symm hi)] at h
  exact .inr ⟨.inl hi,h⟩
theorem rj {z:Nat} {rows:List (List TC)} (hw: ∀r∈rows,r.length=z) {i f:Nat} {cs row:List TC} (hrow:rows[i]?=some row) (hf:f+cs.length≤row.length): ∀r∈ga rows i f cs,r.length=z:=by
 intro r hr;unfold ga at hr;simp only[hrow] at hr;rcases List.mem_or_eq_of_mem_set hr with hr|rfl
 ·exact hw r hr
 ·rw[qm hf];exact hw row (c6 hrow)
theorem ah.mono' {w:World} {Rd S S':Nat→Prop} {m:Mode} {t:TC} {v:Value} (h:ah w Rd m S t v) (hS:m≠ .snap→ ∀b,S b→S' b):ah w Rd m S' t v:=by
 by_cases hm:m= .snap
 ·subst hm;exact h.fK fun _ h=>h
 ·exact h.mono (hS hm)
theorem ah.D3 {w w':World} {Rd S:Nat→Prop} {t:TC} {v:Value} (h:ah w Rd .deep S t v) (hS: ∀b,S b→w'.heap[b]?=w.heap[b]?):ah w' Rd .deep S t v:=
 (((h.pU rfl:ah w r6 .deep S t v).move (R':=r6) (fun _ h=>h.elim) fun _=>hS).pU rfl:ah w' Rd .deep S t v)
theorem ah.put {Rd S:Nat→Prop} {m:Mode} {z n c:Nat} {rows:List (List TC)} {ad:Addr} (h:ah w Rd m S (.sub z rows) (.slice (some ad) n c)) (hm:m≠ .snap) {i f:Nat} {ts row:List TC} (hrow:rows[i]?=some row) (hf:f+ts.length≤row.length)
 {vs:List Value} (hl:vs.length=ts.length) (h1: ∀v∈vs,v.oneCell'=true) {X:Nat→Nat→Prop} (hX: ∀(j:Nat) (t:TC) (v:Value),ts[j]?=some t→vs[j]?=some v→ah w Rd m.nx (X j) t v)
 (MJ:m= .deep→ ∀j k,j<ts.length→X j k→ ¬S k∧ ∀j',j'<ts.length→X j' k→j'=j) (MK: ∀k,Rd k→k<w.heap.size∧k≠ad.block) (hS: ∀k,S k→k<w.heap.size) (PF: ∀j k,j<ts.length→X j k→k<w.heap.size):
 ad.spot=none∧S ad.block∧(∀j,j<vs.length→(w.cell? (ad.add (i*z+f+j))).isSome=true∧w.frozen? (ad.add (i*z+f+j))=false)∧
 ah (w.setCells ad.block (ad.off+(i*z+f)) vs) Rd m (fun k=>S k∨(m= .deep∧ ∃j,j<ts.length∧X j k)) (.sub z (ga rows i f ts)) (.slice (some ad) n c):=by
 cases h with
 |sub _ _ _ _ _ _ u T k hn=>
  have hlt:=(List.getElem?_eq_some_iff.1 hrow).1;have hrl:=k.width row (c6 hrow);obtain⟨I1,jl,hall⟩:=(k.own hm).2 ad rfl;have tC: ∀j,ad.add j=⟨ad.block,ad.off+j,none⟩:=fun j=>ju j jl
  have inb: ∀j,j<ts.length→i*z+f+j<c*z:=fun j hj=>by
   have:i*z+f+j<(i+1)*z:=by rw[iM];omega
   exact cW this (gq _ (by have:=k.len;omega))
  have there: ∀j,j<vs.length→(w.cell? (ad.add (i*z+f+j))).isSome=true∧w.frozen? (ad.add (i*z+f+j))=false:=fun j hj=>by
   obtain⟨⟨x,hx⟩,hfz⟩:=hall (i*z+f+j) (inb j aA);rw[tC];exact⟨by rw[hx];rfl,hfz⟩
  have qC: ∀b,b<w.heap.size→b≠ad.block→(w.setCells ad.block (ad.off+(i*z+f)) vs).heap[b]?=w.heap[b]?:=fun b hb hne=>bV _ _ _ _ hb hne;have OY: ∀j b,j<ts.length→m= .deep→X j b→b≠ad.block:=fun j b hj zS hb e=>(MJ zS j b hj hb).1 (by rw[e];exact I1)
  have hin: ∀j (hj:j<vs.length),(w.setCells ad.block (ad.off+(i*z+f)) vs).cell? (ad.add (i*z+f+j))=some vs[j]:=fun j hj=>by
   have:=World.cell?_setCells_in ad.block vs (ad.off+(i*z+f)) w (fun j' hj'=>by
    have:=(there j' hj').1;rw[tC] at this
    rw[show ad.off+(i*z+f)+j'=ad.off+(i*z+f+j') by omega];exact this) j hj
   rw[tC,show ad.off+(i*z+f+j)=ad.off+(i*z+f)+j by omega];exact this
  have hout: ∀p,(p<i*z+f∨i*z+f+vs.length≤p)→(w.setCells ad.block (ad.off+(i*z+f)) vs).cell? (ad.add p)=w.cell? (ad.add p):=fun p hp=>by
   refine World.cell?_setCells_out _ _ _ _ _ fun _ _=> ?_;rw[tC];simp only;omega
  refine⟨jl,I1,there,?_⟩
  let inr:Nat→Nat→Prop:=fun i' f'=>i'=i∧f≤f'∧f'<f+ts.length
  have dec: ∀i' f',Decidable (inr i' f'):=fun _ _=>inferInstanceAs (Decidable (_∧_∧_))
  have key:=ah.sub (w:=w.setCells ad.block (ad.off+(i*z+f)) vs) (R:=Rd) m (fun b=>S b∨(m= .deep∧ ∃j,j<ts.length∧X j b)) z (ga rows i f ts) (some ad) c
   (fun i' f'=>if i'=i∧f≤f'∧f'<f+ts.length then vs.getD (f'-f) undef else u i' f') (fun i' f' b=>if i'=i∧f≤f'∧f'<f+ts.length then m= .deep∧X (f'-f) b else T i' f' b) ?_ ?_
  ·rw[de] at key;exact key
  ·refine⟨by rw[de];exact k.len,k.cap,k.z0,rj k.width hrow hf,fun _=>⟨ad,rfl⟩,?_,fun e=>absurd e hm,fun _=>⟨fun e=>(by cases e),?_⟩,fun hm EF ad' e i=>(by cases e;rw[World.frozen?_setCells];exact k.soft hm EF ad rfl i),?_⟩
   ·intro ad' e i' f' tc ht
    cases e
    rcases m0 hrow hf ht with⟨rfl,a,b,hc⟩|⟨hn',hc⟩
    ·rw[aT ⟨rfl,a,b⟩]
     have hj:f'-f<vs.length:=by omega
     have:=hin (f'-f) hj;rw[show i'*z+f+(f'-f)=i'*z+f' by omega] at this;rw[this];simp[List.getD,aO hj]
    ·rw[aH aA]
     rw[hout]
     ·exact k.cell ad rfl i' f' tc hc
     ·obtain⟨_,hf',_⟩:=jV k.width hc
      by_cases hi:i'=i
      ·subst hi;omega
      ·rcases Nat.lt_or_gt_of_ne hi with hi|hi
       ·left
        have:i'*z+z≤i*z:=by rw[←uO];exact gq _ hi
        omega
       ·right
        have:i*z+z≤i'*z:=by rw[←uO];exact gq _ hi
        omega
   ·intro ad' e
    cases e
    refine⟨.inl I1,jl,fun j hj=> ?_⟩;obtain⟨⟨x,hx⟩,hfz⟩:=hall j hj;refine⟨?_,by rw[World.frozen?_setCells];exact hfz⟩;have:=World.isSome_setCells ad.block vs (ad.off+(i*z+f)) w ⟨ad.block,ad.off+j,none⟩ (by rw[hx];rfl);exact Option.isSome_iff_exists.1 this
   ·intro zS i' f' b hb
    by_cases hr:i'=i∧f≤f'∧f'<f+ts.length
    ·rw[aT hr] at hb
     have hj:f'-f<ts.length:=by omega
     refine⟨.inr ⟨zS,_,hj,hb.2⟩,fun ad' e=>(by cases e;exact OY _ b hj zS hb.2),fun i2 f2 hb2=> ?_⟩
     by_cases yE:i2=i∧f≤f2∧f2<f+ts.length
     ·rw[aT yE] at hb2
      have:=(MJ zS _ b hj hb.2).2 _ aA hb2.2;omega
     ·rw[aH yE] at hb2
      exact absurd (k.fP zS i2 f2 b hb2).1 (MJ zS _ b hj hb.2).1
    ·rw[aH hr] at hb
     obtain⟨d1,d2,d3⟩:=k.fP zS i' f' b hb;refine⟨.inl d1,d2,fun i2 f2 hb2=> ?_⟩
     by_cases yE:i2=i∧f≤f2∧f2<f+ts.length
     ·rw[aT yE] at hb2
      exact absurd d1 (MJ zS _ b aA hb2.2).1
     ·rw[aH yE] at hb2
      exact d3 i2 f2 hb2
  ·intro i' f' tc ht
   rcases m0 hrow hf ht with⟨rfl,a,b',hc⟩|⟨hn',hc⟩
   ·rw[aT ⟨rfl,a,b'⟩]
    have hj:f'-f<vs.length:=by omega
    have hx:=hX (f'-f) tc vs[f'-f] hc (aO hj)
    have hv:vs.getD (f'-f) undef=vs[f'-f]:=by simp[List.getD,aO hj]
    rw[hv];refine(ah.move hx (fun b hb=>⟨hb,qC b (MK b hb).1 (MK b hb).2⟩) fun LK b hb=>qC b (PF _ b aA hb) (OY _ b aA (jr LK) hb)).mono' fun LK b hb=> ?_;rw[aT ⟨rfl,a,b'⟩];exact⟨jr LK,hb⟩
   ·rw[aH aA]
    refine(ah.move (hn i' f' tc hc) (fun b hb=>⟨hb,qC b (MK b hb).1 (MK b hb).2⟩) fun LK b hb=> ?_).mono fun b hb=>by rw[aH aA];exact hb
    obtain⟨d1,d2,_⟩:=k.fP (jr LK) i' f' b hb;exact qC b (hS b d1) (d2 ad rfl)
theorem ah.inner {Rd S:Nat→Prop} {z n c:Nat} {rows:List (List TC)} {ad:Addr} (h:ah w Rd .deep S (.sub z rows) (.slice (some ad) n c)) {i f:Nat} {tc:TC} (ht:kO rows i f=some tc):
 ∃V1 T0,w.cell? (ad.add (i*z+f))=some V1∧ah w Rd .deep T0 tc V1∧(∀k,T0 k→S k∧k≠ad.block)∧S ad.block∧
  ∀(w':World) (tc':TC) (T1:Nat→Prop),ah w' Rd .deep T1 tc' V1→(∀k,S k→ ¬T0 k→w'.heap[k]?=w.heap[k]?)→(∀k,T1 k→T0 k∨ ¬S k)→
   ah w' Rd .deep (fun k=>(S k∧ ¬T0 k)∨T1 k) (.sub z (ga rows i f [tc'])) (.slice (some ad) n c):=by
 cases h with
 |sub _ _ _ _ _ _ u T k hn=>
  obtain⟨row,hrow,hfr⟩: ∃row,rows[i]?=some row∧row[f]?=some tc:=by
   unfold kO at ht
   cases hr:rows[i]? with
   |none=>rw[hr] at ht;cases ht
   |some row=>rw[hr] at ht;exact⟨row,rfl,ht⟩
  have hf:f+1≤row.length:=(List.getElem?_eq_some_iff.1 hfr).1;obtain⟨I1,jl,hall⟩:=(k.own cY).2 ad rfl;have ML: ∀b,T i f b→S b∧b≠ad.block:=fun b hb=>⟨(k.fP rfl i f b hb).1,(k.fP rfl i f b hb).2.1 ad rfl⟩;refine⟨u i f,T i f,k.cell ad rfl i f tc ht,hn i f tc ht,ML,I1,fun w' tc' T1 h1 hsame NJ=> ?_⟩;have wR:w'.heap[ad.block]?=w.heap[ad.block]?:=hsame _ I1 fun hb=>(ML _ hb).2 rfl;have key:=ah.sub (w:=w') (R:=Rd) .deep (fun b=>(S b∧ ¬T i f b)∨T1 b) z (ga rows i f [tc']) (some ad) c u (fun i' f' b=>if i'=i∧f'=f then T1 b else T i' f' b) ?_ ?_
  ·rw[de] at key;exact key
  ·refine⟨by rw[de];exact k.len,k.cap,k.z0,rj k.width hrow hf,fun _=>⟨ad,rfl⟩,?_,fun e=>(by cases e),fun _=>⟨fun e=>(by cases e),?_⟩,fun hm EF ad' e i=>(by cases e;rw[dz (w:=w) (a:=⟨ad.block,i,none⟩) wR];exact k.soft cY EF ad rfl i),?_⟩
   ·intro ad' e i' f' t' ht'
    cases e
    rw[bT (w:=w) (by rw[aK];exact wR)];rcases m0 hrow hf ht' with⟨rfl,a,b,hc⟩|⟨_,hc⟩
    ·have:f'=f:=by simp at b;omega
     subst this;exact k.cell ad rfl _ _ tc ht
    ·exact k.cell ad rfl i' f' t' hc
   ·intro ad' e
    cases e
    refine⟨.inl ⟨I1,fun hb=>(ML _ hb).2 rfl⟩,jl,fun j hj=> ?_⟩;obtain⟨⟨x,hx⟩,hfz⟩:=hall j hj;exact⟨⟨x,by rw[bT (w:=w) (by exact wR)];exact hx⟩,by rw[dz (w:=w) (by exact wR)];exact hfz⟩
   ·intro _ i' f' b hb
    by_cases hr:i'=i∧f'=f
    ·rw[aT hr] at hb
     have hne:b≠ad.block:=fun e=>by
      subst e;rcases NJ _ hb with h|h
      ·exact(ML _ h).2 rfl
      ·exact h I1
     refine⟨.inr hb,fun ad' e=>(by cases e;exact hne),fun i2 f2 hb2=> ?_⟩
     by_cases yE:i2=i∧f2=f
     ·exact⟨yE.1.trans hr.1.symm,yE.2.trans hr.2.symm⟩
     ·rw[aH yE] at hb2
      rcases NJ _ hb with h|h
      ·have:=(k.fP rfl i2 f2 b hb2).2.2 i f h
       exact absurd ⟨this.1.symm,this.2.symm⟩ yE
      ·exact absurd (k.fP rfl i2 f2 b hb2).1 h
    ·rw[aH hr] at hb
     obtain⟨d1,d2,d3⟩:=k.fP rfl i' f' b hb;refine⟨.inl ⟨d1,fun hb0=>hr (by have:=d3 i f hb0;exact⟨this.1.symm,this.2.symm⟩)⟩,d2,fun i2 f2 hb2=> ?_⟩
     by_cases yE:i2=i∧f2=f
     ·rw[aT yE] at hb2
      rcases NJ _ hb2 with h|h
      ·have:=d3 i f h
       exact absurd ⟨this.1.symm,this.2.symm⟩ hr
      ·exact absurd d1 h
     ·rw[aH yE] at hb2
      exact d3 i2 f2 hb2
  ·intro i' f' t' ht'
   rcases m0 hrow hf ht' with⟨rfl,a,b,hc⟩|⟨hn',hc⟩
   ·have:f'=f:=by simp at b;omega
    subst this;simp at hc;subst hc
    exact h1.mono fun b hb=>by rw[aT ⟨rfl,rfl⟩];exact hb
   ·have hr: ¬(i'=i∧f'=f):=by simp at hn';omega
    refine(ah.D3 (hn i' f' t' hc) fun b hb=> ?_).mono fun b hb=>by rw[aH hr];exact hb
    obtain⟨d1,d2,d3⟩:=k.fP rfl i' f' b hb;exact hsame b d1 fun hb0=>hr (by have:=d3 i f hb0;exact⟨this.1.symm,this.2.symm⟩)
end Go.T
namespace Go.T
variable {F : Nat → Prop} {A : Arg} {w0 w w' : World} {φ φ' : Fp} {st st' bh eZ : TS} {tm qc : Array Value} {C : dW}
variable {R : Type} {cf : Cf} {lp : Lp} {Q : R → Prop}
structure gZ (F:Nat→Prop) (w0 w:World) (φ:Fp) (st:TS) (k:Nat):Prop where
 lt:k<w.heap.size
 new:w0.heap.size≤k∨F k
 I: ¬φ.I k
 S: ∀o,aj st.ob o→ ¬φ.S o k
 B: ∀b cs,aa b st.bx=some cs→(φ.β b).block≠k
theorem ak.eP (h:ak F A w0 φ st tm w) {o k:Nat} (ho:aj st.ob o) (hk:φ.S o k) {b:Nat} {cs:List CE} (hb:aa b st.bx=some cs):(φ.β b).block≠k:=fun e=>by
 subst e
 cases pM:lS b with
 |true=>exact(h.sep.box b cs hb pM).2.1 o ho hk
 |false=>
  have h1:=h.sep.ez _ ((h.sep.spot b cs hb).2.2 pM);rcases (h.sep.fresh o _ ho hk).2 with h3|h3
  ·omega
  ·exact h1.2 h3
theorem ak.free (h:ak F A w0 φ st tm w) (hs:bI st' st) {k:Nat} (hk: ∃o,aj st.ob o∧ ¬aj st'.ob o∧φ.S o k):gZ F w0 w φ st' k:=by
 obtain⟨o,a1,a2,a3⟩:=hk
 exact⟨(h.sep.fresh o k a1 a3).1,(h.sep.fresh o k a1 a3).2,h.sep.read o k a1 a3,fun o' ho' hk=>by
  have:=h.sep.apart o o' k a1 (hs.dom ho') a3 hk
  subst this;exact a2 ho',fun b cs hb=>by
  obtain⟨cs0,c0,_⟩:=hs.bx b cs hb
  exact h.eP a1 a3 c0⟩
theorem AH (h:ak F A w0 φ st tm w) (h1:ak F A w0 φ bh tm w) {aZ:List It} {X:Nat→Nat→Prop} {Zp:Nat→Prop} (p:dM w φ st bh aZ X Zp) {r:Nat} {B b':OB} (hr:aa r bh.ob=some B) (hz:b'.z=B.z) (hl:b'.rows.length=B.rows.length)
 {Zt Xr:Nat→Prop} {gb off:Nat} {vs:List Value} (hg:φ.S r gb) (PG: ∀k,Xr k→ ¬Zt k∧(φ.S r k∨ ∃j,j<aZ.length∧X j k)) (PI: ∀k,Zt k→Zp k∨φ.S r k)
 (hc:ah (w.setCells gb off vs) (fun k=>φ.I k∨Zt k) b'.m Xr (.sub b'.z b'.rows) (φ.V r)):Rel F A w0 (ja [(r,b')] bh) tm (w.setCells gb off vs):=by
 have hin:aj bh.ob r:=⟨_,hr⟩;have hsize:=(ef gb vs off w).2.2.2
 have lookW: ∀{o b},aa o [(r,b')]=some b→o=r∧b=b':=fun {o b} ho=>by
  simp only[aa] at ho
  cases hb:Nat.beq r o with
  |true=>rw[hb] at ho;cases ho;exact⟨(cw hb).symm,rfl⟩
  |false=>rw[hb] at ho;cases ho
 have neW: ∀{o},aa o [(r,b')]=none→o≠r:=fun {o} ho e=>by subst e;simp[aa] at ho
 have frS: ∀{k},φ.S r k→k<w.heap.size∧(w0.heap.size≤k∨F k)∧ ¬φ.I k∧(∀d,aj bh.ob d→aa d [(r,b')]=none→ ¬φ.S d k)∧ ∀b cs,aa b bh.bx=some cs→(φ.β b).block≠k:=fun {k} hk=>
  ⟨(h1.sep.fresh r k hin hk).1,(h1.sep.fresh r k hin hk).2,h1.sep.read r k hin hk,fun d hd hn hk'=>neW hn (h1.sep.apart d r k hd hin hk' hk),fun b cs hb=>h1.eP hin hk hb⟩
 refine⟨_,h1.wrote (w':=w.setCells gb off vs) [(r,b')] (fun _ k=>Xr k) Zt (fun k=>k=gb) (h1.frm.setCells (frS hg).2.1) (by rw[hsize];exact bu _) (fun k hk hn=>bV _ _ _ _ hk hn)
  (fun k e=>by subst e;exact(frS hg).2.1) (fun k e=>by subst e;exact(frS hg).2.2.1) (fun k o e ho hn=>by subst e;exact(frS hg).2.2.2.1 o ho hn) (fun b cs hb e=>(frS hg).2.2.2.2 b cs hb e) (fun o b ho=> ?_) (fun k hk=> ?_)⟩
 ·obtain⟨rfl,rfl⟩:=lookW ho
  refine⟨B,hr,hz,hl,hc,fun k hk=> ?_⟩;obtain⟨x1,x2⟩:=PG k hk;rcases x2 with x2|⟨j,hj,x2⟩
  ·obtain⟨f1,f2,f3,f4,f5⟩:=frS x2
   exact⟨by rw[hsize];exact f1,f2,f3,x1,f4,fun d b hb _=>(lookW hb).1,fun b cs hb _=>f5 b cs hb⟩
  ·have fr:=h.free p.sub (p.src j k hj x2).2
   exact⟨by rw[hsize];exact fr.lt,fr.new,fr.I,x1,fun d hd _=>fr.S d hd,fun d b hb _=>(lookW hb).1,fun b cs hb _=>fr.B b cs hb⟩
 ·rcases PI k hk with hz|hz
  ·have fr:=h.free p.sub (p.srcZ k hz)
   exact⟨by rw[hsize];exact fr.lt,fr.new.elim .inl fun hF=> .inr (.inl hF),fun d hd _=>fr.S d hd,fun b cs hb _=>fr.B b cs hb⟩
  ·obtain⟨f1,f2,f3,f4,f5⟩:=frS hz
   exact⟨by rw[hsize];exact f1,f2.elim .inl fun hF=> .inr (.inl hF),f4,fun b cs hb _=>f5 b cs hb⟩
theorem qn {a:Act} (hT:bZ C) (h:ak F A w0 φ st a.tmps w) {o:Oper} {t:TypeId} {q x:Operand} (ho:o.op= .store t q x) (dr:o.dst=none) {cs:List CE} (hkn:known (C.tt t)=true) (hcs:o9 st.ob w φ cs (a.eval x))
 (hsz:cs.length=(C.tt t).size) {r:Nat} {path:Option (Int×Nat)} {i:Int} {f:Nat} (hq:gH C st 0 q= .er r path i f) {K:TS→Ev R} (hk:(qM r path i f cs st K).holds cf lp Q):BD C F A w0 φ st o a w K cf lp Q:=by
 have LL:=bH hT h 0 q;rw[hq] at LL;obtain⟨b,hb,hi,ad,n,c,hV,I2⟩:=LL;unfold qM at hk
 split at hk
 ·rename_i ts bh d1 hab
  split at hk
  ·rename_i d z rows zY
   have vlen:(a.eval x).cells.toList.length=cs.length:=by simpa using hcs.1
   have hce: ∀(j:Nat) (e:CE),cs[j]?=some e→ ∃v,(a.eval x).cells.toList[j]?=some v∧aW st.ob w φ e v:=fun j e he=>by
    obtain⟨y,y1,_,y3⟩:=hcs.2 j e he;exact⟨y,by simpa using y1,y3⟩
   have fin: ∀{ad':Addr} {b':OB},a.eval q= .pointer (some ad')→ad'.spot=none→(∀j,j<(a.eval x).cells.size→(w.cell? (ad'.add j)).isSome=true∧w.frozen? (ad'.add j)=false)→(∀y∈(a.eval x).cells.toList,y.oneCell'=true)→φ.S r ad'.block→
    Rel F A w0 (ja [(r,b')] bh) a.tmps (w.setCells ad'.block ad'.off (a.eval x).cells.toList)→(K (ja [(r,b')] bh)).holds cf lp Q→BD C F A w0 φ st o a w K cf lp Q:=fun {ad' b'} hv hs hc h1 hS kk hk=>by
    have hrun:=q9 (w:=w) (hT t hkn) hs (v:=a.eval x) (by rw[hcs.1,hsz]) h1 hc;refine⟨.skip,undef,_,_,?_,.inr ⟨rfl,rfl⟩,by rw[dr];exact kk,hk,by rw[(ef _ _ _ _).2.2.2];exact bu _,fun k hk Ik=> ?_⟩
    ·unfold execOp
     rw[ho];simp only[Sem.run_bind,hv,hrun,Result.andThen]
     rfl
    ·refine bV _ _ _ _ hk fun e=>Ik (.inr ⟨r,?_,⟨b,hb⟩,by rw[e];exact hS⟩)
     unfold writes;rw[ho];simp only[hq];exact .head _
   have one: ∀{M:Mode} {X:Nat→Nat→Prop} {Z:Nat→Prop},ts.length=cs.length→dM w φ st bh (bD M ts (a.eval x).cells.toList) X Z→ ∀y∈(a.eval x).cells.toList,y.oneCell'=true:=fun {M X Z} hl p y hy=>by
    obtain⟨j,hj,rfl⟩:=List.mem_iff_getElem.1 hy;exact ir (p.ok j _ (eL (aO aA) (aO hj)))
   cases path with
   |none=>
    simp only at hk;obtain⟨row,hrow,hk⟩:=hk;obtain⟨_,hrow⟩:=gj hrow;simp only at hk
    split at hk
    ·rename_i hle
     have hle:=gD hle
     obtain⟨h1,hl,hsub,os,tk⟩:=pk (if d&&d1 then .deep else .snap) cs st _ ts bh d1 h (bI.refl _) vlen hce (by
      cases hd:d&&d1 with
      |true=>simp only[cm] at hd;exact .inr ⟨hd.2,rfl⟩
      |false=>exact .inl rfl) hab
     obtain⟨X,Zp,p⟩:=tk.parts h;have:=hsub.ob r _ zY;rw[hb] at this
     cases this
     have hO:=h1.obj r _ zY;unfold eE at hO;rw[hV] at hO;have hin:aj bh.ob r:=⟨_,zY⟩;have hlen:(bD (if(d&&d1)=true then Mode.deep else .snap) ts (a.eval x).cells.toList).length=ts.length:=cF aA;have itm: ∀(j:Nat) (tc:TC) (v:Value),ts[j]?=some tc→(a.eval x).cells.toList[j]?=some v→ah w (fun k=>φ.I k∨Zp k) (if(d&&d1)=true then Mode.deep else .snap) (X j) tc v:=fun j tc v e1 e2=>p.ok j _ (eL e1 e2);have wK:a.eval q= .pointer (some (ad.add (i.toNat*z+f))):=I2
     obtain⟨Zt,Sr,g1,g2,g3,g4,g5⟩: ∃Zt Sr:Nat→Prop,ah w (fun k=>φ.I k∨Zt k) (OB.m ⟨d&&d1,z,setRow rows i f ts⟩) Sr (.sub z rows) (.slice (some ad) n c)∧(∀k,Sr k→φ.S r k∧ ¬Zt k)∧(∀k,Zt k→(Zp k∨φ.S r k)∧k≠ad.block)∧
      (∀(j:Nat) (tc:TC) (v:Value),ts[j]?=some tc→(a.eval x).cells.toList[j]?=some v→ah w (fun k=>φ.I k∨Zt k) (OB.m ⟨d&&d1,z,setRow rows i f ts⟩).nx (X j) tc v)∧((d&&d1)=true→ ∀k,Zt k→Zp k):=by
      have adS:φ.S r ad.block:=by
       cases hO with
       |sub _ _ _ _ _ _ u T k hn=>exact(k.own (by unfold OB.m;split<;>simp)).2 ad rfl|>.1
      have zpn: ∀k,Zp k→k≠ad.block:=fun k hk e=>(h.free p.sub (p.srcZ k hk)).S r hin (by rw[e];exact adS)
      cases hd:d&&d1 with
      |true=>
       rw[hd] at itm
       have DK:d=true:=by simp only[cm] at hd;exact hd.1
       subst DK;refine⟨Zp,φ.S r,hO.fh fun k hk=> .inl hk,fun k hk=>⟨hk,fun hz=>(h.free p.sub (p.srcZ k hz)).S r hin hk⟩,fun k hk=>⟨.inl hk,zpn k hk⟩,itm,fun _ k hk=>hk⟩
      |false=>
       rw[hd] at itm;refine⟨fun k=>Zp k∨(φ.S r k∧ ¬vi .top (.slice (some ad) n c) (φ.S r) k),vi .top (.slice (some ad) n c) (φ.S r),?_,fun k hk=>⟨hk.1,fun hz=> ?_⟩,fun k hk=> ?_,fun j tc v e1 e2=> ?_,fun e=>by cases e⟩
       ·exact hO.out (m:= .top) (by unfold OB.m;split<;>simp) (fun e=>by cases e) (fun k hk=> .inl hk) fun k hk hn=> .inr (.inr ⟨hk,hn⟩)
       ·rcases hz with hz|hz
        ·exact(h.free p.sub (p.srcZ k hz)).S r hin hk.1
        ·exact hz.2 hk
       ·rcases hk with hk|hk
        ·exact⟨.inl hk,zpn k hk⟩
        ·exact⟨.inr hk.1,fun e=>hk.2 ⟨hk.1,ad,n,c,rfl,e⟩⟩
       ·exact(itm j tc v e1 e2).fK (S':=X j) fun k hk=>hk.elim .inl fun h=> .inr (.inl h)
     obtain⟨ps,pS,pt,pc⟩:=g1.put (by unfold OB.m;split<;>simp) hrow hle (vs:=(a.eval x).cells.toList) aA (one hl p) g4 (fun zS j k hj hk=>by
      obtain⟨s1,s2⟩:=p.src j k (by rw[hlen];exact hj) hk
      exact⟨fun hS=>(h.free p.sub s2).S r hin (g2 k hS).1,fun j' hj' hk'=>p.apart _ _ k (by rw[hlen];exact hj') (by rw[hlen];exact hj) hk' hk⟩)
      (fun k hk=>by
        rcases hk with hk|hk
        ·refine⟨(h.sep.ro k hk).1,fun e=> ?_⟩
         have adS:φ.S r ad.block:=by
          cases hO with
          |sub _ _ _ _ _ _ u T k hn=>exact(k.own (by unfold OB.m;split<;>simp)).2 ad rfl|>.1
         exact h1.sep.read r _ hin adS (by rw[←e];exact hk)
        ·refine⟨?_,(g3 k hk).2⟩
         rcases (g3 k hk).1 with hz|hz
         ·exact(h.free p.sub (p.srcZ k hz)).lt
         ·exact(h1.sep.fresh r k hin hz).1)
      (fun k hk=>(h1.sep.fresh r k hin (g2 k hk).1).1) (fun j k hj hk=>(h.free p.sub (p.src j k (by rw[hlen];exact hj) hk).2).lt)
     refine fin wK (ou _ ps) (fun j hj=>by rw[Addr.add_add];exact pt j (by simpa using hj)) (one hl p) (by rw[aK];exact(g2 _ pS).1) ?_ hk;rw[aK,ju _ ps];refine AH h h1 p zY (b':=⟨d&&d1,z,setRow rows i f ts⟩) rfl (by simp only[iu,de]) (g2 _ pS).1 (Zt:=Zt) (Xr:=fun k=>Sr k∨((OB.m ⟨d&&d1,z,setRow rows i f ts⟩)= .deep∧ ∃j,j<ts.length∧X j k)) (fun k hk=> ?_) (fun k hk=>(g3 k hk).1) ?_
     ·rcases hk with hk|⟨zS,j,hj,hk⟩
      ·exact⟨(g2 k hk).2,.inl (g2 k hk).1⟩
      ·refine⟨fun hz=> ?_,.inr ⟨j,by rw[hlen];exact hj,hk⟩⟩
       have DK:(d&&d1)=true:=by
        unfold OB.m at zS
        cases hd:d&&d1 with
        |true=>rfl
        |false=>simp[hd] at zS
       exact(p.src j k (by rw[hlen];exact hj) hk).1 (g5 DK k hz)
     ·show ah _ _ (OB.m ⟨d&&d1,z,setRow rows i f ts⟩) _ (.sub z (setRow rows i f ts)) _
      rw[hV,iu];exact pc
    ·exact hk.elim
   |some pq=>
    obtain⟨i0,f0⟩:=pq;simp only at hk
    split at hk
    ·obtain⟨row0,GK,hk⟩:=hk
     obtain⟨_,GK⟩:=gj GK;simp only at hk
     split at hk
     ·rename_i z1 fY J2
      obtain⟨row,hrow,hk⟩:=hk;obtain⟨_,hrow⟩:=gj hrow;simp only at hk
      split at hk
      ·rename_i hle
       have hle:=gD hle;obtain⟨h1,hl,hsub,os,tk⟩:=pk .deep cs st _ ts bh true h (bI.refl _) vlen hce (.inr ⟨rfl,rfl⟩) hab;obtain⟨X,Zp,p⟩:=tk.parts h;have:=hsub.ob r _ zY;rw[hb] at this
       cases this
       have hO:=h1.obj r _ zY;unfold eE at hO;rw[hV] at hO;have hin:aj bh.ob r:=⟨_,zY⟩;have hlen:(bD Mode.deep ts (a.eval x).cells.toList).length=ts.length:=cF aA;obtain⟨_,z1',rows1',LC,ad1,n1,c1,hcell,Kx⟩:=I2;have OZ:kO rows i0.toNat f0=some (.sub z1 fY):=jv GK J2;rw[OZ] at LC
       cases LC
       obtain⟨V1,T0,v1,v2,v3,v4,v5⟩:=ah.inner (hO.fh (R':=fun k=>φ.I k∨Zp k) fun k hk=> .inl hk:ah w (fun k=>φ.I k∨Zp k) .deep (φ.S r) (.sub z rows) (.slice (some ad) n c)) OZ
       have:V1= .slice (some ad1) n1 c1:=by have hh:=v1.symm.trans hcell;simpa using hh
       subst this;have XS: ∀j k,j<ts.length→X j k→ ¬φ.S r k:=fun j k hj hk=>(h.free p.sub (p.src j k (by rw[hlen];exact hj) hk).2).S r hin
       have ad1S:T0 ad1.block:=by
        cases v2 with
        |sub _ _ _ _ _ _ u T k hn=>exact(k.own cY).2 ad1 rfl|>.1
       obtain⟨ps,pS,pt,pc⟩:=v2.put cY hrow hle (vs:=(a.eval x).cells.toList) aA (one hl p) (X:=X) (fun j tc v e1 e2=>p.ok j _ (eL e1 e2)) (fun _ j k hj hk=>
        ⟨fun hS=>XS j k hj hk (v3 k hS).1,fun j' hj' hk'=>p.apart _ _ k (by rw[hlen];exact hj') (by rw[hlen];exact hj) hk' hk⟩)
        (fun k hk=>by
          rcases hk with hk|hk
          ·exact⟨(h.sep.ro k hk).1,fun e=>h1.sep.read r _ hin (v3 _ ad1S).1 (by rw[←e];exact hk)⟩
          ·have fr:=h.free p.sub (p.srcZ k hk)
           exact⟨fr.lt,fun e=>fr.S r hin (by rw[e];exact(v3 _ ad1S).1)⟩)
        (fun k hk=>(h1.sep.fresh r k hin (v3 k hk).1).1) (fun j k hj hk=>(h.free p.sub (p.src j k (by rw[hlen];exact hj) hk).2).lt)
       have wK:a.eval q= .pointer (some (ad1.add (i.toNat*z1+f))):=Kx;refine fin wK (ou _ ps) (fun j hj=>by rw[Addr.add_add];exact pt j (by simpa using hj)) (one hl p) (by rw[aK];exact(v3 _ ad1S).1) ?_ hk;rw[aK,ju _ ps]
       have hnew:=v5 _ _ _ pc (fun k hk hn=>bV _ _ _ _ (h1.sep.fresh r k hin hk).1 fun e=>hn (by rw[e];exact ad1S)) (fun k hk=>by
        rcases hk with hk|⟨_,j,hj,hk⟩
        ·exact .inl hk
        ·exact .inr (XS j k hj hk))
       refine AH h h1 p zY (b':=⟨true,z,setRow rows i0 f0 [.sub z1 (setRow fY i f ts)]⟩) rfl (by simp only[iu,de]) (v3 _ ad1S).1 (Zt:=Zp) (Xr:=fun k=>(φ.S r k∧ ¬T0 k)∨(T0 k∨(Mode.deep= .deep∧ ∃j,j<ts.length∧X j k))) (fun k hk=> ?_) (fun k hk=> .inl hk) ?_
       ·rcases hk with hk|hk|⟨_,j,hj,hk⟩
        ·exact⟨fun hz=>(h.free p.sub (p.srcZ k hz)).S r hin hk.1,.inl hk.1⟩
        ·exact⟨fun hz=>(h.free p.sub (p.srcZ k hz)).S r hin (v3 k hk).1,.inl (v3 k hk).1⟩
        ·exact⟨(p.src j k (by rw[hlen];exact hj) hk).1,.inr ⟨j,by rw[hlen];exact hj,hk⟩⟩
       ·show ah _ _ .deep _ (.sub z (setRow rows i0 f0 [.sub z1 (setRow fY i f ts)])) _
        rw[hV,iu,iu];exact hnew
      ·exact hk.elim
     ·exact hk.elim
    ·exact hk.elim
  ·exact hk.elim
 ·exact hk.elim
theorem FI {a:Act} (hT:bZ C) (h:ak F A w0 φ st a.tmps w) {o:Oper} {t:TypeId} {q x:Operand} (ho:o.op= .store t q x) {K:TS→Ev R} (hk:(fe C st o K).holds cf lp Q):BD C F A w0 φ st o a w K cf lp Q:=by
 unfold fe at hk;rw[ho] at hk;simp only at hk
 split at hk
 ·rename_i cs dr hkn hc
  have hcs:=ie (bH hT h t x) hc
  split at hk
  ·rename_i b off hsz hp
   split at hk
   ·rename_i st' hs
    exact AG hT h ho dr hkn hcs (cw hsz) hp hs hk
   ·exact hk.elim
  ·rename_i r i f hsz hp
   split at hk
   ·have LL:=bH hT h 0 q
    rw[hp] at LL;obtain⟨b,hb,_⟩:=LL;obtain⟨h',hce⟩:=h.lW hb
    have NK:o9 (lW r st).ob w (φ.zf r) (cs.map (uT r)) (a.eval x):=by
     refine⟨by rw[g9];exact hcs.1,fun j e he=> ?_⟩;rw[dK] at he
     cases hj:cs[j]? with
     |none=>rw[hj] at he;cases he
     |some e0=>
      rw[hj] at he;simp only[dO,aI] at he;subst he;obtain⟨y,y1,y2,y3⟩:=hcs.2 j e0 hj;exact⟨y,y1,y2,hce _ _ y3⟩
    have zQ:gH C (lW r st) 0 q= .er r none i f:=by
     cases q with
     |tmp n=>
      have hp:st.get n= .er r none i f:=hp;show(lW r st).get n=_;unfold T.lW;rw[hb];simp only;rw[get_map _ _ _ rfl,hp]
      rfl
     |_=>exact hp
    obtain⟨nx,v,w',st',d1,d2,d3,d4,d5,d6⟩:=qn hT h' ho dr hkn NK (by rw[g9];exact cw hsz) zQ hk;refine⟨nx,v,w',st',d1,d2,d3,d4,d5,fun k hk Ik=>d6 k hk fun hw=>Ik ?_⟩
    have e1:writes C st o=[2*r]:=by unfold writes;rw[ho];simp only[hp]
    have e2:writes C (lW r st) o=[2*r]:=by unfold writes;rw[ho];simp only[zQ]
    rw[e1];rw[e2] at hw;rcases hw with⟨b',cs',hm,_⟩|⟨o',hm,_,hS⟩
    ·simp only[dw] at hm;omega
    ·simp only[dw] at hm
     have:o'=r:=by omega
     subst this;exact .inr ⟨o',.head _,⟨b,hb⟩,hS.1⟩
   ·exact qn hT h ho dr hkn hcs (cw hsz) hp hk
  ·rename_i r path i f hn hsz hp
   exact qn hT h ho dr hkn hcs (cw hsz) hp hk
  ·exact hk.elim
 ·exact hk.elim
end Go.T
namespace Go.T
variable {F : Nat → Prop} {A : Arg} {w0 w w' : World} {φ φ' : Fp} {st st' bh eZ : TS} {tm qc : Array Value} {C : dW}
variable {R : Type} {cf : Cf} {lp : Lp} {Q : R → Prop}
theorem rm (h0:ak F A w0 φ st tm w) (h:ak F A w0 φ st' tm w) {dp:Bool} {z:Nat} {rows:List (List TC)} {vs:List Value} {X:Nat→Nat→Prop} {Z:Nat→Prop} {d:Nat}
 (p:dM w φ st st' (bD (if dp then .deep else .snap) rows.flatten vs) X Z) (hz:0<z) (mO: ∀r∈rows,r.length=z) (hl:vs.length=rows.length*z) {c:Nat} (hc:rows.length≤c) (Ii:c≤maxLen)
 (g:ff w w') (hlt:w.heap.size<w'.heap.size) (hcell: ∀(j:Nat) (v:Value),vs[j]?=some v→w'.cell? ⟨w.heap.size,j,none⟩=some v)
 (hall: ∀j,j<c*z→(∃x,w'.cell? ⟨w.heap.size,j,none⟩=some x)∧w'.frozen? ⟨w.heap.size,j,none⟩=false) (wL:1<z→ ∀i,w'.frozen? ⟨w.heap.size,i,none⟩=false) (hd:d<tm.size):
 Rel F A w0 (kz d ⟨dp,z,rows⟩ st') (tm.setIfInBounds d (.slice (some ⟨w.heap.size,0,none⟩) rows.length c)) w':=by
 have hlen:(bD (if dp then Mode.deep else .snap) rows.flatten vs).length=rows.length*z:=by rw[cF (by rw[aR mO,hl]),aR mO]
 exact FG h0 h p hz mO hl (ad:=⟨w.heap.size,0,none⟩) hc Ii rfl (h.frm.BS g) g.size (fun k hk _=>g.block k hk) (G:=fun _=>False) (fun k hk=>hk.elim)
  (fun k hk=>⟨id,fun e=>by have:=(h0.free p.sub (p.srcZ k hk)).lt;rw[e] at this;simp at this⟩)
  (fun i k hi hk=>⟨id,fun e=>by have:=(h0.free p.sub (p.src i k (by rw[hlen];exact hi) hk).2).lt;rw[e] at this;simp at this⟩)
  (.inl ⟨bu _,hlt⟩) (fun j v hj=>by rw[add_lit,dZ];exact hcell j v hj) (fun j hj=>by simp only[dZ];exact hall j hj) wL hd
theorem Dd {z:Nat}: ∀(ps:List (Nat×Value)) (n:Nat) (cs:Array Value),(∀(j:Nat) p,ps[j]?=some p→p.1=n+j∧p.2.cells.size=z)→(n+ps.length)*z≤cs.size→
 ∃cs',Instr.fill (fun i=>some (i*z,z)) cs ps=some cs'∧cs'.size=cs.size∧(∀j,j<n*z→cs'[j]?=cs[j]?)∧ ∀j,j<ps.length*z→cs'[n*z+j]?=(ps.flatMap fun p=>p.2.cells.toList)[j]?
 |[],n,cs,_,_=>⟨cs,rfl,rfl,fun _ _=>rfl,fun j hj=>by simp at hj⟩
 |(i,v)::r,n,cs,hp,hle=>by
  obtain⟨h1,h2⟩:=hp 0 _ rfl;simp only[jO] at h1 h2;subst h1;simp only[eT] at hle
  have PJ:i*z+z≤cs.size:=by
   have:(i+1)*z≤(i+(r.length+1))*z:=gq _ aA;rw[iM] at this;omega
  obtain⟨g1,g2⟩:=sw (i*z) v.cells.toList 0 cs (by simp[h2];omega)
  obtain⟨cs',k1,k2,k3,k4⟩:=Dd r (i+1) (v.cells.zipIdx.foldl (fun(cs:Array Value) (p:Value×Nat)=>cs.setIfInBounds (i*z+p.2) p.1) cs) (fun j p hj=>by
   obtain⟨a,b⟩:=hp (j+1) p (by simpa using hj)
   exact⟨by omega,b⟩) (by
   have e1:v.cells.zipIdx.foldl (fun(cs:Array Value) (p:Value×Nat)=>cs.setIfInBounds (i*z+p.2) p.1) cs=(v.cells.toList.zipIdx 0).foldl (fun(cs:Array Value) (p:Value×Nat)=>cs.setIfInBounds (i*z+p.2) p.1) cs:=by
    rw[←Array.foldl_toList,Array.toList_zipIdx]
   rw[e1,g1]
   have:i+1+r.length=i+(r.length+1):=by omega
   rw[this];exact hle)
  have e1:v.cells.zipIdx.foldl (fun(cs:Array Value) (p:Value×Nat)=>cs.setIfInBounds (i*z+p.2) p.1) cs=(v.cells.toList.zipIdx 0).foldl (fun(cs:Array Value) (p:Value×Nat)=>cs.setIfInBounds (i*z+p.2) p.1) cs:=by
   rw[←Array.foldl_toList,Array.toList_zipIdx]
  refine⟨cs',?_,by rw[k2,e1,g1],fun j hj=> ?_,fun j hj=> ?_⟩
  ·unfold Instr.fill
   simp only[h2,ne_eq,not_true_eq_false,decide_false,uK,decide_eq_true_eq];rw[aH aA];exact k1
  ·rw[k3 j (by rw[iM];omega),e1,g2 j,aH aA]
  ·rw[List.flatMap_cons]
   by_cases Rs:j<z
   ·rw[k3 _ (by rw[iM];omega),e1,g2,aT (by simp[h2];omega),dY (by simp[h2];omega)]
    simp
   ·rw[eA (by simp[h2];omega)]
    have:=k4 (j-z) (by simp only[eT,iM] at hj;omega);rw[show(i+1)*z+(j-z)=i*z+j by rw[iM];omega] at this;rw[this];simp[h2]
theorem vk {P:Program} {t e:TypeId} {i:TypeInfo} {zv:Value} (ht:P.underlying t=some (.slice e)) (hi:P.info? e=some i) (hz:i.zero=some zv) (parts:Array (Nat×Value)) {len:Nat}
 (hp: ∀(j:Nat) p,parts.toList[j]?=some p→p.1=j∧p.2.cells.size=i.size) (hl:parts.size=len) (hle:len*i.size≤16777216):
 ∃cells,(Instr.buildSlice t len parts).run P w= .ok (.slice (some ⟨w.heap.size,0,none⟩) len len) (w.alloc (.cells cells e))∧cells.size=len*i.size∧ ∀j,j<len*i.size→cells[j]?=(parts.toList.flatMap fun p=>p.2.cells.toList)[j]?:=by
 have LM: ¬(len*i.size>16777216):=by omega
 obtain⟨cs',k1,k2,_,k4⟩:=Dd (z:=i.size) parts.toList 0 ((Array.range (len*i.size)).map ((if len*i.size=0 then #[] else zv.cells)[· % (if len*i.size=0 then #[] else zv.cells).size]!)) (fun j p hj=>by rw[dZ];exact hp j p hj) (by simp[hl]);refine⟨cs',?_,by rw[k2];simp,fun j hj=> ?_⟩
 ·unfold Instr.buildSlice
  by_cases h0:len*i.size=0
  ·have hr: ∀f:Nat→Value,(Array.range 0).map f= #[]:=fun f=>Array.eq_empty_of_size_eq_zero cY
   simp only[h0,if_true,hr] at k1;simp[run_underlying ht,sizeOf,typeInfo,hi,LM,h0,hr,k1,newRow]
  ·simp only[h0,if_false] at k1
   simp[run_underlying ht,sizeOf,typeInfo,zeroValue,hi,hz,LM,h0,k1,newRow]
 ·have:=k4 j (by rw[lT,hl];exact hj)
  simpa using this
theorem xO (hT:bZ C) {a:Act} {ty:TypeId} (M:Mode): ∀(l:List (Nat×Operand)) (n:Nat) (st:TS) (rs:List (List TC)) (st':TS) (dp:Bool),ak F A w0 φ st a.tmps w→(M= .snap∨dp=true∧M= .deep)→rowsOf C st ty l n=some (rs,st',dp)→
 ak F A w0 φ st' a.tmps w∧rs.length=l.length∧(∀r∈rs,r.length=(C.tt ty).size)∧(∀(j:Nat) p,l[j]?=some p→p.1=n+j∧(a.eval p.2).cells.size=(C.tt ty).size)∧
  ∃X Z,dM w φ st st' (bD M rs.flatten (l.flatMap fun p=>(a.eval p.2).cells.toList)) X Z
 |[],n,st,rs,st',dp,h,hM,hr=>by
  cases hr
  exact⟨h,rfl,fun r hr=>(by cases hr),fun j p hj=>by simp at hj,_,_,dM.nil _⟩
 |(i,x)::l,n,st,rs,st',dp,h,hM,hr=>by
  simp only[rowsOf] at hr
  split at hr
  ·rename_i cs hin hcs
   have hin:=cw hin;have hok:=ie (bH hT h ty x) hcs
   split at hr
   ·rename_i cs' bh d1 hsz hab
    have hsz:=cw hsz
    split at hr
    ·rename_i rs2 eZ d2 yE
     cases hr
     have vlen:(a.eval x).cells.toList.length=cs.length:=by simpa using hok.1
     obtain⟨h1,ud,BF,os,tk⟩:=pk M cs st (a.eval x).cells.toList cs' bh d1 h (bI.refl _) vlen (fun j e he=>by
      obtain⟨y,y1,_,y3⟩:=hok.2 j e he
      exact⟨y,by simpa using y1,y3⟩) (by
      rcases hM with hM|⟨hd,hM⟩
      ·exact .inl hM
      ·simp only[cm] at hd;exact .inr ⟨hd.1,hM⟩) hab
     obtain⟨X1,Z1,p1⟩:=tk.parts h
     obtain⟨h2,qB,zT,CL,X2,Z2,p2⟩:=xO hT M l (n+1) bh rs2 _ d2 h1 (by
      rcases hM with hM|⟨hd,hM⟩
      ·exact .inl hM
      ·simp only[cm] at hd;exact .inr ⟨hd.2,hM⟩) yE
     have key:=p1.app h p2;rw[←lE aA] at key;refine⟨h2,by simp[qB],fun r hr=> ?_,fun j p hj=> ?_,_,_,key⟩
     ·rcases bg.1 hr with rfl|hr
      ·rw[ud,hsz]
      ·exact zT r hr
     ·cases j with
      |zero=>simp only[bG,aI] at hj;subst hj;exact⟨hin,by rw[hok.1,hsz]⟩
      |succ j=>
       obtain⟨a1,a2⟩:=CL j p (by simpa using hj);exact⟨by omega,a2⟩
    ·cases hr
   ·cases hr
  ·cases hr
theorem wW (hT:bZ C) {a:Act} (h:ak F A w0 φ st a.tmps w) {o:Oper} {t:TypeId} {n:Nat} {ps:Array (Nat×Operand)} (ho:o.op= .buildSlice t n ps) {K:TS→Ev R} (hd: ∀d,o.dst=some d→d<a.tmps.size) (hk:(fe C st o K).holds cf lp Q):
 BD C F A w0 φ st o a w K cf lp Q:=by
 unfold fe at hk;rw[ho] at hk;simp only at hk
 split at hk
 ·rename_i d e dr he
  split at hk
  ·rename_i rs st' dp hb hr
   simp only[cm] at hb;obtain⟨⟨hn,hle⟩,yC⟩:=hb;have hn:=cw hn;have hle:=gD hle;obtain⟨hkn,hnp⟩:=mm yC;obtain⟨i,zv,g1,g2,g3,_⟩:=y8 (w:=w) (φ:=φ) hT hkn hnp (ob:=st.ob);obtain⟨h1,hl,hw,hp,X,Z,p⟩:=xO hT (if dp then .deep else .snap) ps.toList 0 st rs st' dp h (by cases dp<;>simp) hr
   have rY:rs.length=n:=by rw[hl,hn];simp
   obtain⟨cells,c1,c2,c3⟩:=vk (w:=w) (jK hT he).1 g1 g3 (ps.map fun(i,x)=>(i,a.eval x)) (len:=n) (fun j q hj=>by
    rw[Array.toList_map,dK] at hj
    cases hq:ps.toList[j]? with
    |none=>rw[hq] at hj;cases hj
    |some r=>
     rw[hq] at hj;simp only[dO,aI] at hj;subst hj;obtain⟨a1,a2⟩:=hp j r hq
     exact⟨by rw[a1,dZ],by rw[g2];exact a2⟩) (by simp[hn]) (by rw[g2];exact hle)
   have hvl:(ps.toList.flatMap fun p=>(a.eval p.2).cells.toList).length=rs.length*(C.tt e).size:=by
    have: ∀(l:List (Nat×Operand)),(∀p∈l,(a.eval p.2).cells.size=(C.tt e).size)→(l.flatMap fun p=>(a.eval p.2).cells.toList).length=l.length*(C.tt e).size:=by
     intro l
     induction l with
     |nil=>intro _;simp
     |cons x r ih=>
      intro hx;rw[List.flatMap_cons,cL,ih fun p hp=>hx p (.tail _ hp),lT,hx x (.head _),eT,iM];omega
    rw[this _ fun p zQ=> ?_,hl];obtain⟨j,hj,rfl⟩:=List.mem_iff_getElem.1 zQ;exact(hp j _ (aO hj)).2
   have PK:((ps.map fun(i,x)=>(i,a.eval x)).toList.flatMap fun p=>p.2.cells.toList)=ps.toList.flatMap fun p=>(a.eval p.2).cells.toList:=by
    rw[Array.toList_map,List.flatMap_map]
   have kk:=rm (w':=w.alloc (.cells cells e)) (d:=d) h h1 p (hT e hkn).pos hw hvl (c:=n) aA (by
    have hpos:=(hT e hkn).pos;have:n≤n*(C.tt e).size:=Nat.le_mul_of_pos_right n hpos
    simp only[maxLen];omega) (ff.alloc w _) cY (fun j v hj=>by
    rw[jW,c3 j (by
     have:=(List.getElem?_eq_some_iff.1 hj).1;rw[hvl,rY] at this
     rw[g2];exact this),PK]
    exact hj) (fun j hj=>⟨⟨cells[j]'(by rw[c2,g2];exact hj),by rw[jW];exact jM _⟩,gl _ _ _ _⟩) (fun _ i=>gl _ _ _ _) (hd d dr)
   rw[rY] at kk;refine⟨.value _,_,_,_,?_,.inl rfl,by rw[dr];exact kk,hk,by simp,fun k hk _=>(ff.alloc w _).block k hk⟩;unfold execOp;rw[ho];simp only[Sem.run_bind,c1,Result.andThen]
   rfl
  ·exact hk.elim
 ·exact hk.elim
theorem uE {z:Nat} {rows:List (List TC)} (hz:0<z) (mO: ∀r∈rows,r.length=z) {p:Nat} {tc:TC} (hp:rows.flatten[p]?=some tc):kO rows (p/z) (p % z)=some tc:=by
 have hfl:=aR mO
 have hlt:p<rows.length*z:=by rw[←hfl];exact(List.getElem?_eq_some_iff.1 hp).1
 have hi:p/z<rows.length:=Nat.div_lt_of_lt_mul (by rw[Nat.mul_comm];exact hlt);have hrl:=mO _ (qG hi)
 have hf:p % z<(rows[p/z]).length:=by rw[hrl];exact Nat.mod_lt _ hz
 have h1:kO rows (p/z) (p % z)=some (rows[p/z][p % z]):=by simp[kO,aO hi,aO hf]
 have h2:=(jV mO h1).1;rw[qI p z] at h2;rw[h1,←h2,hp]
theorem FJ {Rd S:Nat→Prop} {m:Mode} {c:TC} (h:BU c=true):ah w Rd m S c (G6 c):=by
 cases c with
 |any=>cases h
 |sc v=>cases v<;>first|exact .sc _ _ _ trivial|cases h
 |sub z rows=>cases rows with
  |nil=>exact kT (gD h)
  |cons _ _=>cases h
attribute [local semireducible] bM ux qJ fits in
theorem zh (hT:bZ C) {a:Act} (h:ak F A w0 φ st a.tmps w) {o:Oper} {t:TypeId} {l c:Operand} (ho:o.op= .makeSlice t l c) {K:TS→Ev R} (hd: ∀d,o.dst=some d→d<a.tmps.size) (hk:(fe C st o K).holds cf lp Q):
 BD C F A w0 φ st o a w K cf lp Q:=by
 unfold fe at hk;rw[ho] at hk;simp only at hk
 split at hk
 ·rename_i d e n n' dr he hl hc
  have hk2:(match(lC (C.tt e)&&bM n n'&&ux 0 n&&fits (qJ n) (C.tt e).bytes) with|true=>K (kz d ⟨true,(C.tt e).size,List.replicate (qJ n) (C.tt e).zero⟩ st)|false=> .fail:Ev R).holds cf lp Q:=hk;clear hk
  split at hk2
  ·rename_i hb
   simp only[cm] at hb;obtain⟨⟨⟨yC,NL⟩,h0⟩,hf⟩:=hb
   have NL:n=n':=by simpa [bM] using NL
   subst NL
   have h0:0≤n:=by simpa [ux] using h0
   have hf:n.toNat*(C.tt e).bytes≤140737488355328∧n.toNat≤140737488355328:=by simpa [fits,qJ] using hf
   obtain⟨hkn,hnp⟩:=mm yC;obtain⟨i,zv,g1,g2,g2b,g3,g4⟩:=(hT e hkn).info;obtain⟨z1,z2,z3,_⟩:=g4 hnp;obtain⟨kl,hkl⟩:=mg (bH hT h 3 l) hl;obtain⟨kc,PL⟩:=mg (bH hT h 3 c) hc;have hpos:=(hT e hkn).pos
   have hzs:zv.cells.size=(C.tt e).size:=by rw[←lT,z1];simpa using z2
   have hby:(i.bytes:Int)*n≤281474976710656:=by
    have h1:=hf.1
    have e1:(i.bytes:Int)*n=((n.toNat*(C.tt e).bytes:Nat):Int):=by rw[g2b,Int.natCast_mul,Int.toNat_of_nonneg h0,Int.mul_comm]
    rw[e1];omega
   have hrun:=run_make (P:=C.P) w t e i zv (jK hT he).1 g1 g3 kl kc n n h0 (Int.le_refl _) hby aA
   have hw: ∀r∈List.replicate (qJ n) (C.tt e).zero,r.length=(C.tt e).size:=fun r hr=>by rw[List.eq_of_mem_replicate hr];exact z2
   have hlen:(List.replicate (qJ n) (C.tt e).zero).length=n.toNat:=by simp[qJ]
   have hvl:(madeCells zv.cells (n.toNat*i.size)).toList.length=(List.replicate (qJ n) (C.tt e).zero).length*(C.tt e).size:=by rw[hlen];simp[madeCells,g2]
   have hval: ∀{j:Nat} {v:Value},(madeCells zv.cells (n.toNat*i.size)).toList[j]?=some v→zv.cells[j % (C.tt e).size]?=some v:=fun {j v} hj=>by
    have hlt:j<n.toNat*i.size:=by have:=(List.getElem?_eq_some_iff.1 hj).1;simpa [madeCells] using this
    simp[madeCells,hlt] at hj;have hm:j % zv.cells.size<zv.cells.size:=Nat.mod_lt _ (by rw[hzs];exact hpos);rw[getElem!_pos zv.cells _ hm] at hj;rw[←hj,←hzs,jM hm]
   have p:dM w φ st st (bD (if true=true then .deep else .snap) (List.replicate (qJ n) (C.tt e).zero).flatten (madeCells zv.cells (n.toNat*i.size)).toList) (fun _ _=>False) (fun _=>False):=by
    refine⟨fun j it hj=> ?_,fun _ _ _ hk=>hk.elim,fun _ hk=>hk.elim,fun _ _ _ _ _ hk=>hk.elim,bI.refl _⟩;obtain⟨tc,v,h1,h2,rfl⟩:=eu hj;have EK:=uE hpos hw h1
    have Ky:(C.tt e).zero[j % (C.tt e).size]?=some tc:=by
     unfold kO at EK
     cases hrow:(List.replicate (qJ n) (C.tt e).zero)[j/(C.tt e).size]? with
     |none=>rw[hrow] at EK;cases EK
     |some row=>
      rw[hrow] at EK;rw[List.eq_of_mem_replicate (c6 hrow)] at EK;exact EK
    have hv:=hval h2;rw[←zZ,z1,dK,Ky] at hv;simp only[dO,aI] at hv;subst hv;exact FJ (List.all_eq_true.1 z3 tc (c6 Ky))
   have kk:=rm (w':=w.alloc (.cells (madeCells zv.cells (n.toNat*i.size)) e)) (d:=d) h h p hpos hw hvl (c:=n.toNat) (by rw[hlen];exact bu _) (by simp only[maxLen];omega) (ff.alloc w _) cY (fun j v hj=>by
    rw[jW];simpa using hj) (fun j hj=>⟨⟨_,by rw[jW];exact jM (by rw[size_madeCells,g2];exact hj)⟩,gl _ _ _ _⟩) (fun _ i=>gl _ _ _ _) (hd d dr)
   rw[hlen] at kk;refine⟨.value _,_,_,_,?_,.inl rfl,by rw[dr];exact kk,hk2,by simp,fun k hk _=>(ff.alloc w _).block k hk⟩;unfold execOp;rw[ho];simp only[hkl,PL,Sem.run_bind,hrun,Result.andThen]
   rfl
  ·exact hk2.elim
 ·exact hk.elim
end Go.T
namespace Go.T
variable {F : Nat → Prop} {A : Arg} {w0 w w' : World} {φ φ' : Fp} {st st' sta bh eZ : TS} {tm qc : Array Value} {C : dW}
variable {R : Type} {cf : Cf} {lp : Lp} {Q : R → Prop}
theorem xP (w:World) (arr:Array Value) (t:TypeId) (fr:Nat×Nat) (j:Nat):(w.alloc (.cells arr t fr)).cell? ⟨w.heap.size,j,none⟩=arr[j]?:=by
 unfold World.cell?;simp only[heap_alloc_new]
 rfl
theorem AI (w:World) (arr:Array Value) (t:TypeId) (fr:Nat×Nat) (j:Nat) (h:j<fr.1):(w.alloc (.cells arr t fr)).frozen? ⟨w.heap.size,j,none⟩=false:=by
 unfold World.frozen?;simp only[heap_alloc_new];obtain⟨a,b⟩:=fr;simp only at h ⊢;simp;omega
attribute [local semireducible] kG in
theorem vl (s:ByteArray):kG s=s.data.toList.map fun b=>[TC.sc (.int .u8 b.toNat)]:=rfl
theorem B9 (s:ByteArray):(kG s).flatten=s.data.toList.map fun b=>TC.sc (.int .u8 b.toNat):=by
 rw[vl]
 induction s.data.toList with
 |nil=>rfl
 |cons b r ih=>simp only[List.map_cons,nH,ih];rfl
theorem fy (s:ByteArray):(kG s).length=s.size:=by rw[vl,g9,lT];rfl
theorem tI (s:ByteArray): ∀r∈kG s,r.length=1:=fun r hr=>by
 rw[vl] at hr;obtain⟨_,_,rfl⟩:=List.mem_map.1 hr
 rfl
theorem xQ (s:ByteArray) (M:Mode) (st:TS):dM w φ st st (bD M (kG s).flatten (byteCells s)) (fun _ _=>False) (fun _=>False):=by
 refine⟨fun j it hj=> ?_,fun _ _ _ hk=>hk.elim,fun _ hk=>hk.elim,fun _ _ _ _ _ hk=>hk.elim,bI.refl _⟩;obtain⟨tc,v,h1,h2,rfl⟩:=eu hj;rw[B9,dK] at h1;unfold byteCells at h2;rw[dK] at h2
 cases hb:s.data.toList[j]? with
 |none=>rw[hb] at h1;cases h1
 |some b=>
  rw[hb] at h1 h2;simp only[dO,aI] at h1 h2;subst h1 h2;exact .sc _ _ _ trivial
attribute [local semireducible] fits in
theorem De {n b:Nat} (h:fits n b=true):n*b≤140737488355328∧n≤140737488355328:=pP h
theorem FK (hT:bZ C) {a:Act} (h:ak F A w0 φ st a.tmps w) {o:Oper} {src dst:TypeId} {x:Operand} (ho:o.op= .convert src dst x) {K:TS→Ev R} (hd: ∀d,o.dst=some d→d<a.tmps.size) (hk:(fe C st o K).holds cf lp Q):BD C F A w0 φ st o a w K cf lp Q:=by
 have r7:=hk;unfold fe at hk;rw[ho] at hk;simp only at hk
 split at hk
 ·rename_i et hdt hst
  split at hk
  ·rename_i d s dr hu hs
   have hv:=yX (bH hT h src x) hs;have hrun:=run_bytes_of_string (P:=C.P) w src dst et s (ve hT hst) (vf hT hdt).1 (y9 hT hu);have hge:=grownCap_ge w s.size 0 et
   have hsz:(bytesRow s (grownCap w s.size 0 et)).size=grownCap w s.size 0 et:=by
    have:s.data.size=s.size:=rfl;simp[bytesRow,this];omega
   have hk2:(match fits s.size 1 with|true=>K (kz d ⟨true,1,kG s⟩ st)|false=> .fail:Ev R).holds cf lp Q:=hk;clear hk
   split at hk2
   ·rename_i hfit
    have hbig:s.size≤maxLen:=by
     have:s.size*1≤140737488355328∧s.size≤140737488355328:=De hfit;simp only[maxLen];omega
    have kk:=rm (w':=w.drew.alloc (.cells (bytesRow s (grownCap w s.size 0 et)) et ((bytesRow s (grownCap w s.size 0 et)).size,(bytesRow s (grownCap w s.size 0 et)).size+1))) (d:=d) (dp:=true) (z:=1) h h (xQ s _ st)
     Nat.one_pos (tI s) (by rw[byteCells_length,fy,Nat.mul_one]) (c:=grownCap w s.size 0 et) (by rw[fy];exact hge) (grownCap_le_maxLen w s.size 0 et hbig) ((ff.drew w).trans (ff.alloc _ _)) cY
     (fun j v hj=>by
       have hj0:=hj
       have hjl:j<s.size:=by have:=(List.getElem?_eq_some_iff.1 hj).1;rwa [byteCells_length] at this
       show(w.drew.alloc _).cell? ⟨w.drew.heap.size,j,none⟩=_;rw[xP];unfold bytesRow;rw[Array.getElem?_append_left (by rw[Array.size_map];exact hjl)];unfold byteCells at hj0
       simpa using hj0)
     (fun j hj=>by
       rw[Nat.mul_one] at hj;show(∃x,(w.drew.alloc _).cell? ⟨w.drew.heap.size,j,none⟩=_)∧(w.drew.alloc _).frozen? ⟨w.drew.heap.size,j,none⟩=_
       exact⟨⟨_,by rw[xP];exact jM (by rw[hsz];exact hj)⟩,AI _ _ _ _ _ (by simp only[hsz];exact hj)⟩) (fun EF=>absurd EF aA) (hd d dr)
    rw[fy] at kk;refine⟨.value _,_,_,_,?_,.inl rfl,by rw[dr];exact kk,hk2,by simp,fun k hk _=>((ff.drew w).trans (ff.alloc _ _)).block k hk⟩;unfold execOp;rw[ho];simp only[hv,Sem.run_bind,hrun,Result.andThen]
    rfl
   ·exact hk2.elim
  ·exact hk.elim
 ·exact Db hT h hd hk
theorem vm {Rd S:Nat→Prop} {m:Mode} {z:Nat} {rows:List (List TC)} {v:Value} (hr:ah w Rd m S (.sub z rows) v) {tx e':TypeId} (hk:C.P.underlying tx=some (.slice e')) {size:Nat} (hsz:size=z) {vs:List Value} (hl:vs.length=rows.length*z)
 (hcell: ∀ad n c,v= .slice (some ad) n c→ ∀(j:Nat) (x:Value),vs[j]?=some x→w.cell? (ad.add j)=some x) (h1: ∀x∈vs,x.oneCell'=true):Src C.P size tx v rows.length vs w:=by
 subst hsz
 cases hr with
 |sub _ _ _ _ Ad c u T k hn=>
  cases Ad with
  |none=>
   have hne:rows=[]:=Classical.byContradiction fun hne=>by obtain⟨ad,h⟩:=k.addr hne;cases h
   subst hne;have:vs=[]:=qF (by simpa using hl);subst this;exact Src.ofNil w hk c
  |some ad=>exact Src.ofSlice w hk ad _ c vs hl (hcell ad _ _ rfl) h1
theorem ah.vals {Rd S:Nat→Prop} {m:Mode} {z:Nat} {rows:List (List TC)} {v:Value} (hr:ah w Rd m S (.sub z rows) v): ∃vals:List Value,vals.length=rows.length*z∧(∀r∈rows,r.length=z)∧0<z∧
 (∀ad n c,v= .slice (some ad) n c→ ∀(j:Nat) (x:Value),vals[j]?=some x→w.cell? (ad.add j)=some x)∧ ∀(p:Nat) (tc:TC) (x:Value),rows.flatten[p]?=some tc→vals[p]?=some x→ ∃T,ah w Rd m.nx T tc x:=by
 cases hr with
 |sub _ _ _ _ Ad c u T k hn=>
  have hz:=k.z0;have hfl:=aR k.width;refine⟨(List.range (rows.length*z)).map fun p=>u (p/z) (p % z),by simp,k.width,hz,?_,fun p tc x h1 h2=> ?_⟩
  ·intro ad n c' e j x hx
   cases e
   have hlt:j<rows.length*z:=by have:=(List.getElem?_eq_some_iff.1 hx).1;simpa using this
   simp[hlt] at hx;subst hx;obtain⟨tc,Ij⟩: ∃tc,rows.flatten[j]?=some tc:=⟨_,aO (by rw[hfl];exact hlt)⟩;have:=k.cell ad rfl _ _ tc (uE hz k.width Ij);rw[qI j z] at this;exact this
  ·have hlt:p<rows.length*z:=by have:=(List.getElem?_eq_some_iff.1 h2).1;simpa using this
   simp[hlt] at h2;subst h2;exact⟨_,hn _ _ tc (uE hz k.width h1)⟩
theorem xR (hT:bZ C) {t t' ty e:TypeId} {P:Program} (hP:P=C.P) (ht:P.underlying t=some (.slice e)) (yC:lC (C.tt e)=true) (h0:ak F A w0 φ st tm w) (h1:ak F A w0 φ bh tm w) {d:Nat} (hd:d<tm.size) {dp:Bool} {z:Nat} (hz:z=(C.tt e).size)
 {rows au:List (List TC)} {oV nE:List Value} {X1 X2:Nat→Nat→Prop} {Z1 Z2:Nat→Prop} (p1:dM w φ st sta (bD (if dp then .deep else .snap) rows.flatten oV) X1 Z1) (p2:dM w φ sta bh (bD (if dp then .deep else .snap) au.flatten nE) X2 Z2)
 (hw1: ∀r∈rows,r.length=z) (zT: ∀r∈au,r.length=z) (ud:oV.length=rows.length*z) (qB:nE.length=au.length*z) {Ad:Option Addr} {c:Nat} (hc:rows.length≤c) (Ii:c≤maxLen) {x:Value} (hs:Src P z t' x au.length nE w)
 (hA:(Ad=none∧rows=[]∧c=0)∨ ∃ad,Ad=some ad∧ad.spot=none∧(∃o,aj st.ob o∧ ¬aj sta.ob o∧φ.S o ad.block)∧(∀(j:Nat) (v:Value),oV[j]?=some v→w.cell? (ad.add j)=some v)∧
   (∀j,j<c*z→(∃x,w.cell? ⟨ad.block,ad.off+j,none⟩=some x)∧w.frozen? ⟨ad.block,ad.off+j,none⟩=false)∧(∀i k,X1 i k→k≠ad.block)∧(∀k,Z1 k→k≠ad.block)∧(1<z→ ∀i,w.frozen? ⟨ad.block,i,none⟩=false))
 (hf:fits (rows.length+au.length) (C.tt e).bytes=true):
 ∃v w',(Builtin.append_ #[t,t'] ty #[.slice Ad rows.length c,x]).run P w= .ok v w'∧Rel F A w0 (kz d ⟨dp,z,rows++au⟩ bh) (tm.setIfInBounds d v) w'∧w.heap.size≤w'.heap.size∧ ∀k,k<w.heap.size→(∀ad,Ad=some ad→k≠ad.block)→w'.heap[k]?=w.heap[k]?:=by
 subst hP;obtain⟨PM,O0⟩:=De hf;obtain⟨hkn,hnp⟩:=mm yC;obtain⟨i,zv,g1,g2,g2b,g3,g4⟩:=(hT e hkn).info;obtain⟨z1,z2,z3,_⟩:=g4 hnp;have hpos:=(hT e hkn).pos
 have hzs:zv.cells.size=(C.tt e).size:=by rw[←lT,z1];simpa using z2
 have Ky:0<z:=by omega
 have isz:i.size=z:=by rw[g2,hz]
 have p:=p1.app h0 p2;have J5:=aR hw1;have LN:=aR zT;rw[←lE (by rw[J5,ud]),←CO] at p;have LO: ∀r∈rows++au,r.length=z:=fun r hr=>(List.mem_append.1 hr).elim (hw1 r) (zT r)
 have J6:(oV++nE).length=(rows++au).length*z:=by rw[cL,cL,iM,ud,qB]
 have hs':Src C.P i.size t' x au.length nE w:=by rw[isz];exact hs
 have big:rows.length+au.length≤maxLen:=by simp only[maxLen];omega
 have grow:c<rows.length+au.length→(∃olds:List Value,olds=oV∧(Builtin.firstCells i.size rows.length (.slice Ad rows.length c)).run C.P w.drew= .ok olds.toArray w.drew)→
  ∃v w',(Builtin.append_ #[t,t'] ty #[.slice Ad rows.length c,x]).run C.P w= .ok v w'∧Rel F A w0 (kz d ⟨dp,z,rows++au⟩ bh) (tm.setIfInBounds d v) w'∧w.heap.size≤w'.heap.size∧ ∀k,k<w.heap.size→(∀ad,Ad=some ad→k≠ad.block)→w'.heap[k]?=w.heap[k]?:=fun hg ⟨olds,ho,I0⟩=>by
  rw[ho] at I0;have hr:=run_append_grow_src (P:=C.P) w t t' ty e i zv ht g1 g3 Ad rows.length c oV I0 x au.length nE hs' hg (by simp only[maxLen] at big;omega) (growslice_fits hg (by rw[g2b];exact PM));have hge:=grownCap_ge w (rows.length+au.length) c e;have PN:=grownCap_le_maxLen w (rows.length+au.length) c e big
  have hsize:((oV++nE).toArray++Builtin.zeroCells zv.cells (grownCap w (rows.length+au.length) c e-(rows.length+au.length))).size=grownCap w (rows.length+au.length) c e*z:=by
   rw[Array.size_append,size_zeroCells,List.size_toArray,J6,hzs,←hz,cL,←iM]
   congr 1;omega
  have kk:=rm (w':=w.drew.alloc (.cells ((oV++nE).toArray++Builtin.zeroCells zv.cells (grownCap w (rows.length+au.length) c e-(rows.length+au.length))) e)) (d:=d) h0 h1 p Ky LO J6
   (c:=grownCap w (rows.length+au.length) c e) (by rw[cL];exact hge) PN ((ff.drew w).trans (ff.alloc _ _)) cY
   (fun j v hj=>by
     have hlt:=(List.getElem?_eq_some_iff.1 hj).1;have e1:=jW w.drew ((oV++nE).toArray++Builtin.zeroCells zv.cells (grownCap w (rows.length+au.length) c e-(rows.length+au.length))) e j;refine e1.trans ?_;rw[Array.getElem?_append_left (by simpa using hlt)]
     simpa using hj)
   (fun j hj=>⟨⟨_,(jW w.drew _ e j).trans (jM (by rw[hsize];exact hj))⟩,gl w.drew _ e j⟩) (fun _ i=>gl w.drew _ e i) hd
  rw[cL] at kk;exact⟨_,_,hr,kk,by simp,fun k hk _=>((ff.drew w).trans (ff.alloc _ _)).block k hk⟩
 rcases hA with⟨rfl,rfl,rfl⟩|⟨ad,rfl,jl,NM,hcell,hall,PO,PR,wL⟩
 ·by_cases hn:au.length=0
  ·have J1:au=[]:=qF hn
   subst J1;have I3:nE=[]:=qF (by simpa using qB);subst I3;exact⟨_,w,run_append_nothing w t t' ty e i ht g1 none _ _ (bu _) x hs',D2 h1 Ky hd,bu _,fun _ _ _=>rfl⟩
  ·refine grow Jg ⟨_,rfl,?_⟩
   have I3:oV=[]:=qF (by simpa using ud);subst I3;exact run_firstCells_none w.drew i.size 0 0 0
 ·have PS: ∀i k,i<au.length*z→X2 i k→k≠ad.block:=fun i k hi hk e=>by
   subst e;obtain⟨o,o1,o2,o3⟩:=NM;obtain⟨o',q1,q2,q3⟩:=(p2.src i _ (by rw[cF (by rw[LN,qB]),LN];exact hi) hk).2;have:=h0.sep.apart o o' _ o1 (p1.sub.dom q1) o3 q3;subst this;exact o2 q1
  have PT: ∀k,Z2 k→k≠ad.block:=fun k hk e=>by
   subst e;obtain⟨o,o1,o2,o3⟩:=NM;obtain⟨o',q1,q2,q3⟩:=p2.srcZ _ hk;have:=h0.sep.apart o o' _ o1 (p1.sub.dom q1) o3 q3;subst this;exact o2 q1
  by_cases hroom:rows.length+au.length≤c
  ·have inb: ∀j,j<nE.length→rows.length*z+j<c*z:=fun j hj=>by
    have:rows.length*z+au.length*z≤c*z:=by rw[←iM];exact gq _ hroom
    omega
   have had:(⟨ad.block,ad.off,none⟩:Addr)=ad:=by cases ad;simp_all
   have hr:=run_append_room_src (P:=C.P) w t t' ty e i ht g1 ad.block ad.off rows.length c x au.length nE hs' hroom
    (fun j hj=>by obtain⟨⟨y,hy⟩,_⟩:=hall _ (inb j hj);rw[isz,kD,hy];rfl) (fun j hj=>by obtain⟨_,hy⟩:=hall _ (inb j hj);rw[isz,kD];exact hy)
   rw[had,isz] at hr
   have J7: ∃o,aj st.ob o∧ ¬aj bh.ob o∧φ.S o ad.block:=let ⟨o,o1,o2,o3⟩:=NM;⟨o,o1,fun hd=>o2 (p2.sub.dom hd),o3⟩
   have fr:=h0.free p.sub J7;obtain⟨s1,s2,s3,s4⟩:=ef ad.block nE (ad.off+rows.length*z) w
   have LP: ∀j,j<c*z→(∃x,(w.setCells ad.block (ad.off+rows.length*z) nE).cell? ⟨ad.block,ad.off+j,none⟩=some x)∧(w.setCells ad.block (ad.off+rows.length*z) nE).frozen? ⟨ad.block,ad.off+j,none⟩=false:=fun j hj=>by
    obtain⟨⟨y,hy⟩,hz⟩:=hall j hj;exact⟨Option.isSome_iff_exists.1 (World.isSome_setCells _ _ _ w _ (by rw[hy];rfl)),by rw[World.frozen?_setCells];exact hz⟩
   have hcl: ∀{i k:Nat},i<(rows++au).length*z→(if i<(bD (if dp=true then Mode.deep else .snap) rows.flatten oV).length then X1 i k else X2 (i-(bD (if dp=true then Mode.deep else .snap) rows.flatten oV).length) k)→k≠ad.block:=fun {i k} hi hk=>by
    rw[cF (by rw[J5,ud]),J5] at hk
    by_cases hlt:i<rows.length*z
    ·rw[aT hlt] at hk;exact PO i k hk
    ·rw[aH hlt] at hk;exact PS _ k (by rw[cL,iM] at hi;omega) hk
   have kk:=FG (w':=w.setCells ad.block (ad.off+rows.length*z) nE) (d:=d) h0 h1 p Ky LO J6 (ad:=ad) (c:=c) (by rw[cL];exact hroom) Ii jl (h0.frm.setCells fr.new) (by rw[s4];exact bu _)
    (G:=fun k=>k=ad.block) (fun k hk hn=>bV _ _ _ _ hk hn) (fun k hk=>by subst hk;exact J7) (fun k hk=>by
      have:k≠ad.block:=hk.elim (PR k) (PT k)
      exact⟨this,this⟩) (fun i k hi hk=>⟨hcl hi hk,hcl hi hk⟩) (.inr J7) (fun j v hj=>by
      rw[ju j jl]
      by_cases hlt:j<rows.length*z
      ·rw[World.cell?_setCells_out _ _ _ _ _ (fun _ _=>by simp only;omega),←ju j jl]
       rw[dY aA] at hj;exact hcell j v hj
      ·rw[eA aA,ud] at hj
       have LQ:=(List.getElem?_eq_some_iff.1 hj).1
       have:=World.cell?_setCells_in ad.block nE (ad.off+rows.length*z) w (fun j' hj'=>by
        obtain⟨⟨y,hy⟩,_⟩:=hall _ (inb j' hj');rw[kD,hy];rfl) (j-rows.length*z) LQ
       rw[show ad.off+rows.length*z+(j-rows.length*z)=ad.off+j by omega] at this;rw[this];rw[aO LQ] at hj
       exact hj) LP (fun EF i=>by rw[World.frozen?_setCells];exact wL EF i) hd
   rw[cL] at kk;exact⟨_,_,hr,kk,by rw[s4];exact bu _,fun k hk hn=>bV _ _ _ _ hk (hn ad rfl)⟩
  ·refine grow aA ⟨oV,rfl,?_⟩
   exact run_firstCells_some w.drew i.size rows.length ad rows.length c oV (by rw[isz];exact ud) (by simpa using hcell)
end Go.T
namespace Go.T
structure vn where
 tc:TC
 val:Value
 own:Nat→Prop
def vn.ok (w:World) (t:vn):Prop:=ah w (fun _=>False) .deep t.own t.tc t.val
def vn.apart (a b:vn):Prop:= ∀k,a.own k→ ¬b.own k
def Hq (w:World) (b off:Nat) (L:List Value):Prop:= ∀k y,L[k]?=some y→w.cell? ⟨b,off+k,none⟩=some y
def KX (w:World) (b off n:Nat):Prop:= ∀j,j<n→w.frozen? ⟨b,off+j,none⟩=false
theorem ah.MW {w:World} {R R' S:Nat→Prop} {c:TC} {v:Value} (h:ah w R .deep S c v):ah w R' .deep S c v:=by
 generalize hm:Mode.deep=m at h
 induction h with
 |any _ _ _ h=>exact .any _ _ _ h
 |sc _ _ _ h=>exact .sc _ _ _ h
 |sub m S z rows A c u T h hn ih=>
  subst hm;exact .sub _ _ z rows A c u T {h with read:=fun hm=>by cases hm} fun i f tc ht=>ih i f tc ht rfl
structure qo (w:World) (S:Nat→Prop) (z:Nat) (rows:List (List TC)) (v:Value) (A:Option Addr) (c:Nat) (aZ:List vn):Prop where
 val:v= .slice A rows.length c
 le:rows.length≤c
 cap:c≤maxLen
 z0:0<z
 width: ∀r∈rows,r.length=z
 tcs:rows.flatten=aZ.map (·.tc)
 ok: ∀t∈aZ,t.ok w
 fP:aZ.Pairwise vn.apart
 sub: ∀t∈aZ,∀k,t.own k→S k∧ ∀ad,A=some ad→k≠ad.block
 none:A=none→c=0
 row: ∀ad,A=some ad→S ad.block∧ad.spot= .none∧(∃sp,Hq w ad.block ad.off (aZ.map (·.val)++sp)∧(aZ.map (·.val)++sp).length=c*z)∧KX w ad.block ad.off (c*z)∧(1<z→ ∀i,w.frozen? ⟨ad.block,i,.none⟩=false)
theorem ah.opened {w:World} {R S:Nat→Prop} {z:Nat} {rows:List (List TC)} {v:Value} (h:ah w R .deep S (.sub z rows) v): ∃A c aZ,qo w S z rows v A c aZ:=by
 cases h with
 |sub _ _ _ _ A c u T k hn=>
  have hz:=k.z0;have hfl:=aR k.width;have EK: ∀p tc,rows.flatten[p]?=some tc→kO rows (p/z) (p % z)=some tc:=fun p tc h=>uE hz k.width h;refine⟨A,c,(List.range (rows.length*z)).map fun p=>⟨rows.flatten.getD p default,u (p/z) (p % z),T (p/z) (p % z)⟩,rfl,k.len,k.cap,hz,k.width,?_,?_,?_,?_,(k.own cY).1,?_⟩
  ·apply List.ext_getElem
   ·simp[hfl]
   ·intro p h1 h2
    simp only[List.getElem_map,List.getElem_range,uM,aO h1];rfl
  ·intro t ht
   obtain⟨p,hp,rfl⟩:=List.mem_map.1 ht;have hp:=List.mem_range.1 hp
   have hs:rows.flatten[p]?=some (rows.flatten.getD p default):=by
    rw[uM,aO aA];rfl
   exact(hn _ _ _ (EK p _ hs)).MW
  ·rw[List.pairwise_map]
   refine(List.nodup_range (n:=rows.length*z)).imp_of_mem ?_;intro a b ha hb hab k' h1 h2;have:=(k.fP rfl _ _ _ h1).2.2 _ _ h2
   apply hab
   rw[←qI a z,←qI b z,this.1,this.2]
  ·intro t ht k' hk
   obtain⟨p,hp,rfl⟩:=List.mem_map.1 ht;exact⟨(k.fP rfl _ _ _ hk).1,(k.fP rfl _ _ _ hk).2.1⟩
  ·intro ad ha
   obtain⟨hS,hs,hc⟩:=(k.own cY).2 ad ha;refine⟨hS,hs,⟨(List.range (c*z-rows.length*z)).map fun j=>(w.cell? ⟨ad.block,ad.off+(rows.length*z+j),.none⟩).getD default,?_,?_⟩,fun j hj=>(hc j hj).2,fun h1 i=>k.soft cY h1 ad ha i⟩
   ·intro j y hj
    by_cases hl:j<rows.length*z
    ·rw[dY (by simpa using hl)] at hj
     simp[hl] at hj;subst hj
     have NG:rows.flatten[j]?=some (rows.flatten.getD j default):=by
      rw[uM,aO aA];rfl
     have:=k.cell ad ha _ _ _ (EK j _ NG);rw[qI j z] at this;obtain⟨b0,o0,s0⟩:=ad
     cases hs
     rwa [Addr.add_lit] at this
    ·rw[eA (by simpa using hl)] at hj
     have hlt:=(List.getElem?_eq_some_iff.1 hj).1;simp at hj hlt
     obtain⟨q1,rfl⟩:=by simpa [hlt] using hj
     obtain⟨x,hx⟩:=(hc j aA).1;rw[show rows.length*z+(j-rows.length*z)=j by omega,hx];rfl
   ·have:=gq z k.len
    simp;omega
theorem qo.rep {w:World} {S:Nat→Prop} {z:Nat} {rows:List (List TC)} {v:Value} {A:Option Addr} {c:Nat} {aZ:List vn} (h:qo w S z rows v A c aZ) {R:Nat→Prop}:ah w R .deep S (.sub z rows) v:=by
 rw[h.val];have hfl:=aR h.width
 have LR:aZ.length=rows.length*z:=by have:=congrArg List.length h.tcs;rw[hfl,g9] at this;exact this.symm
 have nD: ∀{i f:Nat} {tc:TC},kO rows i f=some tc→ ∃t,aZ[i*z+f]?=some t∧t.tc=tc∧f<z∧i<rows.length:=fun {i f tc} ht=>by
  obtain⟨h1,h2,h3⟩:=jV h.width ht;rw[h.tcs,dK] at h1
  cases hq:aZ[i*z+f]? with
  |none=>rw[hq] at h1;cases h1
  |some t=>rw[hq] at h1;exact⟨t,rfl,by simpa using h1,h2,h3⟩
 have NN: ∀{i f i' f':Nat},f<z→f'<z→i*z+f=i'*z+f'→i=i'∧f=f':=fun {i f i' f'} h1 h2 e=>by
  have e1:(i*z+f)/z=i:=by rw[Nat.mul_comm,Nat.mul_add_div h.z0,Nat.div_eq_of_lt h1,jO]
  have e2:(i'*z+f')/z=i':=by rw[Nat.mul_comm,Nat.mul_add_div h.z0,Nat.div_eq_of_lt h2,jO]
  have:i=i':=by rw[←e1,e,e2]
  subst this;exact⟨rfl,by omega⟩
 refine .sub _ _ z rows A c (fun i f=>(aZ[i*z+f]?.map (·.val)).getD default) (fun i f k=>f<z∧ ∃t,aZ[i*z+f]?=some t∧t.own k) ⟨h.le,h.cap,h.z0,h.width,?_,?_,fun hm=>(by cases hm),fun _=>⟨h.none,?_⟩,?_,?_⟩ ?_
 ·intro hne
  cases hA:A with
  |none=>
   have h1:=h.none hA;have h2:=h.le;rw[h1] at h2;exact absurd (qF aA) hne
  |some ad=>exact⟨ad,rfl⟩
 ·intro ad ha i f tc ht
  obtain⟨t,h1,rfl,h2,h3⟩:=nD ht;obtain⟨_,hs,⟨sp,hr,_⟩,_⟩:=h.row ad ha;have:=hr (i*z+f) t.val (by rw[dY (by rw[g9];exact(List.getElem?_eq_some_iff.1 h1).1),dK,h1];rfl);obtain⟨b0,o0,s0⟩:=ad
  cases hs
  rw[Addr.add_lit,h1];exact this
 ·intro ad ha
  obtain⟨hS,hs,⟨sp,hr,hl⟩,hf,_⟩:=h.row ad ha;refine⟨hS,hs,fun j hj=>⟨⟨_,hr j _ (aO (by rw[hl];exact hj))⟩,hf j hj⟩⟩
 ·intro _ h1 ad ha i
  exact(h.row ad ha).2.2.2.2 h1 i
 ·rintro _ i f k ⟨hf,t,ht,hk⟩
  have hm:=c6 ht;refine⟨(h.sub t hm k hk).1,(h.sub t hm k hk).2,fun i' f'=> ?_⟩;rintro⟨hf',t',ht',hk'⟩
  by_cases e:i*z+f=i'*z+f'
  ·have:=NN hf hf' e
   exact⟨this.1.symm,this.2.symm⟩
  ·have hp:=List.pairwise_iff_getElem.1 h.fP
   obtain⟨l1,e1⟩:=List.getElem?_eq_some_iff.1 ht;obtain⟨l2,e2⟩:=List.getElem?_eq_some_iff.1 ht';rcases Nat.lt_or_gt_of_ne e with hlt|hlt
   ·exact absurd hk' (by have:=hp _ _ l1 l2 hlt;rw[e1,e2] at this;exact this k hk)
   ·exact absurd hk (by have:=hp _ _ l2 l1 hlt;rw[e1,e2] at this;exact this k hk')
 ·intro i f tc ht
  obtain⟨t,h1,rfl,h2,h3⟩:=nD ht;have:=h.ok t (c6 h1)
  have e:(aZ[i*z+f]?.map (·.val)).getD default=t.val:=by rw[h1];rfl
  show ah w R .deep _ t.tc ((aZ[i*z+f]?.map (·.val)).getD default);rw[e];exact ah.mono (ah.MW this) fun k hk=>⟨h2,t,h1,hk⟩
theorem Hq.put {w:World} {b off:Nat} {L us:List Value} (h:Hq w b off L) {p:Nat} (hp:p+us.length≤L.length):Hq (w.setCells b (off+p) us) b off (L.take p++us++L.drop (p+us.length)):=by
 intro k y hk
 have hs: ∀j,j<us.length→(w.cell? ⟨b,off+p+j,none⟩).isSome=true:=fun j hj=>by
  rw[kD,h (p+j) _ (aO aA)];rfl
 by_cases h1:k<p
 ·rw[fJ,dY (by rw[eU];omega),tF,aT h1] at hk
  rw[World.cell?_setCells_out b us _ _ _ (fun _ _=> .inl (by show off+k<off+p;omega))];exact h k y hk
 ·by_cases h2:k<p+us.length
  ·rw[fJ,eA (by rw[eU];omega),dY (by rw[eU];omega),eU,Nat.min_eq_left aA] at hk
   have hl:k-p<us.length:=by omega
   have:=World.cell?_setCells_in b us (off+p) w hs (k-p) hl;rw[show off+p+(k-p)=off+k by omega] at this;rw[this,←hk,aO hl]
  ·rw[eA (by rw[cL,eU];omega),gn,cL,eU,Nat.min_eq_left aA] at hk
   rw[World.cell?_setCells_out b us _ _ _ (fun _ _=> .inr (by show off+p+us.length≤off+k;omega))];exact h k y (by rw[←hk];congr 1;omega)
theorem CY {w:World} {a:Addr} {y:Value} (h:w.cell? a=some y):a.block<w.heap.size:=by
 unfold World.cell? at h
 split at h
 ·rename_i hh;exact(Array.getElem?_eq_some_iff.1 hh).1
 ·cases h
end Go.T
namespace Go.T
variable {F : Nat → Prop} {A : Arg} {w0 w w' : World} {φ φ' φ1 : Fp} {st st' sta bh : TS} {tm qc : Array Value} {C : dW}
theorem m6 {z:Nat}: ∀{rows:List (List TC)},(∀r∈rows,r.length=z)→ ∀i,(rows.take i).flatten=rows.flatten.take (i*z)
 |[],_,i=>by simp
 |r::rs,hw,0=>by simp
 |r::rs,hw,i+1=>by
  have hr:=hw r (.head _);rw[List.take_succ_cons,nH,nH,m6 (fun r hr=>hw r (.tail _ hr)) i,uO,List.take_append,hr];rw[EP (by omega:r.length≤i*z+z),show i*z+z-z=i*z by omega]
theorem m7 {z:Nat}: ∀{rows:List (List TC)},(∀r∈rows,r.length=z)→ ∀i,(rows.drop i).flatten=rows.flatten.drop (i*z)
 |[],_,i=>by simp
 |r::rs,hw,0=>by simp
 |r::rs,hw,i+1=>by
  have hr:=hw r (.head _);rw[List.drop_succ_cons,nH,m7 (fun r hr=>hw r (.tail _ hr)) i,uO,List.drop_append,hr];rw[xw (by omega:r.length≤i*z+z),jN,show i*z+z-z=i*z by omega]
def vn.out (t:vn):vn:=⟨.any,t.val,fun _=>False⟩
theorem tJ {z:Nat}: ∀n,(List.replicate n (List.replicate z TC.any)).flatten=List.replicate (n*z) TC.any
 |0=>by simp
 |n+1=>by
  rw[List.replicate_succ,nH,tJ n,uO,Nat.add_comm,List.replicate_append_replicate]
theorem Hr (l:List vn):(l.map vn.out).map (·.tc)=List.replicate l.length .any:=by
 induction l with
 |nil=>rfl
 |cons a l ih=>rw[List.map_cons,List.map_cons,ih,eT,List.replicate_succ];rfl
theorem FL (l:List vn):(l.map vn.out).map (·.val)=l.map (·.val):=by
 rw[List.map_map];rfl
attribute [local semireducible] eB aV in
theorem qo.move {S:Nat→Prop} {z:Nat} {rows:List (List TC)} {v:Value} {Ad:Option Addr} {c:Nat} {aZ:List vn} (o:qo w S z rows v Ad c aZ) {l h:Int} (h0:0≤l) (h1:l≤h) (h2:h≤rows.length):
 ∃LS itm:List vn,qo w (fun k=>S k∧ ¬ ∃t∈itm,t.own k) z (eB z rows l h) v Ad c LS∧(eB z rows l h).length=rows.length∧(aV rows l h).flatten=itm.map (·.tc)∧itm.map (·.val)=((aZ.map (·.val)).take (h.toNat*z)).drop (l.toNat*z)∧
  (∀t∈itm,t.ok w∧ ∀k,t.own k→S k∧ ∀ad,Ad=some ad→k≠ad.block)∧itm.Pairwise vn.apart∧(∀r∈aV rows l h,r.length=z):=by
 obtain⟨a,ha⟩: ∃a,a=l.toNat:=⟨_,rfl⟩;obtain⟨b,hb⟩: ∃b,b=h.toNat:=⟨_,rfl⟩
 have hab:a≤b:=by omega
 have EJ:b≤rows.length:=by omega
 have lt:=o.width
 have li:aZ.length=rows.length*z:=by
  have:=congrArg List.length o.tcs;rw[aR o.width,g9] at this;exact this.symm
 have e1:=gq z hab;have e2:=gq z EJ;obtain⟨i1,hi1⟩: ∃i1,i1=aZ.take (a*z):=⟨_,rfl⟩;obtain⟨i2,hi2⟩: ∃i2,i2=(aZ.take (b*z)).drop (a*z):=⟨_,rfl⟩;obtain⟨i3,BG⟩: ∃i3,i3=aZ.drop (b*z):=⟨_,rfl⟩
 have hsplit:aZ=i1++i2++i3:=by
  rw[hi1,hi2,BG];have q1:=EO (b*z) aZ;have q2:=EO (a*z) (aZ.take (b*z));rw[List.take_take,Nat.min_eq_left e1] at q2;rw[q2,q1]
 have l1:i1.length=a*z:=by rw[hi1,eU];omega
 have l2:i2.length=(b-a)*z:=by rw[hi2,kC,eU,Nat.sub_mul];omega
 have hd:=o.fP;rw[hsplit] at hd;obtain⟨d12,d3,d123⟩:=List.pairwise_append.1 hd;obtain⟨d1,d2,dc⟩:=List.pairwise_append.1 d12
 have m1: ∀t∈i1,t∈aZ:=fun t ht=>by rw[hsplit];exact cM _ (cM _ ht)
 have m2: ∀t∈i2,t∈aZ:=fun t ht=>by rw[hsplit];exact cM _ (eW _ ht)
 have m3: ∀t∈i3,t∈aZ:=fun t ht=>by rw[hsplit];exact eW _ ht
 have hv:(i1++i2.map vn.out++i3).map (·.val)=aZ.map (·.val):=by
  rw[hsplit];simp only[pO,FL]
 have hlen:(eB z rows l h).length=rows.length:=by
  unfold eB;rw[←ha,←hb];simp only[cL,eU,List.length_replicate,kC];omega
 have hfl:(eB z rows l h).flatten=(i1++i2.map vn.out++i3).map (·.tc):=by
  unfold eB;rw[←ha,←hb,CO,CO,m6 lt,m7 lt,tJ,pO,pO,Hr,l2,o.tcs,hi1,BG,z6,xx]
 have anyA: ∀t∈i2.map vn.out,∀k,¬t.own k:=fun t ht k hk=>by
  obtain⟨t0,_,rfl⟩:=List.mem_map.1 ht;exact hk
 refine⟨i1++i2.map vn.out++i3,i2,⟨?_,by rw[hlen];exact o.le,o.cap,o.z0,fun r hr=> ?_,hfl,fun t ht=> ?_,?_,fun t ht k hk=> ?_,o.none,fun ad e=> ?_⟩,hlen,?_,?_,fun t ht=>⟨o.ok t (m2 t ht),fun k hk=>o.sub t (m2 t ht) k hk⟩,d2,fun r hr=> ?_⟩
 ·rw[hlen];exact o.val
 ·unfold eB at hr
  rcases List.mem_append.1 hr with hr|hr
  ·rcases List.mem_append.1 hr with hr|hr
   ·exact lt r (nX hr)
   ·rw[List.eq_of_mem_replicate hr,List.length_replicate]
  ·exact lt r (qH hr)
 ·rcases List.mem_append.1 ht with ht|ht
  ·rcases List.mem_append.1 ht with ht|ht
   ·exact o.ok t (m1 t ht)
   ·obtain⟨t0,h0,rfl⟩:=List.mem_map.1 ht
    have:=o.ok t0 (m2 t0 h0);exact .any _ _ _ ⟨ir this,ah.cells this⟩
  ·exact o.ok t (m3 t ht)
 ·refine List.pairwise_append.2 ⟨List.pairwise_append.2 ⟨d1,?_,fun x hx y hy k _ hk=>anyA y hy k hk⟩,d3,fun x hx y hy=> ?_⟩
  ·rw[List.pairwise_map]
   exact d2.imp fun _ k hk=>hk.elim
  ·rcases List.mem_append.1 hx with hx|hx
   ·exact d123 x (cM _ hx) y hy
   ·exact fun k hk=>(anyA x hx k hk).elim
 ·rcases List.mem_append.1 ht with ht|ht
  ·rcases List.mem_append.1 ht with ht|ht
   ·exact⟨⟨(o.sub t (m1 t ht) k hk).1,fun⟨t',ht',hk'⟩=>dc t ht t' ht' k hk hk'⟩,(o.sub t (m1 t ht) k hk).2⟩
   ·exact(anyA t ht k hk).elim
  ·exact⟨⟨(o.sub t (m3 t ht) k hk).1,fun⟨t',ht',hk'⟩=>d123 t' (eW _ ht') t ht k hk' hk⟩,(o.sub t (m3 t ht) k hk).2⟩
 ·obtain⟨r1,r2,r3,r4⟩:=o.row ad e
  refine⟨⟨r1,fun⟨t,ht,hk⟩=>(o.sub t (m2 t ht) _ hk).2 ad e rfl⟩,r2,?_,r4⟩;rw[hv];exact r3
 ·unfold aV
  rw[←ha,←hb,m7 (fun r hr=>lt r (nX hr)),m6 lt,o.tcs,hi2,xx,z6]
 ·rw[←ha,←hb,hi2,xx,z6]
 ·unfold aV at hr
  exact lt r (nX (qH hr))
theorem ak.KY (h:ak F A w0 φ st tm w) {o g:Nat} {z:Nat} {rows:List (List TC)} (hb:aa o st.ob=some ⟨true,z,rows⟩) {l hh:Int} (h0:0≤l) (h1:l≤hh) (h2:hh≤rows.length) (hg:g≠0) (MM:g≠o):
 ∃φ2,ak F A w0 φ2 (qf g o ⟨true,z,rows⟩ l hh st) tm w∧φ2.β=φ.β∧(∀d,d≠g→φ2.V d=φ.V d)∧(∀d k,d≠g→φ2.S d k→φ.S d k)∧
  ∃vs X,vs.length=(aV rows l hh).length*z∧(∀r∈aV rows l hh,r.length=z)∧(∀vX,nK z rows.length l hh (φ.V o) vX→ ∀ad n c,vX= .slice (some ad) n c→ ∀(j:Nat) (x:Value),vs[j]?=some x→w.cell? (ad.add j)=some x)∧
   ∀sta:TS,aj sta.ob g→dM w φ2 sta (T.eD g sta) (bD .deep (aV rows l hh).flatten vs) X (fun _=>False):=by
 have hin:aj st.ob o:=⟨_,hb⟩;have hO:ah w φ.I .deep (φ.S o) (.sub z rows) (φ.V o):=h.obj o _ hb;obtain⟨Ad,c,aZ,op⟩:=hO.opened;obtain⟨LS,itm,op',e1,e2,e3,e4,e5,e6⟩:=op.move h0 h1 h2;have hS: ∀t∈itm,∀k,t.own k→φ.S o k:=fun t ht k hk=>((e4 t ht).2 k hk).1
 have w1:=h.iZ (w':=w) (b':=⟨true,z,eB z rows l hh⟩) (X:=fun k=>φ.S o k∧ ¬ ∃t∈itm,t.own k) hb rfl e1 op'.rep h.frm (bu _) (fun _ _ _=>rfl)
  (fun k hk=>h.sep.fresh o k hin hk.1) (fun k hk=>h.sep.read o k hin hk.1) (fun k d hk hne hd hs=>hne (h.sep.apart d o k hd hin hs hk.1)) (fun b cs tw hw hk=>(h.sep.box b cs tw hw).2.1 o hin hk.1)
 have fI: ∀d,aj (T.iZ o ⟨true,z,eB z rows l hh⟩ st).ob d→aj st.ob d:=fun d hd=>by
  have:aj (eN o ⟨true,z,eB z rows l hh⟩ st.ob) d:=hd;rw[cN] at this;exact this.elim (fun e=>e▸hin) id
 have w2:=w1.nY (o:=g) (b:=⟨true,1,[]⟩) (X:=fun k=> ∃t∈itm,t.own k) (v:= .slice none 0 0) hg (kT (Nat.lt_succ_self 0)) (fun k ⟨t,ht,hk⟩=>h.sep.fresh o k hin (hS t ht k hk)) (fun k ⟨t,ht,hk⟩=>h.sep.read o k hin (hS t ht k hk))
  (fun k d ⟨t,ht,hk⟩ hne hd hs=>by
    by_cases e:d=o
    ·subst e
     have hs:(if d=d then φ.S d k∧ ¬ ∃t∈itm,t.own k else φ.S d k):=hs;rw[aT rfl] at hs;exact hs.2 ⟨t,ht,hk⟩
    ·rw[jg e] at hs
     exact e (h.sep.apart d o k (fI d hd) hin hs (hS t ht k hk)))
  (fun b cs tw hw ⟨t,ht,hk⟩=>by
    obtain⟨cs0,hc0,_⟩:=cr _ b cs tw
    exact(h.sep.box b cs0 hc0 hw).2.1 o hin (hS t ht _ hk))
 have lits:aZ.length=rows.length*z:=by
  have:=congrArg List.length op.tcs;rw[aR op.width,g9] at this;exact this.symm
 have litm:itm.length=(aV rows l hh).length*z:=by
  have:=congrArg List.length e2;rw[aR e6,g9] at this;exact this.symm
 refine⟨_,w2,rfl,fun d hd=> ?_,fun d k hd hs=> ?_,itm.map (·.val),fun i k=> ∃t,itm[i]?=some t∧t.own k,by rw[g9];exact litm,e6,fun vX hc ad n c' ev j x hj=> ?_,fun sta hgd=>⟨fun i it hi=> ?_,fun i k hi hk=>⟨id,g,hgd,fun hd=>(cZ.1 hd).1 rfl,?_⟩,fun k hk=>hk.elim,fun i j k hi hj hk hk'=> ?_,bI.kill sta g⟩⟩
 ·show(if d=g then _ else if d=o then φ.V o else φ.V d)=φ.V d
  rw[aH hd]
  split
  ·subst_vars;rfl
  ·rfl
 ·rw[jg hd] at hs
  by_cases e:d=o
  ·subst e
   have hs:(if d=d then φ.S d k∧ ¬ ∃t∈itm,t.own k else φ.S d k):=hs;rw[aT rfl] at hs;exact hs.1
  ·rw[jg e] at hs;exact hs
 ·obtain⟨c1,c2,c3,A0,A',c0,f1,f2,f3,f4,f5⟩:=hc
  rw[op.val] at f1
  cases f1
  rw[ev] at f2
  cases f2
  obtain⟨ad0,hA⟩: ∃ad0,Ad=some ad0:=by
   cases hA:Ad with
   |none=>have:=f4 hA;cases this
   |some ad0=>exact⟨ad0,rfl⟩
  obtain⟨_,hsp,⟨sp,hr,hrl⟩,_⟩:=op.row ad0 hA;rw[e3] at hj;have hjl:=(List.getElem?_eq_some_iff.1 hj).1;rw[kC,eU,g9,lits] at hjl;rw[gn,tF] at hj
  split at hj
  ·have hbz:hh.toNat*z≤rows.length*z:=gq z aA
   have hx:=hr _ x (by rw[dY (by rw[g9,lits];exact cW bO hbz)];exact hj);have hle:=op.le;have hz:=op.z0
   have hne:c≠l.toNat:=fun e=>by
    have:hh.toNat≤l.toNat:=by omega
    have:=gq z this;omega
   have:=f3 hne;rw[hA] at this;simp only[dO,aI] at this;obtain⟨b0,o0,s0⟩:=ad0
   cases hsp
   rw[this,Addr.add_add,Addr.add_lit];rw[←kD] at hx;rw[show o0+(l.toNat*z+j)=o0+l.toNat*z+j by omega];exact hx
  ·cases hj
 ·obtain⟨tc,v,t1,t2,rfl⟩:=eu hi
  rw[e2,dK] at t1;rw[dK] at t2
  cases hq:itm[i]? with
  |none=>rw[hq] at t1;cases t1
  |some t=>
   rw[hq] at t1 t2;simp only[dO,aI] at t1 t2;subst t1 t2;exact ah.mono (ah.MW (e4 t (c6 hq)).1) fun k hk=>⟨t,rfl,hk⟩
 ·obtain⟨t,ht,hk⟩:=hk
  show(if g=g then ∃t∈itm,t.own k else _);rw[aT rfl];exact⟨t,c6 ht,hk⟩
 ·obtain⟨t,ht,hk⟩:=hk
  obtain⟨t',ht',hk'⟩:=hk';obtain⟨l1,q1⟩:=List.getElem?_eq_some_iff.1 ht;obtain⟨l2,q2⟩:=List.getElem?_eq_some_iff.1 ht';have hp:=List.pairwise_iff_getElem.1 e5;rcases Nat.lt_trichotomy i j with hlt|rfl|hlt
  ·exact absurd hk' (by have:=hp _ _ l1 l2 hlt;rw[q1,q2] at this;exact this k hk)
  ·rfl
  ·exact absurd hk (by have:=hp _ _ l2 l1 hlt;rw[q1,q2] at this;exact this k hk')
end Go.T
namespace Go.T
variable {F : Nat → Prop} {A : Arg} {w0 w w' : World} {φ φ' : Fp} {st st' sta bh eZ : TS} {tm qc : Array Value} {C : dW}
variable {R : Type} {cf : Cf} {lp : Lp} {Q : R → Prop}
theorem xS {e:TypeId} {z:Nat} (h:sg C e z=true):lC (C.tt e)=true∧z=(C.tt e).size:=by
 unfold sg at h
 split at h
 ·exact⟨by assumption,cw h⟩
 ·cases h
attribute [local semireducible] dL in
theorem vo {rows:List (List TC)} (h:dL rows=true): ∀(p:Nat) (tc:TC),rows.flatten[p]?=some tc→ ∃v,tc= .sc v:=fun p tc hp=>by
 have hm:=c6 hp;obtain⟨r,hr,hc⟩:=List.mem_flatten.1 hm;have h1:=List.all_eq_true.1 h r hr;have h2:=List.all_eq_true.1 h1 tc hc
 cases tc with
 |any=>cases h2
 |sc v=>exact⟨v,rfl⟩
 |sub z rows=>cases h2
structure JD (w:World) (φ:Fp) (st sta:TS) (dp:Bool) (z:Nat) (rows:List (List TC)) (vS:Value) (M:Mode) (oV:List Value) (X1:Nat→Nat→Prop) (Z1:Nat→Prop) (Ad:Option Addr) (c:Nat):Prop where
 val:vS= .slice Ad rows.length c
 parts:dM w φ st sta (bD M rows.flatten oV) X1 Z1
 width: ∀r∈rows,r.length=z
 len:oV.length=rows.length*z
 le:rows.length≤c
 max:c≤maxLen
 at':(Ad=none∧rows=[]∧c=0)∨ ∃ad,Ad=some ad∧ad.spot=none∧(∃o,aj st.ob o∧ ¬aj sta.ob o∧φ.S o ad.block)∧(∀(j:Nat) (v:Value),oV[j]?=some v→w.cell? (ad.add j)=some v)∧
    (∀j,j<c*z→(∃x,w.cell? ⟨ad.block,ad.off+j,none⟩=some x)∧w.frozen? ⟨ad.block,ad.off+j,none⟩=false)∧(∀i k,X1 i k→k≠ad.block)∧(∀k,Z1 k→k≠ad.block)∧(1<z→ ∀i,w.frozen? ⟨ad.block,i,none⟩=false)
theorem ru (h:ak F A w0 φ st tm w) {cs:CE} {vS:Value} (hc:aW st.ob w φ cs vS) {o:Option Nat} {z:Nat} {dp:Bool} {rows:List (List TC)} (hb:lD st cs=some (o,z,dp,rows)) {M:Mode} (hM:M= .snap∨M= .deep∧dp=true):
 0<z∧ak F A w0 φ (eX o st) tm w∧ ∃oV X1 Z1 Ad c,JD w φ st (eX o st) dp z rows vS M oV X1 Z1 Ad c:=by
 unfold lD at hb
 split at hb
 ·cases hb
  obtain⟨rfl,hz⟩:=hc;exact⟨hz,h,[],_,_,none,0,rfl,dM.nil _,fun r hr=>(by cases hr),by simp,bu _,aG _,.inl ⟨rfl,rfl,rfl⟩⟩
 ·rename_i o' cut
  cases hl:aa o' st.ob with
  |none=>rw[hl] at hb;cases hb
  |some b=>
   obtain⟨d0,z0,e8⟩:=b;rw[hl] at hb
   cases hb
   obtain⟨b0,e0,nW⟩:=hc;rw[hl] at e0
   cases e0
   have hr:=eE.cut (h.obj o' _ hl) nW
   have hm:OB.m ⟨dp,z,e8⟩≠ .snap:=by unfold OB.m;split<;>simp
   obtain⟨oV,X1,Z1,l1,p1,a1⟩:=ah.parts h ⟨_,hl⟩ hr hm (M:=M) (hM.imp id fun⟨e1,e2⟩=>⟨e1,by rw[e2];rfl⟩);obtain⟨_,_,mO,hz,_⟩:=hr.vals;refine⟨hz,h.eD o',oV,X1,Z1,?_⟩
   cases hr with
   |sub _ _ _ _ Ad c u T k hn=>
    refine⟨Ad,c,rfl,p1,mO,l1,k.len,k.cap,?_⟩
    cases Ad with
    |none=>
     have hne:Aa cut e8=[]:=Classical.byContradiction fun hne=>by obtain⟨ad,h⟩:=k.addr hne;cases h
     exact .inl ⟨rfl,hne,(k.own hm).1 rfl⟩
    |some ad=>
     obtain⟨hS,hs,hall⟩:=(k.own hm).2 ad rfl;obtain⟨q1,q2,q3⟩:=a1 ad _ _ rfl;exact .inr ⟨ad,rfl,hs,⟨o',⟨_,hl⟩,fun hd=>(cZ.1 hd).1 rfl,hS⟩,q1,hall,q2,q3,fun EF=>k.soft hm EF ad rfl⟩
 ·cases hb
theorem Hs (h:ak F A w0 φ st tm w) {fQ:TS} (hsub:bI st fQ) {cx:CE} {vX:Value} (hc:aW fQ.ob w φ cx vX) {tx e':TypeId} (hk:C.P.underlying tx=some (.slice e')) {z:Nat} {rows:List (List TC)} {bh:TS} {d1:Bool} (hab:fc cx st=some (.sub z rows,bh,d1))
 {M:Mode} (hM:M= .snap∨M= .deep∧d1=true):ak F A w0 φ bh tm w∧ ∃nE X2 Z2,dM w φ st bh (bD M rows.flatten nE) X2 Z2∧(∀r∈rows,r.length=z)∧nE.length=rows.length*z∧Src C.P z tx vX rows.length nE w:=by
 unfold fc at hab
 split at hab
 ·cases hab
 ·cases hab
  obtain⟨rfl,hz⟩:=hc;exact⟨h,[],_,_,dM.nil _,fun r hr=>(by cases hr),by simp,Src.ofNil w hk 0⟩
 ·rename_i o cut
  cases hl:aa o st.ob with
  |none=>rw[hl] at hab;cases hab
  |some b=>
   obtain⟨d0,z0,e8⟩:=b;rw[hl] at hab
   cases hab
   obtain⟨b0,e0,nW⟩:=hc;rw[hsub.ob _ _ hl] at e0
   cases e0
   have hr:=eE.cut (h.obj o _ hl) nW
   have hm:OB.m ⟨d1,z,e8⟩≠ .snap:=by unfold OB.m;split<;>simp
   obtain⟨oV,X1,Z1,l1,p1,a1⟩:=ah.parts h ⟨_,hl⟩ hr hm (M:=M) (hM.imp id fun⟨e1,e2⟩=>⟨e1,by rw[e2];rfl⟩);obtain⟨_,_,mO,hz,_⟩:=hr.vals;refine⟨h.eD o,oV,X1,Z1,p1,mO,l1,vm hr hk rfl l1 (fun ad n c e=>(a1 ad n c e).1) fun y hy=> ?_⟩;obtain⟨j,hj,rfl⟩:=List.mem_iff_getElem.1 hy;exact ir (p1.ok j _ (eL (aO (by rw[aR mO,←l1];exact hj)) (aO hj)))
 ·rename_i l z0 e8
  cases hab
  have NH:M= .snap:=hM.elim id fun⟨_,e⟩=>by cases e
  subst NH;have hr:=hc.2.1;obtain⟨vs,l1,mO,hz,hcell,lQ⟩:=hr.vals
  have hok: ∀(i:Nat) (it:It),(bD .snap rows.flatten vs)[i]?=some it→it.1= .snap∧ah w (fun k=>φ.I k∨False) .snap r6 it.2.1 it.2.2:=fun i it hi=>by
   obtain⟨tc,v,h1,h2,rfl⟩:=eu hi;obtain⟨T,hT⟩:=lQ i tc v h1 h2;exact⟨rfl,hT.fK fun k hk=>hk.elim .inl fun⟨d,hd,_⟩=>by cases hd⟩
  refine⟨h,vs,fun _ _=>False,fun _=>False,⟨fun i it hi=> ?_,fun _ _ _ hk=>hk.elim,fun _ hk=>hk.elim,fun _ _ _ _ _ hk=>hk.elim,bI.refl _⟩,mO,l1,vm hr hk rfl l1 hcell fun y hy=> ?_⟩
  ·obtain⟨e1,e2⟩:=hok i it hi
   rw[e1];exact e2
  ·obtain⟨j,hj,rfl⟩:=List.mem_iff_getElem.1 hy
   exact ir (hok j _ (eL (aO (by rw[aR mO,←l1];exact hj)) (aO hj))).2
 ·cases hab
theorem D4 (h:ak F A w0 φ st tm w) {cx:CE} {vX:Value} (hc:aW st.ob w φ cx vX) {tx e':TypeId} (hk:C.P.underlying tx=some (.slice e')) {z:Nat} {rows:List (List TC)} (hr:eO st cx=some (z,rows)) (hsc:dL rows=true) (M:Mode) (sta:TS):
 ∃nE,dM w φ sta sta (bD M rows.flatten nE) (fun _ _=>False) (fun _=>False)∧(∀r∈rows,r.length=z)∧nE.length=rows.length*z∧Src C.P z tx vX rows.length nE w:=by
 obtain⟨lQ,_⟩:=gv h hc hr;obtain⟨vs,l1,mO,hz,hcell,DL⟩:=lQ.vals
 have hok: ∀(M:Mode) (i:Nat) (it:It),(bD M rows.flatten vs)[i]?=some it→ ∃v,it=(M,.sc v,v)∧uf v:=fun M i it hi=>by
  obtain⟨tc,v,h1,h2,rfl⟩:=eu hi;obtain⟨T,hT⟩:=DL i tc v h1 h2;obtain⟨v',rfl⟩:=vo hsc i tc h1
  cases hT with
  |sc _ _ _ hs=>exact⟨_,rfl,hs⟩
 refine⟨vs,⟨fun i it hi=> ?_,fun _ _ _ hk=>hk.elim,fun _ hk=>hk.elim,fun _ _ _ _ _ hk=>hk.elim,bI.refl _⟩,mO,l1,vm lQ hk rfl l1 hcell fun y hy=> ?_⟩
 ·obtain⟨v,rfl,hs⟩:=hok M i it hi
  exact .sc _ _ _ hs
 ·obtain⟨j,hj,rfl⟩:=List.mem_iff_getElem.1 hy
  obtain⟨v,e1,hs⟩:=hok .deep j _ (eL (aO (by rw[aR mO,←l1];exact hj)) (aO hj))
  have:vs[j]=v:=by have:=congrArg (fun it:It=>it.2.2) e1;exact this
  rw[this]
  cases v<;>first|rfl|cases hs
theorem tK {g o p:Nat} {b:OB} {l h:Int} (h1:p≠g) (h2:p≠o):aa p (qf g o b l h st).ob=aa p st.ob:=by
 show aa p (eN g _ (fT g (eN o _ st.ob)))=_;rw[bP,aH h1,cD,aH h1,bP,aH h2]
theorem vp {g o:Nat} {b:OB} {l h:Int}:aj (qf g o b l h st).ob g:=by
 refine⟨⟨true,1,[]⟩,?_⟩;show aa g (eN g _ (fT g (eN o _ st.ob)))=_;rw[bP,aT rfl]
theorem Ca (hT:bZ C) {a:Act} (h:ak F A w0 φ st a.tmps w) {o:Oper} {s x:Operand} {t t':TypeId} (ho:o.op= .call {callee:= .builtin .append,args:= #[s,x],argTypes:= #[t,t']}) {K:TS→Ev R} (hd: ∀d,o.dst=some d→d<a.tmps.size) {d:Nat} (dr:o.dst=some d)
 {e:TypeId} (he:lB C t=some e) {cs cx:CE} (hcs:ku (gH C st t s)=some cs) {oo:Option Nat} {z:Nat} {dp:Bool} {rows:List (List TC)} (hb:lD st cs=some (oo,z,dp,rows)) (hsz:sg C e z=true) {e2:TypeId} (Kz:C.P.underlying t'=some (.slice e2)) (GY:aW st.ob w φ cs (a.eval s)) (Il:aW st.ob w φ cx (a.eval x))
 {au:List (List TC)} {bh:TS} (Im:BM d oo dp cx st=some (z,au,bh)) (hfit:fits (rows.length+au.length) (C.tt e).bytes=true) (hk:(K (kz d ⟨dp,z,rows++au⟩ bh)).holds cf lp Q):BD C F A w0 φ st o a w K cf lp Q:=by
 obtain⟨yC,hz⟩:=xS hsz;unfold BM at Im
 split at Im
 ·rename_i o' l hh
  split at Im
  ·rename_i z0 e8 hl I5
   simp only[aI,nI] at Im;obtain⟨rfl,rfl,rfl⟩:=Im;rw[Bool.or_eq_false_iff] at I5;obtain⟨GW,MN⟩:=I5
   have MM:gY d 1 0≠o':=fun e=>by rw[e] at MN;simp at MN
   have PU:gY d 1 0≠0:=by unfold gY;omega
   have KA: ∀p,oo=some p→p≠o'∧p≠gY d 1 0:=fun p e=>by
    rw[e] at GW;simp only[Bool.or_eq_false_iff] at GW;exact⟨gE GW.1,gE GW.2⟩
   obtain⟨b0,hb0,nW⟩:=Il;rw[hl] at hb0
   cases hb0
   have nW:nK z0 e8.length l hh (φ.V o') (a.eval x):=nW;obtain⟨φ2,h2,eβ,eV,eS,nE,X2,qB,zT,hcell,J8⟩:=h.KY (g:=gY d 1 0) hl nW.1 nW.2.1 nW.2.2.1 PU MM
   have I6:aW (qf (gY d 1 0) o' ⟨true,z0,e8⟩ l hh st).ob w φ2 cs (a.eval s)∧lD (qf (gY d 1 0) o' ⟨true,z0,e8⟩ l hh st) cs=some (oo,z0,true,rows):=by
    unfold lD at hb ⊢
    split at hb
    ·cases hb
     exact⟨GY,rfl⟩
    ·rename_i p cut
     obtain⟨bp,O1,PV⟩:=GY;rw[O1] at hb;obtain⟨dq,zq,rq⟩:=bp;simp only[aI,nI] at hb;obtain⟨rfl,rfl,rfl,rfl⟩:=hb;obtain⟨n1,n2⟩:=KA p rfl;have hlk:=tK (st:=st) (b:=⟨true,zq,e8⟩) (l:=l) (h:=hh) n2 n1;rw[O1] at hlk;refine⟨⟨_,hlk,?_⟩,?_⟩
     ·rw[eV p n2];exact PV
     ·simp only[hlk]
    ·cases hb
   obtain⟨_,hka,oV,X1,Z1,Ad,c,hB⟩:=ru h2 I6.1 I6.2 (M:= .deep) (.inr ⟨rfl,rfl⟩)
   have LU:aj (eX oo (qf (gY d 1 0) o' ⟨true,z0,e8⟩ l hh st)).ob (gY d 1 0):=by
    cases oo with
    |none=>exact vp
    |some p=>exact cZ.2 ⟨fun e=>(KA p rfl).2 e.symm,vp⟩
   have p2:=J8 _ LU
   have hsrc:Src C.P z0 t' (a.eval x) (aV e8 l hh).length nE w:=by
    refine vm (eE.cut (cut:=some (l,hh)) (h.obj o' _ hl) nW) Kz rfl qB (fun ad n c e=>hcell _ nW ad n c e) fun y hy=> ?_;obtain⟨j,hj,rfl⟩:=List.mem_iff_getElem.1 hy;exact ir (p2.ok j _ (eL (aO (by rw[aR zT,←qB];exact hj)) (aO hj)))
   obtain⟨v,w',hrun,kk,hsize,hframe⟩:=xR (ty:=o.type) hT rfl (jK hT he).1 yC h2 (hka.eD (gY d 1 0)) (hd d dr) (dp:=true) hz hB.parts p2 hB.width zT hB.len qB hB.le hB.max hsrc hB.at' hfit;refine⟨.value v,v,w',_,?_,.inl rfl,by rw[dr];exact kk,hk,hsize,fun k hk Ik=>hframe k hk fun ad wM e=>Ik ?_⟩
   ·rw[iQ ho]
    simp only[builtin,Sem.run_bind]
    have:(#[s,x].map a.eval)= #[a.eval s,a.eval x]:=by simp
    rw[this,hB.val,hrun]
    rfl
   ·rcases hB.at' with⟨e0,_⟩|⟨ad',e0,_,⟨o2,o21,o22,o23⟩,_⟩
    ·rw[wM] at e0;cases e0
    ·rw[wM] at e0
     cases e0
     cases oo with
     |none=>exact absurd o21 o22
     |some p=>
      have:o2=p:=Classical.byContradiction fun hne=>o22 (cZ.2 ⟨hne,o21⟩);subst this;obtain⟨n1,n2⟩:=KA o2 rfl
      have g1: ∃q,ku (gH C st t s)=some (.ref o2 q):=by
       unfold lD at hb
       split at hb
       ·cases hb
       ·rename_i p cut
        split at hb
        ·simp only[aI,nI] at hb
         obtain⟨rfl,_⟩:=hb;exact⟨_,hcs⟩
        ·cases hb
       ·cases hb
      obtain⟨q,g1⟩:=g1
      have g2:aj st.ob o2:=by
       obtain⟨b2,hb2⟩:=o21;rw[tK n2 n1] at hb2;exact⟨b2,hb2⟩
      refine .inr ⟨o2,?_,g2,by rw[e];exact eS o2 _ n2 o23⟩;unfold writes;rw[ho];simp only;refine List.mem_map.2 ⟨o2,?_,rfl⟩
      revert g1
      cases gH C st t s with
      |v tup es=>
       unfold ku
       split
       ·rename_i e0 e1
        intro g1
        cases g1
        simp only[TE.v.injEq] at e1;obtain⟨rfl,rfl⟩:=e1;exact .head _
       ·intro g1;cases g1
       ·intro g1;cases g1
      |_=>intro g1;simp[ku] at g1
  ·cases Im
 ·cases Im
theorem Ht (h:ak F A w0 φ st tm w) {cx:CE} {vX:Value} (hc:aW st.ob w φ cx vX) {tx e':TypeId} (hk:C.P.underlying tx=some (.slice e')) {z:Nat} {rows:List (List TC)} (hr:E0 st cx=some (z,rows)) (sta:TS):
 ∃nE,dM w φ sta sta (bD .snap rows.flatten nE) (fun _ _=>False) (fun _=>False)∧(∀r∈rows,r.length=z)∧nE.length=rows.length*z∧Src C.P z tx vX rows.length nE w:=by
 unfold E0 at hr
 split at hr
 ·rename_i o' cut
  split at hr
  ·rename_i z0 e8 hl
   cases hr
   obtain⟨b0,hb0,nW⟩:=hc;rw[hl] at hb0
   cases hb0
   have lQ:=eE.cut (h.obj o' _ hl) nW;obtain⟨vs,l1,mO,hz,hcell,DL⟩:=lQ.vals
   have hok: ∀(i:Nat) (it:It),(bD .snap (Aa cut e8).flatten vs)[i]?=some it→it.1= .snap∧ah w (fun k=>φ.I k∨False) .snap r6 it.2.1 it.2.2:=fun i it hi=>by
    obtain⟨tc,v,t1,t2,rfl⟩:=eu hi;obtain⟨T,hT⟩:=DL i tc v t1 t2;exact⟨rfl,hT.fK fun k hk=> .inl hk⟩
   refine⟨vs,⟨fun i it hi=> ?_,fun _ _ _ hk=>hk.elim,fun _ hk=>hk.elim,fun _ _ _ _ _ hk=>hk.elim,bI.refl _⟩,mO,l1,vm lQ hk rfl l1 hcell fun y hy=> ?_⟩
   ·obtain⟨e1,e2⟩:=hok i it hi
    rw[e1];exact e2.mono fun k hk=>hk.elim
   ·obtain⟨j,hj,rfl⟩:=List.mem_iff_getElem.1 hy
    exact ir (hok j _ (eL (aO (by rw[aR mO,←l1];exact hj)) (aO hj))).2
  ·cases hr
 ·cases hr
theorem D5 (hT:bZ C) {a:Act} (h:ak F A w0 φ st a.tmps w) {o:Oper} {args:Array Operand} {ts:Array TypeId} (ho:o.op= .call {callee:= .builtin .append,args,argTypes:=ts}) {K:TS→Ev R} (hd: ∀d,o.dst=some d→d<a.tmps.size) (hk:(fe C st o K).holds cf lp Q):
 BD C F A w0 φ st o a w K cf lp Q:=by
 unfold fe at hk;rw[ho] at hk;simp only at hk
 split at hk
 ·rename_i d s x t t' dr h1 h2
  have e1:args= #[s,x]:=by cases args;simp at h1;subst h1;rfl
  have e2:ts= #[t,t']:=by cases ts;simp at h2;subst h2;rfl
  subst e1 e2;have NO:=bH hT h t s;have Kw:=bH hT h t' x
  have fin: ∀{dp:Bool} {z:Nat} {e:TypeId} {rows au:List (List TC)} {sta bh:TS} {oV nE:List Value} {X1 X2:Nat→Nat→Prop} {Z1 Z2:Nat→Prop} {Ad:Option Addr} {c:Nat} {cs:CE} {oo:Option Nat},
   lB C t=some e→ku (gH C st t s)=some cs→lD st cs=some (oo,z,(match dp with|true=>true|false=>false),rows)∨True→sg C e z=true→JD w φ st sta dp z rows (a.eval s) (if dp then .deep else .snap) oV X1 Z1 Ad c→(∀ad,Ad=some ad→ ∃o',ku (gH C st t s)=some (.ref o' none)∨(∃q,ku (gH C st t s)=some (.ref o' q))∧True)→
   (∀ad,Ad=some ad→ ∃o' q,ku (gH C st t s)=some (.ref o' q)∧aj st.ob o'∧φ.S o' ad.block)→
   ak F A w0 φ bh a.tmps w→dM w φ sta bh (bD (if dp then .deep else .snap) au.flatten nE) X2 Z2→(∀r∈au,r.length=z)→nE.length=au.length*z→Src C.P z t' (a.eval x) au.length nE w→fits (rows.length+au.length) (C.tt e).bytes=true→
   (K (kz d ⟨dp,z,rows++au⟩ bh)).holds cf lp Q→BD C F A w0 φ st o a w K cf lp Q:=by
   intro dp z e rows au sta bh oV nE X1 X2 Z1 Z2 Ad c cs oo he hcs _ hsz hb _ hown zY p2 zT qB hsrc hfit hk;obtain⟨yC,hz⟩:=xS hsz;obtain⟨v,w',hrun,kk,hsize,hframe⟩:=xR (ty:=o.type) hT rfl (jK hT he).1 yC h zY (hd d dr) hz hb.parts p2 hb.width zT hb.len qB hb.le hb.max hsrc hb.at' hfit;refine⟨.value v,v,w',_,?_,.inl rfl,by rw[dr];exact kk,hk,hsize,fun k hk Ik=>hframe k hk fun ad wM e=>Ik ?_⟩
   ·rw[iQ ho]
    simp only[builtin,Sem.run_bind]
    have:(#[s,x].map a.eval)= #[a.eval s,a.eval x]:=by simp
    rw[this,hb.val,hrun]
    rfl
   ·obtain⟨o',q,g1,g2,g3⟩:=hown ad wM
    refine .inr ⟨o',?_,g2,by rw[e];exact g3⟩;unfold writes;rw[ho];simp only;refine List.mem_map.2 ⟨o',?_,rfl⟩
    revert g1
    cases gH C st t s with
    |v tup es=>
     unfold ku
     split
     ·rename_i e0 e1
      intro g1
      cases g1
      simp only[TE.v.injEq] at e1;obtain⟨rfl,rfl⟩:=e1;exact .head _
     ·intro g1;cases g1
     ·intro g1;cases g1
    |_=>intro g1;simp[ku] at g1
  unfold CR at hk
  split at hk
  ·rename_i e cs cx he hcs NP
   obtain⟨_,GY⟩:=kP NO hcs;obtain⟨_,Il⟩:=kP Kw NP
   have hown: ∀{oo:Option Nat} {z:Nat} {dp dp':Bool} {rows:List (List TC)} {M:Mode} {oV:List Value} {X1:Nat→Nat→Prop} {Z1:Nat→Prop} {Ad:Option Addr} {c:Nat},lD st cs=some (oo,z,dp,rows)→JD w φ st (eX oo st) dp' z rows (a.eval s) M oV X1 Z1 Ad c→
    ∀ad,Ad=some ad→ ∃o' q,ku (gH C st t s)=some (.ref o' q)∧aj st.ob o'∧φ.S o' ad.block:=fun {oo z dp dp' rows M oV X1 Z1 Ad c} hb hB ad wM=>by
    unfold lD at hb
    split at hb
    ·cases hb
     rcases hB.at' with⟨e0,_⟩|⟨ad',e0,_,⟨o',o1,o2,o3⟩,_⟩
     ·rw[wM] at e0;cases e0
     ·exact absurd o1 o2
    ·rename_i o' cut
     cases hl:aa o' st.ob with
     |none=>rw[hl] at hb;cases hb
     |some b=>
      obtain⟨d0,z0,e8⟩:=b;rw[hl] at hb
      cases hb
      rcases hB.at' with⟨e0,_⟩|⟨ad',e0,_,⟨o2,o21,o22,o23⟩,_⟩
      ·rw[wM] at e0;cases e0
      ·rw[wM] at e0
       cases e0
       have:o2=o':=Classical.byContradiction fun hne=>o22 (cZ.2 ⟨hne,o21⟩);subst this;exact⟨o2,cut,hcs,o21,o23⟩
    ·cases hb
   split at hk
   ·rename_i oo z dp rows hb NQ
    split at hk
    ·rename_i b hsz hz1
     have hk2:(match fits (rows.length+b.size) (C.tt e).bytes with|true=>K (kz d ⟨dp,z,rows++kG b⟩ (eX oo st))|false=> .fail:Ev R).holds cf lp Q:=hk;clear hk
     split at hk2
     ·rename_i hfit
      have hz1:=cw hz1;subst hz1;obtain⟨hz,hka,oV,X1,Z1,Ad,c,hB⟩:=ru h GY hb (M:=if dp then .deep else .snap) (by cases dp<;>simp);have hv:=yV Il
      exact fin (oo:=oo) he hcs (.inr trivial) hsz hB (fun ad wM=>let ⟨o',q,g,_⟩:=hown hb hB ad wM;⟨o',.inr ⟨⟨q,g⟩,trivial⟩⟩) (hown hb hB) hka (xQ b _ _) (tI b) (by rw[byteCells_length,fy,Nat.mul_one])
       (by rw[hv,fy];exact Src.ofString w (ve hT NQ) b) (by rw[fy];exact hfit) hk2
     ·exact hk2.elim
    ·exact hk.elim
   ·rename_i oo z dp rows e2 hb EI
    have Kz:=(vf hT EI).1
    split at hk
    ·exact hk.elim
    ·rename_i hsz
     split at hk
     ·split at hk
      ·rename_i z' au hr
       split at hk
       ·rename_i tD
        have tD:=cw tD;subst tD;have hk2:(match(dL au&&fits (rows.length+au.length) (C.tt e).bytes) with|true=>K (kz d ⟨dp,z,rows++au⟩ (eX oo st))|false=> .fail:Ev R).holds cf lp Q:=hk;clear hk
        split at hk2
        ·rename_i hfit
         simp only[cm] at hfit;obtain⟨hz,hka,oV,X1,Z1,Ad,c,hB⟩:=ru h GY hb (M:=if dp then .deep else .snap) (by cases dp<;>simp);obtain⟨nE,p2,zT,qB,hsrc⟩:=D4 h Il Kz hr hfit.1 (if dp then .deep else .snap) (eX oo st);exact fin (oo:=oo) he hcs (.inr trivial) hsz hB (fun ad wM=>let ⟨o',q,g,_⟩:=hown hb hB ad wM;⟨o',.inr ⟨⟨q,g⟩,trivial⟩⟩) (hown hb hB) hka p2 zT qB hsrc hfit.2 hk2
        ·exact hk2.elim
       ·exact hk.elim
      ·exact hk.elim
     ·split at hk
      ·rename_i z' au bh Im
       split at hk
       ·rename_i tD
        have tD:=cw tD;subst tD;have hk2:(match fits (rows.length+au.length) (C.tt e).bytes with|true=>K (kz d ⟨dp,z,rows++au⟩ bh)|false=> .fail:Ev R).holds cf lp Q:=hk;clear hk
        split at hk2
        ·rename_i hfit
         exact Ca hT h ho hd dr he hcs hb hsz Kz GY Il Im hfit hk2
        ·exact hk2.elim
       ·exact hk.elim
      split at hk
      ·rename_i z' au PW
       split at hk
       ·rename_i tD
        have tD:=cw tD;subst tD;have hk2:(match fits (rows.length+au.length) (C.tt e).bytes with|true=>K (kz d ⟨false,z,rows++au⟩ (eX oo st))|false=> .fail:Ev R).holds cf lp Q:=hk;clear hk
        split at hk2
        ·rename_i hfit
         obtain⟨hz,hka,oV,X1,Z1,Ad,c,hB⟩:=ru h GY hb (M:= .snap) (.inl rfl);obtain⟨nE,p2,zT,qB,hsrc⟩:=Ht h Il Kz PW (eX oo st);exact fin (oo:=oo) (dp:=false) he hcs (.inr trivial) hsz ⟨hB.val,hB.parts,hB.width,hB.len,hB.le,hB.max,hB.at'⟩ (fun ad wM=>let ⟨o',q,g,_⟩:=hown hb hB ad wM;⟨o',.inr ⟨⟨q,g⟩,trivial⟩⟩) (hown hb hB) hka p2 zT qB hsrc hfit hk2
        ·exact hk2.elim
       ·exact hk.elim
      split at hk
      ·rename_i z' au bh d1 hab
       split at hk
       ·rename_i tD
        have tD:=cw tD;subst tD;have hk2:(match fits (rows.length+au.length) (C.tt e).bytes with|true=>K (kz d ⟨dp&&d1,z,rows++au⟩ bh)|false=> .fail:Ev R).holds cf lp Q:=hk;clear hk
        split at hk2
        ·rename_i hfit
         obtain⟨hz,hka,oV,X1,Z1,Ad,c,hB⟩:=ru h GY hb (M:=if(dp&&d1) then .deep else .snap) (by cases dp<;>cases d1<;>simp);obtain⟨zY,nE,X2,Z2,p2,zT,qB,hsrc⟩:=Hs hka hB.parts.sub Il Kz hab (M:=if(dp&&d1) then .deep else .snap) (by cases dp<;>cases d1<;>simp);exact fin (oo:=oo) (dp:=dp&&d1) he hcs (.inr trivial) hsz ⟨hB.val,hB.parts,hB.width,hB.len,hB.le,hB.max,hB.at'⟩ (fun ad wM=>let ⟨o',q,g,_⟩:=hown hb hB ad wM;⟨o',.inr ⟨⟨q,g⟩,trivial⟩⟩) (hown hb hB) zY p2 zT qB hsrc hfit hk2
        ·exact hk2.elim
       ·exact hk.elim
      ·exact hk.elim
   ·exact hk.elim
  ·exact hk.elim
 ·exact hk.elim
end Go.T
namespace Go.T
variable {F : Nat → Prop} {A : Arg} {w0 w w' : World} {φ φ' φ1 : Fp} {st st' sta bh : TS} {tm qc : Array Value} {C : dW}
variable {R : Type} {cf : Cf} {lp : Lp} {Q : R → Prop}
theorem tL {P:Program} {e:TypeId} {z:Nat} {i:TypeInfo} (h:P.info? e=some i) (hz:i.size=z) (w:World):(sizeOf e).run P w= .ok z w:=by
 simp[sizeOf,typeInfo,h,hz]
theorem Hu {R S:Nat→Prop} {m:Mode} {z:Nat} {rows:List (List TC)} {v:Value} (h:ah w R m S (.sub z rows) v): ∃A c,v= .slice A rows.length c∧(rows≠[]→ ∃ad,A=some ad):=by
 cases h with
 |sub _ _ _ _ A c u T k hn=>exact⟨A,c,rfl,k.addr⟩
def FM (v:Value):vn:=⟨.sc v,v,fun _=>False⟩
attribute [local semireducible] e9 in
theorem kV (rows au:List (List TC)):e9 rows au=au.take rows.length++rows.drop au.length:=rfl
theorem Hv (hT:bZ C) {a:Act} (h:ak F A w0 φ st a.tmps w) {o:Oper} {args:Array Operand} {ts:Array TypeId} (ho:o.op= .call {callee:= .builtin .copy,args,argTypes:=ts}) {K:TS→Ev R} (hd: ∀d,o.dst=some d→d<a.tmps.size) (hk:(fe C st o K).holds cf lp Q):
 BD C F A w0 φ st o a w K cf lp Q:=by
 unfold fe at hk;rw[ho] at hk;simp only at hk
 split at hk
 ·rename_i s x t t' h1 h2
  have e1:args= #[s,x]:=by cases args;simp at h1;subst h1;rfl
  have e2:ts= #[t,t']:=by cases ts;simp at h2;subst h2;rfl
  subst e1 e2;have NO:=bH hT h t s;have Kw:=bH hT h t' x;unfold IB at hk
  split at hk
  ·rename_i e r cx he hcs NP
   obtain⟨BF,GY⟩:=kP NO hcs;obtain⟨_,Il⟩:=kP Kw NP
   split at hk
   ·rename_i z rows z' au hl hr yC
    split at hk
    ·rename_i tD
     simp only[cm] at tD;have hz1:=cw tD.1;have PX:=cw tD.2;subst hz1
     have hk2:(match dL au with
      |true=>(match o.dst with
       |some d=>K ((iZ r ⟨true,z,e9 rows au⟩ st).set d (one (.sc (.int .i64 (Int.ofNat (lV au.length rows.length))))))
       |none=>K (iZ r ⟨true,z,e9 rows au⟩ st))
      |false=> .fail:Ev R).holds cf lp Q:=hk
     clear hk
     split at hk2
     ·rename_i hsc
      have hin:aj st.ob r:=⟨_,hl⟩;obtain⟨b0,hb0,I3⟩:=GY;rw[hl] at hb0
      cases hb0
      have I3:a.eval s=φ.V r:=I3;have hO:ah w φ.I .deep (φ.S r) (.sub z rows) (φ.V r):=h.obj r _ hl;obtain⟨Ad,c,aZ,op⟩:=hO.opened;obtain⟨lQ,_⟩:=gv h Il hr;obtain⟨vs,l1,mO,hz,hcell,DL⟩:=lQ.vals;obtain⟨A',c',hxval,PY⟩:=Hu lQ;obtain⟨hkn,hnp⟩:=mm yC;obtain⟨i,zv,g1,g2,_⟩:=(hT e hkn).info
      have isz:i.size=z:=by rw[g2,PX]
      have hU:=(jK hT he).1
      have lits:aZ.length=rows.length*z:=by
       have:=congrArg List.length op.tcs;rw[aR op.width,g9] at this;exact this.symm
      obtain⟨us,GJ⟩: ∃us,us=vs.take (rows.length*z):=⟨_,rfl⟩
      have lus:us.length=lV au.length rows.length*z:=by
       rw[GJ,eU,l1];rcases Nat.le_total au.length rows.length with hle|hle
       ·have:=gq z hle
        rw[show lV au.length rows.length=au.length from Nat.min_eq_left hle];omega
       ·have:=gq z hle
        rw[show lV au.length rows.length=rows.length from Nat.min_eq_right hle];omega
      have usS: ∀v∈vs,uf v:=fun v hv=>by
       obtain⟨j,hj,rfl⟩:=List.mem_iff_getElem.1 hv;obtain⟨tc,Ij⟩: ∃tc,au.flatten[j]?=some tc:=⟨_,aO (by rw[aR mO,←l1];exact hj)⟩;obtain⟨T,hT⟩:=DL j tc _ Ij (aO hj);obtain⟨v',rfl⟩:=vo hsc j tc Ij
       cases hT with
       |sc _ _ _ hs=>exact hs
      have tcV:au.flatten=vs.map .sc:=by
       apply List.ext_getElem
       ·rw[aR mO,g9,l1]
       ·intro j h1 h2
        rw[List.getElem_map];have Ij:au.flatten[j]?=some au.flatten[j]:=aO h1
        have hj':j<vs.length:=by rw[g9] at h2;exact h2
        have hvs:vs[j]?=some vs[j]:=aO hj';obtain⟨T,hT⟩:=DL j _ _ Ij hvs;obtain⟨v',CK⟩:=vo hsc j _ Ij;rw[CK] at hT ⊢
        cases hT with
        |sc _ _ _ hs=>rfl
      have one1: ∀v∈us,v.oneCell'=true:=fun v hv=>by
       have:=usS v (by rw[GJ] at hv;exact nX hv)
       cases v<;>first|rfl|cases this
      have GL: ∀W:World,(∀x,W.cell? x=w.cell? x)→(Builtin.firstCells z (lV au.length rows.length) (.slice A' au.length c')).run C.P W= .ok us.toArray W:=fun W hW=>by
       by_cases hne:au=[]
       ·have h0:us=[]:=qF (by rw[lus,hne];simp)
        subst h0;subst hne
        cases A' with
        |none=>simp[Builtin.firstCells]
        |some ad=>exact run_firstCells_some W z _ ad _ c' [] cY (fun j v hj=>by simp at hj)
       ·obtain⟨ad,rfl⟩:=PY hne
        refine run_firstCells_some W z _ ad _ c' us lus fun j v hj=> ?_;rw[hW];refine hcell ad _ _ hxval j v ?_;rw[GJ,tF] at hj
        split at hj
        ·exact hj
        ·cases hj
      have Io:(e9 rows au).length=rows.length:=by
       rw[kV,cL,eU,kC];omega
      have fin: ∀w',(Builtin.copy_ #[t,t'] o.type #[a.eval s,a.eval x]).run C.P w= .ok (goInt (lV au.length rows.length)) w'→ak F A w0 (φ.add r (φ.S r) (φ.V r)) (iZ r ⟨true,z,e9 rows au⟩ st) a.tmps w'→w.heap.size≤w'.heap.size→(∀k,k<w.heap.size→ ¬φ.S r k→w'.heap[k]?=w.heap[k]?)→BD C F A w0 φ st o a w K cf lp Q:=fun w' hrun kk hsz hfr=>by
       have run:(execOp a.eval o).run C.P w= .ok (.value (goInt (lV au.length rows.length))) w':=by
        rw[iQ ho];simp only[builtin,Sem.run_bind]
        have:(#[s,x].map a.eval)= #[a.eval s,a.eval x]:=by simp
        rw[this,hrun]
        rfl
       have wr: ∀k,k<w.heap.size→ ¬Wr st φ (writes C st o) k→w'.heap[k]?=w.heap[k]?:=fun k hk hn=>hfr k hk fun hS=>hn (.inr ⟨r,by
        unfold writes;rw[ho];simp only;refine List.mem_map.2 ⟨r,?_,rfl⟩
        revert hcs
        cases gH C st t s with
        |v tup es=>
         unfold ku
         split
         ·rename_i e0 e1
          intro g1
          cases g1
          simp only[TE.v.injEq] at e1;obtain⟨rfl,rfl⟩:=e1;exact .head _
         ·intro g1;cases g1
         ·intro g1;cases g1
        |_=>intro g1;simp[ku] at g1,hin,hS⟩)
       cases dr:o.dst with
       |none=>
        rw[dr] at hk2;exact⟨_,goInt (lV au.length rows.length),w',_,run,.inl rfl,by rw[dr];exact⟨_,kk⟩,hk2,hsz,wr⟩
       |some d=>
        rw[dr] at hk2;refine⟨_,goInt (lV au.length rows.length),w',_,run,.inl rfl,?_,hk2,hsz,wr⟩;rw[dr];exact⟨_,kk.wU (v:=goInt (lV au.length rows.length)) (hd d dr) ⟨_,rfl,_,rfl,rfl,rfl,trivial⟩⟩
      have hX:=fun k hk=>h.sep.fresh r k hin hk
      cases wM:Ad with
      |none=>
       have hc0:=op.none wM;have hle:=op.le;have J1:rows=[]:=qF aA
       have PZ:e9 rows au=rows:=by rw[kV,J1];simp
       refine fin w ?_ ?_ (bu _) fun _ _ _=>rfl
       ·rw[I3,op.val,wM,hxval]
        simp only[Builtin.copy_,Builtin.lenOf];simp[run_underlying hU,tL g1 isz,GL w fun _=>rfl]
       ·refine h.iZ hl rfl Io ?_ h.frm (bu _) (fun _ _ _=>rfl) hX (fun k hk=>h.sep.read r k hin hk) (fun k d hk hne hd hs=>hne (h.sep.apart d r k hd hin hs hk)) (fun b cs tw hw hk=>(h.sep.box b cs tw hw).2.1 r hin hk)
        show ah w φ.I .deep (φ.S r) (.sub z (e9 rows au)) (φ.V r);rw[PZ];exact hO
      |some ad=>
       obtain⟨LV,hsp,⟨sp,zY,LW⟩,hfz,O2⟩:=op.row ad wM;obtain⟨b,off,spot⟩:=ad
       cases hsp
       simp only at zY LW hfz O2 LV;have hle:=op.le;have elc:=gq z hle
       have lmin:us.length≤rows.length*z:=by rw[lus];exact gq z (Nat.min_le_right _ _)
       have lL:(aZ.map (·.val)++sp).length=c*z:=LW;have hst:=run_storeCells_cells (P:=C.P) b off us 0 w (fun j hj=>by rw[jO,zY j _ (aO aA)];rfl) (fun j hj=>by rw[jO];exact hfz j aA) one1;rw[jO] at hst;have r2:=zY.put (p:=0) (us:=us) aA;rw[jO,List.take_zero,jN,dZ] at r2
       have hnew:qo (w.setCells b off us) (φ.S r) z (e9 rows au) (φ.V r) Ad c (us.map FM++aZ.drop (au.length*z)):=by
        have I7:(us.map FM++aZ.drop (au.length*z)).map (·.val)=us++(aZ.map (·.val)).drop (au.length*z):=by
         rw[pO,List.map_map,xx]
         congr 1
         have:((fun t:vn=>t.val)∘FM)=id:=rfl;rw[this,List.map_id]
        have I8:(aZ.map (·.val)++sp).drop us.length=(aZ.map (·.val)).drop (au.length*z)++sp:=by
         rcases Nat.le_total au.length rows.length with hq|hq
         ·have:=gq z hq
          rw[lus,show lV au.length rows.length=au.length from Nat.min_eq_left hq,List.drop_append_of_le_length (by rw[g9];omega)]
         ·have:=gq z hq
          rw[lus,show lV au.length rows.length=rows.length from Nat.min_eq_right hq,List.drop_append_of_le_length (by rw[g9];omega),xw (by rw[g9];omega),xw (by rw[g9];omega)]
        refine⟨by rw[Io];exact op.val,by rw[Io];exact op.le,op.cap,op.z0,fun q hq=> ?_,?_,fun t ht=> ?_,?_,fun t ht k hk=> ?_,op.none,fun ad e=> ?_⟩
        ·rw[kV] at hq
         rcases List.mem_append.1 hq with hq|hq
         ·exact mO q (nX hq)
         ·exact op.width q (qH hq)
        ·rw[kV,CO,m6 mO,m7 op.width,op.tcs,tcV,←z6,←GJ,pO,List.map_map,xx]
         rfl
        ·rcases List.mem_append.1 ht with ht|ht
         ·obtain⟨v,hv,rfl⟩:=List.mem_map.1 ht
          exact .sc _ _ _ (usS v (by rw[GJ] at hv;exact nX hv))
         ·have hm:=qH ht
          refine(op.ok t hm).move (fun k hk=>hk.elim) fun _ k hk=> ?_;have hs:=op.sub t hm k hk;exact bV _ _ _ _ (hX k hs.1).1 (hs.2 _ wM)
        ·refine List.pairwise_append.2 ⟨?_,(op.fP.sublist (List.drop_sublist _ _)),fun x hx y hy k hk=> ?_⟩
         ·rw[List.pairwise_map]
          exact List.pairwise_of_forall fun _ _ k hk=>hk.elim
         ·obtain⟨v,hv,rfl⟩:=List.mem_map.1 hx
          exact hk.elim
        ·rcases List.mem_append.1 ht with ht|ht
         ·obtain⟨v,hv,rfl⟩:=List.mem_map.1 ht
          exact hk.elim
         ·exact op.sub t (qH ht) k hk
        ·rw[wM] at e
         cases e
         refine⟨LV,rfl,⟨sp,?_,?_⟩,fun j hj=> ?_,fun hz1 j=> ?_⟩
         ·rw[I7,fJ,←I8];exact r2
         ·rw[I7,fJ,←I8,cL,kC];omega
         ·rw[show(w.setCells b off us).frozen? ⟨b,off+j,none⟩=w.frozen? ⟨b,off+j,none⟩ from World.frozen?_setCells b us off w _];exact hfz j hj
         ·rw[show(w.setCells b off us).frozen? ⟨b,j,none⟩=w.frozen? ⟨b,j,none⟩ from World.frozen?_setCells b us off w _];exact O2 hz1 j
       have hsz:=(ef b us off w).2.2.2;refine fin (w.setCells b off us) ?_ ?_ (by rw[hsz];exact bu _) fun k hk hn=>bV _ _ _ _ hk fun e=>hn (by rw[e];exact LV)
       ·rw[I3,op.val,wM,hxval]
        simp only[Builtin.copy_,Builtin.lenOf];simp[run_underlying hU,tL g1 isz,GL w fun _=>rfl,hst]
       ·refine h.iZ hl rfl Io hnew.rep (h.frm.setCells (hX b LV).2) (by rw[hsz];exact bu _) (fun k hk hn=>bV _ _ _ _ hk fun e=>hn (by rw[e];exact LV)) (fun k hk=>by rw[hsz];exact hX k hk) (fun k hk=>h.sep.read r k hin hk) (fun k d hk hne hd hs=>hne (h.sep.apart d r k hd hin hs hk)) (fun b' cs tw hw hk=>(h.sep.box b' cs tw hw).2.1 r hin hk)
     ·exact hk2.elim
    ·exact hk.elim
   ·exact hk.elim
  ·exact hk.elim
 ·exact hk.elim
end Go.T
