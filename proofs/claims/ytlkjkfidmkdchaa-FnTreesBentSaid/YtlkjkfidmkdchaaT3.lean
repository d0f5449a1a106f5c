import Derived.Test.YtlkjkfidmkdchaaT2
import Derived.Deep.AppendSrc
import Derived.Deep.MidRow
import Derived.Deep.Upon
import Derived.Laws.MakeOwn
import Derived.Laws.IdiomStrings
import Derived.Laws.IdiomCopy
set_option linter.all false
namespace Go.T
variable {F : Nat → Prop} {A : Arg} {w0 w w' : World} {φ φ' : Fp} {st st' cG jL : TS} {tm ya : Array Value} {C : ic}
theorem mj: ∀(W:List (Nat×OB)) (ob:List (Nat×OB)) (d:Nat),aa d (gf W ob)=match aa d W with|some b=>some b|none=>aa d ob
 |[],ob,d=>rfl
 |(i,b)::r,ob,d=>by
  simp only[gf,cZ,aa,mj r ob d]
  by_cases h:d=i
  ·subst h;simp
  ·rw[aR h,beq_false (Ne.symm h)]
theorem Gl {α:Type}: ∀{W:List (Nat×α)} {d:Nat},d∈mJ W↔ ∃b,aa d W=some b
 |[],d=>by simp[mJ,aa]
 |(i,b)::r,d=>by
  simp only[mJ,cz,Gl (W:=r),aa]
  by_cases h:d=i
  ·subst h;simp
  ·rw[beq_false (Ne.symm h)];simp[h]
theorem Bb {α:Type} {W:List (Nat×α)} {d:Nat} (h:d∉mJ W):aa d W=none:=by
 cases hd:aa d W with
 |none=>rfl
 |some b=>exact absurd (Gl.2 ⟨b,hd⟩) h
theorem yl {a l:List Nat} (h:om a l=true): ∃x,x∈a∧x∈l:=by
 induction a with
 |nil=>cases h
 |cons y r ih=>
  simp only[om] at h
  cases h1:gJ y l with
  |true=>exact⟨y,.head _,gh.1 h1⟩
  |false=>rw[h1] at h;obtain⟨x,a,b⟩:=ih h;exact⟨x,.tail _ a,b⟩
def Fp.wr (φ:Fp) (W:List (Nat×OB)) (X:Nat→Nat→Prop) (Z:Nat→Prop):Fp:=
 {φ with I:=fun k=>φ.I k∨Z k,S:=fun d k=>match aa d W with|some _=>X d k|none=>φ.S d k}
theorem Ft {W:List (Nat×OB)} {X:Nat→Nat→Prop} {Z:Nat→Prop} {d k:Nat} (h:aa d W=none):(φ.wr W X Z).S d k=φ.S d k:=by
 unfold Fp.wr;simp only[h]
theorem Jf {W:List (Nat×OB)} {X:Nat→Nat→Prop} {Z:Nat→Prop} {d k:Nat} {b:OB} (h:aa d W=some b):(φ.wr W X Z).S d k=X d k:=by
 unfold Fp.wr;simp only[h]
theorem aG.wrote (h:aG F A w0 φ st tm w) (W:List (Nat×OB)) (X:Nat→Nat→Prop) (Z G:Nat→Prop)
 (hf:Ln F w0 w') (hsz:w.heap.size≤w'.heap.size) (hw: ∀k,k<w.heap.size→ ¬G k→w'.heap[k]?=w.heap[k]?)
 (gF: ∀k,G k→w0.heap.size≤k∨F k) (gI: ∀k,G k→ ¬φ.I k) (gS: ∀k o,G k→az st.ob o→aa o W=none→ ¬φ.S o k) (gB: ∀b cs,aa b st.bx=some cs→ ¬G (φ.β b).block)
 (hW: ∀o b',aa o W=some b'→ ∃b,aa o st.ob=some b∧b'.z=b.z∧b'.rows.length=b.rows.length∧aj w' (fun k=>φ.I k∨Z k) b'.m (X o) (.sub b'.z b'.rows) (φ.V o)∧
   ∀k,X o k→k<w'.heap.size∧(w0.heap.size≤k∨F k)∧ ¬φ.I k∧ ¬Z k∧(∀d,az st.ob d→aa d W=none→ ¬φ.S d k)∧(∀d b,aa d W=some b→X d k→d=o)∧ ∀b cs,aa b st.bx=some cs→r5 b=true→(φ.β b).block≠k)
 (hZ: ∀k,Z k→k<w'.heap.size∧(w0.heap.size≤k∨F k∨A.sh k)∧(∀d,az st.ob d→aa d W=none→ ¬φ.S d k)∧ ∀b cs,aa b st.bx=some cs→r5 b=true→(φ.β b).block≠k):
 aG F A w0 (φ.wr W X Z) (nN W st) tm w':=by
 have kg: ∀d,az (gf W st.ob) d↔az st.ob d:=fun d=>by
  unfold az;rw[mj]
  cases hd:aa d W with
  |none=>rfl
  |some b=>obtain⟨b0,h0,_⟩:=hW d b hd;exact⟨fun _=>⟨b0,h0⟩,fun _=>⟨b,rfl⟩⟩
 have gA: ∀k,G k→ ¬A.all k:=fun k hg ha=>by
  have:=h.sep.iW k ha;rcases gF k hg with h3|h3
  ·omega
  ·exact this.2 h3
 have stI: ∀k,φ.I k→w'.heap[k]?=w.heap[k]?:=fun k hk=>hw k (h.sep.ro k hk).1 fun hg=>gI k hg hk
 have stS: ∀d k,aa d W=none→d=0∨az st.ob d→φ.S d k→w'.heap[k]?=w.heap[k]?:=fun d k hn hd hk=>hw k (h.sep.lt h.frm.size hd hk) fun hg=>by
  rcases hd with rfl|hd
  ·rw[h.sep.arg] at hk;exact gA k hg hk
  ·exact gS k d hg hd hn hk
 have w0n:aa 0 W=none:=by
  cases h0:aa 0 W with
  |none=>rfl
  |some b=>obtain⟨b0,h1,_⟩:=hW 0 b h0;exact absurd rfl (h.sep.nz 0 ⟨b0,h1⟩)
 have stR: ∀ds k,(∀d∈ds,aa d W=none)→(∀d∈ds,d=0∨az st.ob d)→rd φ ds k→rd (φ.wr W X Z) ds k∧w'.heap[k]?=w.heap[k]?:=fun ds k hn hd hk=>by
  rcases hk with hk|⟨d,hm,hk⟩
  ·exact⟨.inl (.inl hk),stI k hk⟩
  ·exact⟨.inr ⟨d,hm,by rw[Ft (hn d hm)];exact hk⟩,stS d k (hn d hm) (hd d hm) hk⟩
 have stV: ∀p b1 ad n c i f tc u,aa p W=none→aa p st.ob=some b1→φ.V p= .slice (some ad) n c→qm b1.rows i f=some tc→w.cell? (ad.add (i*b1.z+f))=some u→w'.cell? (ad.add (i*b1.z+f))=some u:=by
  intro p b1 ad n c i f tc u hne hp hv ht hcell;have hO:=h.obj p b1 hp;unfold iZ at hO;rw[hv] at hO
  have hS:φ.S p ad.block:=by
   cases hO with
   |sub _ _ _ _ _ _ u T k hn=>exact(k.own (by unfold OB.m;split<;>simp)).2 ad rfl|>.1
  rw[dy (w:=w)]
  ·exact hcell
  ·rw[bO];exact stS p _ hne (.inr ⟨b1,hp⟩) hS
 have cbox: ∀p cs,aa p st.bx=some cs→w'.heap[(φ.β p).block]?=w.heap[(φ.β p).block]?:=fun p cs hp=>hw _ (h.sep.spot p cs hp).2.1 (gB p cs hp)
 have look1: ∀{d b},aa d st.ob=some b→ ∃b',aa d (gf W st.ob)=some b'∧b'.z=b.z∧b'.rows.length=b.rows.length∧(aa d W=none→b'=b):=fun {d b} hb=>by
  rw[mj]
  cases hd:aa d W with
  |none=>exact⟨b,hb,rfl,rfl,fun _=>rfl⟩
  |some b'=>
   obtain⟨b0,h0,h1,h2,_⟩:=hW d b' hd;rw[hb] at h0;cases h0;exact⟨b',rfl,h1,h2,fun e=>by cases e⟩
 have obj: ∀o b,aa o (gf W st.ob)=some b→iZ w' (φ.wr W X Z) o b:=fun o b ho=>by
  rw[mj] at ho;unfold iZ
  cases hd:aa o W with
  |none=>
   rw[hd] at ho;refine(aj.mono ((h.obj o b ho).move (fun k hk=>⟨.inl hk,stI k hk⟩) fun _ k hk=>stS o k hd (.inr ⟨b,ho⟩) hk) fun k hk=> ?_);rw[Ft hd];exact hk
  |some b'=>
   rw[hd] at ho
   cases ho
   obtain⟨b0,h0,h1,h2,h3,_⟩:=hW o _ hd;refine aj.mono h3 fun k hk=> ?_;rw[Jf hd];exact hk
 have hce: ∀e v,cj st.ob w φ e v→cj (gf W st.ob) w' (φ.wr W X Z) (w6 (mJ W) e) v:=fun e v he=>by
  cases e with
  |ref p cut=>
   obtain⟨b1,h1,h2⟩:=he;obtain⟨b',g1,g2,g3,_⟩:=look1 h1;refine⟨b',g1,?_⟩
   cases cut with
   |none=>exact h2
   |some q=>obtain⟨l,r⟩:=q;simp only at h2 ⊢;rw[g2,g3];exact h2
  |snap ds loc z rows=>
   simp only[w6]
   cases hd:om ds (mJ W) with
   |true=>trivial
   |false=>
    have hn: ∀d∈ds,aa d W=none:=fun d hm=>Bb (lJ hd hm);obtain⟨h1,h2,h3⟩:=he;refine⟨fun d hm=>(h1 d hm).imp id (kg d).2,h2.move (fun k hk=>stR ds k hn h1 hk) (fun hm=>absurd rfl hm),fun p i f hl=> ?_⟩;obtain⟨a1,b1,a2,a3,a4,ad,n,c,a5,a6⟩:=h3 p i f hl;obtain⟨b',g1,_,_,g4⟩:=look1 a2;have:=g4 (hn p a1);subst this;exact⟨a1,_,g1,a3,a4,ad,n,c,a5,stV p _ ad n c _ _ _ _ (hn p a1) a2 a5 a4 a6⟩
  |_=>exact he
 have BT: ∀e v,(∀t es,e≠ .v t es)→bS st.ob w φ e v→bS (gf W st.ob) w' (φ.wr W X Z) (sX (mJ W) e) v:=fun e v hv he=>by
  cases e with
  |v t es=>exact absurd rfl (hv t es)
  |ep ds cells=>
   simp only[sX]
   cases hd:om ds (mJ W) with
   |true=>trivial
   |false=>
    have hn: ∀d∈ds,aa d W=none:=fun d hm=>Bb (lJ hd hm);obtain⟨h1,ad,h2,hr,h3⟩:=he;refine⟨fun d hm=>(h1 d hm).imp id (kg d).2,ad,h2,fun hc=>(stR ds _ hn h1 (hr hc)).1,fun j tc hj=> ?_⟩;obtain⟨u,h4,h5⟩:=h3 j tc hj
    have hc:cells≠[]:=fun e=>by rw[e] at hj;simp at hj
    exact⟨u,by rw[dy (w:=w) (by rw[bO];exact(stR ds _ hn h1 (hr hc)).2)];exact h4,h5.move (fun k hk=>stR ds k hn h1 hk) (fun hm=>absurd rfl hm)⟩
  |er p path i f=>
   obtain⟨b1,h1,h2,ad,n,c,h3,h4⟩:=he;obtain⟨b',g1,g2,g3,g4⟩:=look1 h1
   cases path with
   |none=>exact⟨b',g1,h2,ad,n,c,h3,by simp only at h4 ⊢;rw[g2];exact h4⟩
   |some q=>
    obtain⟨i0,f0⟩:=q;simp only[sX]
    cases hd:gJ p (mJ W) with
    |true=>trivial
    |false=>
     have hn:=Bb (cM.1 hd);have:=g4 hn;subst this;obtain⟨a1,z1,kR,a2,ad1,n1,c1,a3,a4⟩:=h4;exact⟨_,g1,h2,ad,n,c,h3,a1,z1,kR,a2,ad1,n1,c1,stV p _ ad n c _ _ _ _ hn h1 h3 a2 a3,a4⟩
  |_=>exact he
 have hsep: ∀bx',(∀b cs',aa b bx'=some cs'→ ∃cs,aa b st.bx=some cs∧cs'.length=cs.length)→Sep F A w0 w' (φ.wr W X Z) bx' (gf W st.ob):=fun bx' BU=>by
  have hs:=h.sep.boxes BU
  exact {
   arg:=by
    funext k
    rw[Ft w0n,h.sep.arg]
   nz:=fun d hd=>h.sep.nz d ((kg d).1 hd)
   apart:=fun d d' k h1 h2 h3 h4=>by
    have i1:=(kg d).1 h1;have i2:=(kg d').1 h2
    cases e1:aa d W with
    |some b=>
     rw[Jf e1] at h3;obtain⟨_,_,_,_,_,hx⟩:=hW d b e1;obtain⟨_,_,_,_,x5,x6,_⟩:=hx k h3
     cases e2:aa d' W with
     |some b'=>rw[Jf e2] at h4;exact(x6 d' b' e2 h4).symm
     |none=>rw[Ft e2] at h4;exact absurd h4 (x5 d' i2 e2)
    |none=>
     rw[Ft e1] at h3
     cases e2:aa d' W with
     |some b'=>
      rw[Jf e2] at h4;obtain⟨_,_,_,_,_,hx⟩:=hW d' b' e2;exact absurd h3 ((hx k h4).2.2.2.2.1 d i1 e1)
     |none=>rw[Ft e2] at h4;exact h.sep.apart d d' k i1 i2 h3 h4
   read:=fun d k hd hk=>by
    have hd:=(kg d).1 hd
    cases e1:aa d W with
    |some b=>
     rw[Jf e1] at hk;obtain⟨_,_,_,_,_,hx⟩:=hW d b e1;obtain⟨_,_,x3,x4,_⟩:=hx k hk;exact fun hi=>hi.elim x3 x4
    |none=>
     rw[Ft e1] at hk;exact fun hi=>hi.elim (h.sep.read d k hd hk) fun hz=>(hZ k hz).2.2.1 d hd e1 hk
   fresh:=fun d k hd hk=>by
    have hd:=(kg d).1 hd
    cases e1:aa d W with
    |some b=>
     rw[Jf e1] at hk;obtain⟨_,_,_,_,_,hx⟩:=hW d b e1;exact⟨(hx k hk).1,(hx k hk).2.1⟩
    |none=>
     rw[Ft e1] at hk;exact⟨fI (h.sep.fresh d k hd hk).1 hsz,(h.sep.fresh d k hd hk).2⟩
   ro:=fun k hk=>hk.elim (fun hk=>⟨fI (h.sep.ro k hk).1 hsz,(h.sep.ro k hk).2⟩) fun hz=>⟨(hZ k hz).1,(hZ k hz).2.1⟩
   iW:=h.sep.iW
   box:=fun p cs hp xD=>by
    obtain⟨cs0,c1,_⟩:=BU p cs hp;obtain⟨a1,a2,a3,a4⟩:=hs.box p cs hp xD;refine⟨fun hi=>hi.elim a1 fun hz=>(hZ _ hz).2.2.2 p cs0 c1 xD rfl,fun d hd hk=> ?_,a3,a4⟩;have hd:=(kg d).1 hd
    cases e1:aa d W with
    |some b=>
     rw[Jf e1] at hk;obtain⟨_,_,_,_,_,hx⟩:=hW d b e1;exact(hx _ hk).2.2.2.2.2.2 p cs0 c1 xD rfl
    |none=>rw[Ft e1] at hk;exact a2 d hd hk
   spot:=fun p cs hp=>⟨(hs.spot p cs hp).1,fI (hs.spot p cs hp).2.1 hsz,(hs.spot p cs hp).2.2⟩
   soft:=fun p cs j hp xD hj=>by
    obtain⟨cs0,c1,c2⟩:=BU p cs hp;rw[gL (w:=w) (by rw[bO];exact cbox p cs0 c1)]
    exact h.sep.soft p cs0 j c1 xD ay}
 have BU: ∀b cs,aa b st.bx=some cs→ ∀j,j<cs.length→w'.cell? ((φ.β b).add j)=w.cell? ((φ.β b).add j):=fun p cs hp j _=>dy (by rw[bO];exact cbox p cs hp)
 cases W with
 |nil=>
  have:=h.yg (f:=id) (g:=id) (k:=id) (φ':=φ.wr [] X Z) rfl rfl (fun e v he=> ?_) (fun e v hv he=> ?_) BU obj (by rw[A8];exact hsep st.bx fun b cs hb=>⟨cs,hb,rfl⟩) hf
  ·rw[o7] at this;exact this
  ·have:=hce e v he
   have e1:w6 (mJ ([]:List (Nat×OB))) e=e:=by
    cases e with
    |snap ds l z rows=>simp only[w6];cases hd:om ds (mJ ([]:List (Nat×OB))) with
     |true=>obtain⟨x,_,hx⟩:=yl hd;cases hx
     |false=>rfl
    |_=>rfl
   rw[e1] at this;exact this
  ·have:=BT e v hv he
   have e1:sX (mJ ([]:List (Nat×OB))) e=e:=by
    cases e with
    |ep ds cells=>simp only[sX];cases hd:om ds (mJ ([]:List (Nat×OB))) with
     |true=>obtain⟨x,_,hx⟩:=yl hd;cases hx
     |false=>rfl
    |er p path i f=>cases path<;>rfl
    |_=>rfl
   rw[e1] at this;exact this
 |cons a r=>exact h.yg (f:=w6 (mJ (a::r))) (g:=sX (mJ (a::r))) (k:=gf (a::r)) rfl rfl hce BT BU obj (hsep _ (ei _)) hf
end Go.T
namespace Go.T
variable {F : Nat → Prop} {A : Arg} {w0 w w' : World} {φ φ' : Fp} {st st' cG jL : TS} {tm ya : Array Value} {C : ic}
variable {R : Type} {cf : Cf} {lp : Lp} {Q : R → Prop}
theorem MA {ob:List (Nat×OB)} {e:CE} {v:Value} (h:cj ob w φ e v) (hg:e≠ .gone) (hb: ∀o b,aa o ob=some b→iZ w φ o b):v.oneCell'=true:=by
 cases e with
 |sc x=>obtain⟨rfl,h⟩:=h;cases v<;>first|rfl|cases h
 |nil z=>obtain⟨rfl,_⟩:=h;rfl
 |ref o cut=>
  obtain⟨b,h1,h2⟩:=h;have:=iZ.cut (hb o b h1) h2
  cases this;rfl
 |snap ds l z rows=>have:=h.2.1;cases this;rfl
 |gone=>exact absurd rfl hg
theorem mT {Rd S:Nat→Prop} {m:Mode} {c:TC} {v:Value} (h:aj w Rd m S c v):v.oneCell'=true:=by
 cases h with
 |any _ _ _ h=>exact h.1
 |sc _ _ _ h=>cases v<;>first|rfl|cases h
 |sub=>rfl
theorem iL (b:Nat): ∀(vs:List Value) (o:Nat) (w:World),(w.setCells b o vs).os=w.os∧(w.setCells b o vs).tape=w.tape∧(w.setCells b o vs).output=w.output∧(w.setCells b o vs).heap.size=w.heap.size
 |[],_,_=>⟨rfl,rfl,rfl,rfl⟩
 |v::r,o,w=>by
  obtain⟨h1,h2,h3,h4⟩:=iL b r (o+1) (w.setCell ⟨b,o,none⟩ v);refine⟨h1,h2,h3,?_⟩;rw[World.setCells,h4];simp[World.setCell]
theorem dA (b o:Nat) (vs:List Value) (w:World) {k:Nat} (hk:k<w.heap.size) (hne:k≠b):(w.setCells b o vs).heap[k]?=w.heap[k]?:=World.heap_setCells_other w b o vs hk hne
theorem Ln.setCells {b o:Nat} {vs:List Value} (h:Ln F w0 w) (hb:w0.heap.size≤b∨F b):Ln F w0 (w.setCells b o vs):=by
 obtain⟨h1,h2,h3,h4⟩:=iL b vs o w;refine⟨h1.trans h.os,h2.trans h.tape,h3.trans h.output,by rw[h4];exact h.size,fun k hk hF=> ?_⟩;rw[dA b o vs w (fI hk h.size) (fun e=>by subst e;rcases hb with hb|hb;omega;exact hF hb)];exact h.block k hk hF
def cP (M:Mode):List TC→List Value→List It
 |c::cs,v::vs=>(M,c,v)::cP M cs vs
 |_,_=>[]
theorem iQ {M:Mode}: ∀{cs:List TC} {vs:List Value} {i:Nat} {it:It},(cP M cs vs)[i]?=some it→ ∃c v,cs[i]?=some c∧vs[i]?=some v∧it=(M,c,v)
 |[],_,_,_,h=>by simp[cP] at h
 |_::_,[],_,_,h=>by simp[cP] at h
 |c::cs,v::vs,0,it,h=>by simp only[cP,cR,aY] at h;exact⟨c,v,rfl,rfl,h.symm⟩
 |c::cs,v::vs,i+1,it,h=>by
  simp only[cP,mI] at h;obtain⟨c',v',h1,h2,h3⟩:=iQ h;exact⟨c',v',by simpa using h1,by simpa using h2,h3⟩
theorem ji {M:Mode}: ∀{cs:List TC} {vs:List Value} {i:Nat} {c:TC} {v:Value},cs[i]?=some c→vs[i]?=some v→(cP M cs vs)[i]?=some (M,c,v)
 |[],_,_,_,_,h,_=>by simp at h
 |_::_,[],_,_,_,_,h=>by simp at h
 |c0::cs,v0::vs,0,c,v,h1,h2=>by
  simp only[cR,aY] at h1 h2;subst h1 h2
  rfl
 |c0::cs,v0::vs,i+1,c,v,h1,h2=>by
  simp only[cP,mI] at h1 h2 ⊢;exact ji h1 h2
theorem eX {M:Mode}: ∀{cs:List TC} {vs:List Value},cs.length=vs.length→(cP M cs vs).length=cs.length
 |[],[],_=>rfl
 |[],_::_,h=>by cases h
 |_::_,[],h=>by cases h
 |c::cs,v::vs,h=>by simp only[cP,e8];rw[eX (cs:=cs) (vs:=vs) (by simpa using h)]
theorem rM {M:Mode}: ∀{cs cs':List TC} {vs vs':List Value},cs.length=vs.length→cP M (cs++cs') (vs++vs')=cP M cs vs++cP M cs' vs'
 |[],_,[],_,_=>rfl
 |[],_,_::_,_,h=>by cases h
 |_::_,_,[],_,h=>by cases h
 |c::cs,cs',v::vs,vs',h=>by
  simp only[xF,cP];rw[rM (cs:=cs) (vs:=vs) (by simpa using h)]
structure hD (w:World) (φ:Fp) (st st':TS) (cv:List It) (X:Nat→Nat→Prop) (Z:Nat→Prop):Prop where
 ok: ∀(i:Nat) (it:It),cv[i]?=some it→aj w (fun k=>φ.I k∨Z k) it.1 (X i) it.2.1 it.2.2
 src: ∀(i k:Nat),i<cv.length→X i k→ ¬Z k∧ ∃o,az st.ob o∧ ¬az st'.ob o∧φ.S o k
 srcZ: ∀k,Z k→ ∃o,az st.ob o∧ ¬az st'.ob o∧φ.S o k
 apart: ∀(i j k:Nat),i<cv.length→j<cv.length→X i k→X j k→i=j
 sub:cV st' st
theorem hD.nil (st:TS):hD w φ st st [] (fun _ _=>False) (fun _=>False):=⟨fun i it h=>by simp at h,fun i k h=>by simp at h,fun k h=>h.elim,fun i j k h=>by simp at h,cV.refl _⟩
theorem gP.parts (h:aG F A w0 φ st tm w) {cv:List It} {os:List Nat} (t:gP w φ st st' cv os): ∃X Z,hD w φ st st' cv X Z:=by
 obtain⟨I,X,hb,hn⟩:=t.N4 h
 have dom: ∀i it o,cv[i]?=some it→os[i]?=some o→o≠0→az st.ob o∧ ¬az st'.ob o:=fun i it o hi ho h0=>by
  rcases t.at' i it o hi ho with⟨e,_⟩|⟨hd,hd',_⟩
  ·exact absurd e h0
  ·exact⟨hd,hd'⟩
 have own_S: ∀{m v S k},D5 m v S k→S k:=fun {m v S k} hk=>by
  cases m with
  |snap=>exact hk.elim
  |top=>exact hk.1
  |deep=>exact hk
 refine⟨fun i k=> ∃(it:It) (o:Nat),cv[i]?=some it∧os[i]?=some o∧o≠0∧D5 it.1 it.2.2 (φ.S o) k,
  fun k=> ∃(i:Nat) (it:It) (o:Nat),cv[i]?=some it∧os[i]?=some o∧o≠0∧φ.S o k∧ ¬D5 it.1 it.2.2 (φ.S o) k,⟨fun i it hi=> ?_,fun i k hi hk=> ?_,fun k hk=> ?_,fun i j k hi hj hk hk'=> ?_,t.sub⟩⟩
 ·obtain⟨o,ho⟩: ∃o,os[i]?=some o:=⟨_,aV (by rw[t.len];exact(List.getElem?_eq_some_iff.1 hi).1)⟩
  rcases t.at' i it o hi ho with⟨e,hc⟩|⟨hd,hn,m',hm,Ua,hc⟩
  ·exact(hc.jS fun k hk=> .inl hk).mono fun k hk=>hk.elim
  ·have h0:=h.sep.nz o hd
   exact(hc.out hm Ua (fun k hk=> .inl hk) fun k hk hno=> .inr ⟨i,it,o,hi,ho,h0,hk,hno⟩).mono fun k hk=>⟨it,o,hi,ho,h0,hk⟩
 ·obtain⟨it,o,h1,h2,h0,hk⟩:=hk
  obtain⟨hd,hd'⟩:=dom i it o h1 h2 h0;refine⟨?_,o,hd,hd',own_S hk⟩;rintro⟨i',it',o',g1,g2,g0,g3,g4⟩;have:=h.sep.apart o o' k hd (dom i' it' o' g1 g2 g0).1 (own_S hk) g3;subst this;have:=t.inj i i' o h2 g2 h0;subst this;rw[h1] at g1
  cases g1
  exact g4 hk
 ·obtain⟨i,it,o,h1,h2,h0,hk,_⟩:=hk
  obtain⟨hd,hd'⟩:=dom i it o h1 h2 h0;exact⟨o,hd,hd',hk⟩
 ·obtain⟨it,o,h1,h2,h0,hk⟩:=hk
  obtain⟨it',o',g1,g2,g0,hk'⟩:=hk';have:=h.sep.apart o o' k (dom i it o h1 h2 h0).1 (dom j it' o' g1 g2 g0).1 (own_S hk) (own_S hk');subst this;exact t.inj i j o h2 g2 h0
theorem hD.app (h:aG F A w0 φ st tm w) {a b:List It} {Xa Xb:Nat→Nat→Prop} {Za Zb:Nat→Prop} (p:hD w φ st cG a Xa Za) (q:hD w φ cG jL b Xb Zb):
 hD w φ st jL (a++b) (fun i k=>if i<a.length then Xa i k else Xb (i-a.length) k) (fun k=>Za k∨Zb k):=by
 have cross: ∀k,(∃o,az st.ob o∧ ¬az cG.ob o∧φ.S o k)→(∃o,az cG.ob o∧ ¬az jL.ob o∧φ.S o k)→False:=fun k ⟨o,a1,a2,a3⟩ ⟨o',b1,b2,b3⟩=>by
  have:=h.sep.apart o o' k a1 (p.sub.dom b1) a3 b3;subst this;exact a2 b1
 have upa: ∀{k},(∃o,az st.ob o∧ ¬az cG.ob o∧φ.S o k)→ ∃o,az st.ob o∧ ¬az jL.ob o∧φ.S o k:=fun⟨o,a1,a2,a3⟩=>⟨o,a1,fun hd=>a2 (q.sub.dom hd),a3⟩;have upb: ∀{k},(∃o,az cG.ob o∧ ¬az jL.ob o∧φ.S o k)→ ∃o,az st.ob o∧ ¬az jL.ob o∧φ.S o k:=fun⟨o,a1,a2,a3⟩=>⟨o,p.sub.dom a1,a2,a3⟩;refine⟨fun i it hi=> ?_,fun i k hi hk=> ?_,fun k hk=> ?_,fun i j k hi hj hk hk'=> ?_,q.sub.trans p.sub⟩
 ·by_cases hl:i<a.length
  ·rw[iJ hl] at hi
   simp only[bg hl];exact(p.ok i it hi).jS fun k hk=>hk.imp id .inl
  ·rw[jx ay] at hi
   simp only[aR hl];exact(q.ok _ it hi).jS fun k hk=>hk.imp id .inr
 ·by_cases hl:i<a.length
  ·simp only[bg hl] at hk
   obtain⟨h1,h2⟩:=p.src i k hl hk;exact⟨fun hz=>hz.elim h1 fun hb=>cross k h2 (q.srcZ k hb),upa h2⟩
  ·simp only[aR hl] at hk
   obtain⟨h1,h2⟩:=q.src _ k (by simp at hi;omega) hk;exact⟨fun hz=>hz.elim (fun ha=>cross k (p.srcZ k ha) h2) h1,upb h2⟩
 ·exact hk.elim (fun h=>upa (p.srcZ k h)) fun h=>upb (q.srcZ k h)
 ·simp only[cT] at hi hj
  by_cases hl:i<a.length
  ·simp only[bg hl] at hk
   by_cases hl':j<a.length
   ·simp only[bg hl'] at hk';exact p.apart i j k hl hl' hk hk'
   ·simp only[aR hl'] at hk'
    exact(cross k (p.src i k hl hk).2 (q.src _ k ay hk').2).elim
  ·simp only[aR hl] at hk
   by_cases hl':j<a.length
   ·simp only[bg hl'] at hk'
    exact(cross k (p.src j k hl' hk').2 (q.src _ k ay hk).2).elim
   ·simp only[aR hl'] at hk'
    have:=q.apart _ _ k ay ay hk hk';omega
theorem xh {kC:TS} (M:Mode): ∀(cs:List CE) (st:TS) (vs:List Value) (ts:List TC) (st':TS) (d:Bool),aG F A w0 φ st tm w→cV st kC→vs.length=cs.length→(∀(j:Nat) (e:CE),cs[j]?=some e→ ∃v,vs[j]?=some v∧cj kC.ob w φ e v)→
 (M= .snap∨d=true∧M= .deep)→DL cs st=some (ts,st',d)→aG F A w0 φ st' tm w∧ts.length=cs.length∧cV st' st∧ ∃os,gP w φ st st' (cP M ts vs) os
 |[],st,vs,ts,st',d,h,hs,hl,hc,hM,ho=>by
  cases ho
  exact⟨h,rfl,cV.refl _,[],by cases vs<;>exact gP.nil _⟩
 |e::r,st,vs,ts,st',d,h,hs,hl,hc,hM,ho=>by
  simp only[DL] at ho
  split at ho
  ·rename_i c cG d1 hab
   split at ho
   ·rename_i cs' jL d2 M7
    cases ho
    cases vs with
    |nil=>cases hl
    |cons v vs=>
     obtain⟨v',La,hok⟩:=hc 0 e rfl;simp only[cR,aY] at La;subst La;obtain⟨h1,J8,ht⟩:=Hu h hs hok hab
     obtain⟨o,ht⟩:=ht M (by
      rcases hM with rfl|⟨hd,rfl⟩
      ·unfold Kk;cases e<;>rfl
      ·simp only[dm] at hd
       have U1:=hd.1;subst U1
       cases e with
       |snap ds l z rows=>
        cases ds with
        |nil=>simp[jP] at hab
        |cons _ _=>simp[jP] at hab
       |gone=>simp[jP] at hab
       |_=>rfl)
     obtain⟨h2,xy,VT,os,hts⟩:=xh M r cG vs cs' _ d2 h1 (J8.trans hs) (by simpa using hl) (fun j e he=>by
      obtain⟨v',a1,a2⟩:=hc (j+1) e (by simpa using he)
      exact⟨v',by simpa using a1,a2⟩) (by
       rcases hM with hM|⟨hd,hM⟩
       ·exact .inl hM
       ·simp only[dm] at hd;exact .inr ⟨hd.2,hM⟩) M7
     exact⟨h2,by simp[xy],VT.trans J8,o::os,(gP.one ht J8).app h.sep.nz hts⟩
   ·cases ho
  ·cases ho
theorem pg {z:Nat}: ∀{rows:List (List TC)},(∀r∈rows,r.length=z)→ ∀{i f:Nat} {tc:TC},qm rows i f=some tc→rows.flatten[i*z+f]?=some tc∧f<z∧i<rows.length
 |[],_,i,f,tc,h=>by simp[qm] at h
 |r::rs,hw,0,f,tc,h=>by
  have hr:=hw r (.head _);simp only[qm,cR,Option.bind_some] at h
  have hf:f<z:=by rw[←hr];exact(List.getElem?_eq_some_iff.1 h).1
  refine⟨?_,hf,by simp⟩;rw[vr,Nat.zero_mul,ig,iJ ay];exact h
 |r::rs,hw,i+1,f,tc,h=>by
  have hr:=hw r (.head _)
  have h':qm rs i f=some tc:=by simpa [qm] using h
  obtain⟨h1,h2,h3⟩:=pg (fun r hr=>hw r (.tail _ hr)) h';refine⟨?_,h2,by simpa using h3⟩;rw[vr,jx (by rw[hr,nv];omega),hr,show(i+1)*z+f-z=i*z+f by rw[nv];omega];exact h1
theorem bU {z:Nat}: ∀{rows:List (List TC)},(∀r∈rows,r.length=z)→rows.flatten.length=rows.length*z
 |[],_=>by simp
 |r::rs,hw=>by
  rw[vr,cT,bU fun r hr=>hw r (.tail _ hr),hw r (.head _),e8,nv];omega
theorem hD.row (dp:Bool) {X:Nat→Nat→Prop} {Z:Nat→Prop} {z:Nat} {rows:List (List TC)} {vs:List Value} (p:hD w φ st st' (cP (if dp then .deep else .snap) rows.flatten vs) X Z) (hz:0<z) (hw: ∀r∈rows,r.length=z)
 (hl:vs.length=rows.length*z) {ad:Addr} {c:Nat} (hc:rows.length≤c) (QO:c≤maxLen) (hs:ad.spot=none) (hnew: ∀i k,i<rows.length*z→X i k→k≠ad.block)
 (hmem: ∀k,(φ.I k∨Z k)→w'.heap[k]?=w.heap[k]?) (Xd: ∀i k,i<rows.length*z→X i k→w'.heap[k]?=w.heap[k]?)
 (hcell: ∀(j:Nat) (v:Value),vs[j]?=some v→w'.cell? (ad.add j)=some v) (hall: ∀j,j<c*z→(∃x,w'.cell? ⟨ad.block,ad.off+j,none⟩=some x)∧w'.frozen? ⟨ad.block,ad.off+j,none⟩=false) (Fg:1<z→ ∀i,w'.frozen? ⟨ad.block,i,none⟩=false):
 aj w' (fun k=>φ.I k∨Z k) (OB.m ⟨dp,z,rows⟩) (fun k=>k=ad.block∨ ∃i,i<rows.length*z∧X i k) (.sub z rows) (.slice (some ad) rows.length c):=by
 have hfl:=bU hw
 have hlen:(cP (if dp then Mode.deep else .snap) rows.flatten vs).length=rows.length*z:=by rw[eX (by rw[hfl,hl]),hfl]
 have inj: ∀{i f i' f':Nat},f<z→f'<z→i*z+f=i'*z+f'→i=i'∧f=f':=fun {i f i' f'} h1 h2 e=>by
  have e1:(i*z+f)/z=i:=by rw[Nat.mul_comm,Nat.mul_add_div hz,Nat.div_eq_of_lt h1,nw]
  have e2:(i'*z+f')/z=i':=by rw[Nat.mul_comm,Nat.mul_add_div hz,Nat.div_eq_of_lt h2,nw]
  have:i=i':=by rw[←e1,e,e2]
  subst this;exact⟨rfl,by omega⟩
 refine .sub _ _ z rows (some ad) c (fun i f=>vs.getD (i*z+f) undef) (fun i f k=>f<z∧i<rows.length∧dp=true∧X (i*z+f) k) ⟨hc,QO,hz,hw,fun _=>⟨ad,rfl⟩,?_,?_,?_,fun _ M6 ad' e i=>(by cases e;exact Fg M6 i),?_⟩ ?_
 ·intro ad' e i f tc ht
  cases e
  obtain⟨h1,h2,h3⟩:=pg hw ht
  have hlt:i*z+f<vs.length:=by rw[hl,←hfl];exact(List.getElem?_eq_some_iff.1 h1).1
  rw[hcell _ _ (aV hlt)];simp[List.getD,aV hlt]
 ·intro hm
  exfalso
  revert hm
  unfold OB.m
  split<;>simp
 ·intro _
  refine⟨fun e=>(by cases e),fun ad' e=> ?_⟩
  cases e
  exact⟨.inl rfl,hs,hall⟩
 ·intro hm i f k hk
  obtain⟨h1,h2,h3,h4⟩:=hk;have hi:i*z+f<rows.length*z:=fI (Nat.add_lt_add_left h1 _) (by rw[←DJ];exact lI _ h2);refine⟨.inr ⟨_,hi,h4⟩,fun ad' e=>(by cases e;exact hnew _ k hi h4),fun i' f' hk'=> ?_⟩;obtain⟨g1,g2,g3,g4⟩:=hk';have hi':i'*z+f'<rows.length*z:=fI (Nat.add_lt_add_left g1 _) (by rw[←DJ];exact lI _ g2);exact inj g1 h1 (p.apart _ _ k (by rw[hlen];exact hi') (by rw[hlen];exact hi) g4 h4)
 ·intro i f tc ht
  obtain⟨h1,h2,h3⟩:=pg hw ht
  have hlt:i*z+f<vs.length:=by rw[hl,←hfl];exact(List.getElem?_eq_some_iff.1 h1).1
  have hv:vs[i*z+f]?=some (vs.getD (i*z+f) undef):=by simp[List.getD,aV hlt]
  have:=p.ok _ _ (ji h1 hv);simp only at this
  cases dp with
  |true=>
   simp only[if_true] at this;refine(aj.move this (fun k hk=>⟨hk,hmem k hk⟩) fun _ k hk=>Xd _ k (by rw[←hl];exact hlt) hk).mono fun k hk=>⟨h2,h3,rfl,hk⟩
  |false=>
   simp only[zc,if_false] at this;exact(aj.move this (fun k hk=>⟨hk,hmem k hk⟩) fun hm=>absurd rfl hm).kj fun k hk=>hk
end Go.T
namespace Go.T
variable {F : Nat → Prop} {A : Arg} {w0 w w' : World} {φ φ' : Fp} {st st' cG jL : TS} {tm ya : Array Value} {C : ic}
variable {R : Type} {cf : Cf} {lp : Lp} {Q : R → Prop}
theorem aG.R8 (h:aG F A w0 φ st tm w) (g:jR w w') {e:CE} {v:Value} (he:cj st.ob w φ e v):cj st.ob w' φ e v:=
 he.stay (fun k hk=>g.block k (h.sep.ro k hk).1) (fun d k hd hk=>g.block k (h.sep.lt h.frm.size hd hk)) fun o ho ad n c hv i v hc=>g.cell hc
theorem pk (w:World) (arr:Array Value) (t:TypeId) (j:Nat):(w.alloc (.cells arr t)).cell? ⟨w.heap.size,j,none⟩=arr[j]?:=by
 unfold World.cell?;simp only[heap_alloc_new]
 rfl
theorem lG (w:World) (arr:Array Value) (t:TypeId) (j:Nat):(w.alloc (.cells arr t)).frozen? ⟨w.heap.size,j,none⟩=false:=by
 unfold World.frozen?;simp only[heap_alloc_new];simp
theorem add_lit (b o j:Nat):(⟨b,o,none⟩:Addr).add j=⟨b,o+j,none⟩:=oF j rfl
theorem N5 (h:aG F A w0 φ st tm w) {d:Nat} (hw:r5 d=true) {cs:List CE} {arr:Array Value} {t:TypeId} (hc:Tu st.ob w φ cs arr):
 aG F A w0 (φ.box d ⟨w.heap.size,0,none⟩) (AU d cs st) tm (w.alloc (.cells arr t)):=by
 have g:=jR.alloc w (.cells arr t);refine(h.Kn g).AU hw rfl cY (fun o ho hS=> ?_) (fun hI=> ?_) (.inl h.frm.size) (fun b' cs' hb' _ e=> ?_) (fun j e he=> ?_) fun j hj=> ?_
 ·have:=(h.sep.fresh o _ ho hS).1;simp at this
 ·have:=(h.sep.ro _ hI).1;simp at this
 ·have:=(h.sep.spot b' cs' hb').2.1;rw[e] at this;simp at this
 ·obtain⟨x,h1,h2,h3⟩:=hc.2 j e he
  exact⟨x,by rw[add_lit,pk,ig];exact h1,h2,h.R8 g h3⟩
 ·rw[add_lit];exact lG _ _ _ _
theorem N6 (h0:aG F A w0 φ st tm w) (h:aG F A w0 φ st' tm w) {dp:Bool} {z:Nat} {rows:List (List TC)} {vs:List Value} {X:Nat→Nat→Prop} {Z G:Nat→Prop} {d:Nat}
 (p:hD w φ st st' (cP (if dp then .deep else .snap) rows.flatten vs) X Z) (hz:0<z) (sW: ∀r∈rows,r.length=z) (hl:vs.length=rows.length*z) {ad:Addr} {c:Nat} (hc:rows.length≤c) (QO:c≤maxLen) (hs:ad.spot=none)
 (hf:Ln F w0 w') (hsz:w.heap.size≤w'.heap.size) (hw: ∀k,k<w.heap.size→ ¬G k→w'.heap[k]?=w.heap[k]?) (hG: ∀k,G k→ ∃o,az st.ob o∧ ¬az st'.ob o∧φ.S o k)
 (WB: ∀k,Z k→ ¬G k∧k≠ad.block) (Uc: ∀i k,i<rows.length*z→X i k→ ¬G k∧k≠ad.block) (hb:(w.heap.size≤ad.block∧ad.block<w'.heap.size)∨ ∃o,az st.ob o∧ ¬az st'.ob o∧φ.S o ad.block)
 (hcell: ∀(j:Nat) (v:Value),vs[j]?=some v→w'.cell? (ad.add j)=some v) (hall: ∀j,j<c*z→(∃x,w'.cell? ⟨ad.block,ad.off+j,none⟩=some x)∧w'.frozen? ⟨ad.block,ad.off+j,none⟩=false) (Fg:1<z→ ∀i,w'.frozen? ⟨ad.block,i,none⟩=false) (hd:d<tm.size):
 Rel F A w0 (p8 d ⟨dp,z,rows⟩ st') (tm.setIfInBounds d (.slice (some ad) rows.length c)) w':=by
 have kI: ∀{k},(∃o,az st.ob o∧ ¬az st'.ob o∧φ.S o k)→ ¬φ.I k:=fun⟨o,a1,a2,a3⟩=>h0.sep.read o _ a1 a3
 have kS: ∀{k},(∃o,az st.ob o∧ ¬az st'.ob o∧φ.S o k)→ ∀o',az st'.ob o'→ ¬φ.S o' k:=fun⟨o,a1,a2,a3⟩ o' ho' hk=>by
  have:=h0.sep.apart o o' _ a1 (p.sub.dom ho') a3 hk;subst this;exact a2 ho'
 have kF: ∀{k},(∃o,az st.ob o∧ ¬az st'.ob o∧φ.S o k)→k<w.heap.size∧(w0.heap.size≤k∨F k):=fun⟨o,a1,a2,a3⟩=>h0.sep.fresh o _ a1 a3
 have kB: ∀{k},(∃o,az st.ob o∧ ¬az st'.ob o∧φ.S o k)→ ∀b cs,aa b st'.bx=some cs→(φ.β b).block≠k:=fun {k} ⟨o,a1,a2,a3⟩ b cs hb e=>by
  obtain⟨cs0,c0,_⟩:=p.sub.bx b cs hb
  cases xD:r5 b with
  |true=>exact(h0.sep.box b cs0 c0 xD).2.1 o a1 (by rw[e];exact a3)
  |false=>
   have h1:=h0.sep.iW _ ((h0.sep.spot b cs0 c0).2.2 xD);rw[e] at h1;rcases (h0.sep.fresh o k a1 a3).2 with h3|h3
   ·omega
   ·exact h1.2 h3
 have h1:=h.wrote (w':=w') [] (fun _ _=>False) Z G hf hsz hw (fun k hk=>(kF (hG k hk)).2) (fun k hk=>kI (hG k hk)) (fun k o hk ho _=>kS (hG k hk) o ho) (fun b cs hb hk=>kB (hG _ hk) b cs hb rfl)
  (fun o b' hb'=>by simp[aa] at hb')
  (fun k hk=>⟨fI (kF (p.srcZ k hk)).1 hsz,(kF (p.srcZ k hk)).2.elim .inl fun hF=> .inr (.inl hF),fun o ho _=>kS (p.srcZ k hk) o ho,fun b cs hb _=>kB (p.srcZ k hk) b cs hb⟩)
 have hlen:(cP (if dp then Mode.deep else .snap) rows.flatten vs).length=rows.length*z:=by rw[eX (by rw[bU sW,hl]),bU sW]
 have hrow:=p.row (w':=w') dp hz sW hl hc QO hs (fun i k hi hk=>(Uc i k hi hk).2)
  (fun k hk=>by
    rcases hk with hk|hk
    ·exact hw k (h0.sep.ro k hk).1 fun hg=>kI (hG k hg) hk
    ·exact hw k (kF (p.srcZ k hk)).1 (WB k hk).1)
  (fun i k hi hk=>hw k (kF (p.src i k (by rw[hlen];exact hi) hk).2).1 (Uc i k hi hk).1) hcell hall Fg
 have Xe: ¬φ.I ad.block:=fun hI=>by
  rcases hb with⟨hb,_⟩|hb
  ·have:=(h0.sep.ro _ hI).1;omega
  ·exact kI hb hI
 have h2:=h1.vz (o:=mF d 0 0) (b:=⟨dp,z,rows⟩) (by unfold mF;omega) hrow (fun k hk=>by
  rcases hk with rfl|⟨i,hi,hk⟩
  ·rcases hb with⟨b1,b2⟩|hb
   ·exact⟨b2,.inl (og h0.frm.size b1)⟩
   ·exact⟨fI (kF hb).1 hsz,(kF hb).2⟩
  ·have:=kF (p.src i k (by rw[hlen];exact hi) hk).2
   exact⟨fI this.1 hsz,this.2⟩)
  (fun k hk hI=>by
    rcases hk with rfl|⟨i,hi,hk⟩
    ·rcases hI with hI|hI
     ·exact Xe hI
     ·exact(WB _ hI).2 rfl
    ·have WC:=p.src i k (by rw[hlen];exact hi) hk
     rcases hI with hI|hI
     ·exact kI WC.2 hI
     ·exact WC.1 hI)
  (fun k o hk _ ho hS=>by
    have hS:φ.S o k:=hS;have ho:az st'.ob o:=ho;rcases hk with rfl|⟨i,hi,hk⟩
    ·rcases hb with⟨b1,_⟩|hb
     ·have:=(h.sep.fresh o _ ho hS).1;omega
     ·exact kS hb o ho hS
    ·exact kS (p.src i k (by rw[hlen];exact hi) hk).2 o ho hS)
  (fun b cs hb' xD hk=>by
    have hb':aa b st'.bx=some cs:=hb';rcases hk with e|⟨i,hi,hk⟩
    ·rcases hb with⟨b1,_⟩|hb
     ·have:=(h.sep.spot b cs hb').2.1
      have e:(φ.β b).block=ad.block:=e;omega
     ·exact kB hb b cs hb' e
    ·exact kB (p.src i _ (by rw[hlen];exact hi) hk).2 b cs hb' rfl)
 have h3:=h2.Fs (d:=d) (e:=one (.ref (mF d 0 0) none)) (v:= .slice (some ad) rows.length c) hd (Hg rfl ⟨⟨dp,z,rows⟩,by
  show aa _ (jr _ _ _)=_
  exact g6,by simp[Fp.add]⟩)
 exact⟨_,h3⟩
theorem MB (h:aG F A w0 φ st tm w) {dp:Bool} {z d:Nat} (hz:0<z) (hd:d<tm.size):Rel F A w0 (p8 d ⟨dp,z,[]⟩ st) (tm.setIfInBounds d (.slice none 0 0)) w:=by
 have h2:=h.vz (o:=mF d 0 0) (b:=⟨dp,z,[]⟩) (X:=AP) (v:= .slice none 0 0) (by unfold mF;omega) (qq hz) (fun k hk=>hk.elim) (fun k hk=>hk.elim) (fun k o hk=>hk.elim) (fun b cs _ _ hk=>hk)
 exact⟨_,h2.Fs (d:=d) (e:=one (.ref (mF d 0 0) none)) (v:= .slice none 0 0) hd (Hg rfl ⟨⟨dp,z,[]⟩,by
  show aa _ (jr _ _ _)=_
  exact g6,by simp[Fp.add]⟩)⟩
theorem aj.parts (h:aG F A w0 φ st tm w) {o:Nat} (ho:az st.ob o) {m M:Mode} {z:Nat} {rows:List (List TC)} {v:Value} (hr:aj w φ.I m (φ.S o) (.sub z rows) v) (hm:m≠ .snap) (hM:M= .snap∨M= .deep∧m= .deep):
 ∃vals X Z,vals.length=rows.length*z∧hD w φ st (iY o st) (cP M rows.flatten vals) X Z∧ ∀ad n c,v= .slice (some ad) n c→(∀(j:Nat) (x:Value),vals[j]?=some x→w.cell? (ad.add j)=some x)∧(∀i k,X i k→k≠ad.block)∧ ∀k,Z k→k≠ad.block:=by
 cases hr with
 |sub _ _ _ _ Ad c u T k hn=>
  have hz:=k.z0;have sW:=k.width;have hsub:=cV.kill st o;have hfl:=bU sW
  have at_of: ∀{p:Nat} {tc:TC},rows.flatten[p]?=some tc→qm rows (p/z) (p % z)=some tc:=fun {p tc} hp=>by
   have hlt:p<rows.length*z:=by rw[←hfl];exact(List.getElem?_eq_some_iff.1 hp).1
   have hi:p/z<rows.length:=Nat.div_lt_of_lt_mul (by rw[Nat.mul_comm];exact hlt);have hrl:=sW _ (oe hi)
   have hf:p % z<(rows[p/z]).length:=by rw[hrl];exact Nat.mod_lt _ hz
   have h1:qm rows (p/z) (p % z)=some (rows[p/z][p % z]):=by simp[qm,aV hi,aV hf]
   have h2:=(pg sW h1).1;rw[ze p z] at h2;rw[h1,←h2,hp]
  have kg:az st.ob o∧ ¬az (iY o st).ob o:=⟨ho,fun hd=>(fX.1 hd).1 rfl⟩
  let vals:List Value:=(List.range (rows.length*z)).map fun p=>u (p/z) (p % z)
  have hvl:vals.length=rows.length*z:=by simp[vals]
  have hval: ∀{p:Nat} {x:Value},vals[p]?=some x→p<rows.length*z∧x=u (p/z) (p % z):=fun {p x} hp=>by
   have hlt:p<rows.length*z:=by rw[←hvl];exact(List.getElem?_eq_some_iff.1 hp).1
   refine⟨hlt,?_⟩;simp[vals,hlt] at hp;exact hp.symm
  have hcl:(cP M rows.flatten vals).length=rows.length*z:=by rw[eX (by rw[hfl,hvl]),hfl]
  have hmem: ∀ad n c',Value.slice Ad rows.length c= .slice (some ad) n c'→ ∀(j:Nat) (x:Value),vals[j]?=some x→w.cell? (ad.add j)=some x:=fun ad n c' e j x hx=>by
   cases e
   obtain⟨hlt,rfl⟩:=hval hx;obtain⟨tc,QS⟩: ∃tc,rows.flatten[j]?=some tc:=⟨_,aV (by rw[hfl];exact hlt)⟩;have:=k.cell ad rfl _ _ tc (at_of QS);rw[ze j z] at this;exact this
  by_cases GU:M= .deep
  ·subst GU
   have Iq:m= .deep:=by
    rcases hM with e|⟨_,e⟩
    ·cases e
    ·exact e
   subst Iq;refine⟨vals,fun p b=>p<rows.length*z∧T (p/z) (p % z) b,fun _=>False,hvl,⟨fun i it hi=> ?_,fun i b hi hb=> ?_,fun b hb=>hb.elim,fun i j b hi hj hb hb'=> ?_,hsub⟩,fun ad n c' e=>⟨hmem ad n c' e,fun i b hb=> ?_,fun b hb=>hb.elim⟩⟩
   ·obtain⟨tc,x,h1,h2,rfl⟩:=iQ hi
    obtain⟨hlt,rfl⟩:=hval h2;exact((hn _ _ tc (at_of h1)).jS fun b hb=> .inl hb).mono fun b hb=>⟨hlt,hb⟩
   ·exact⟨id,o,kg.1,kg.2,(k.kz rfl _ _ b hb.2).1⟩
   ·obtain⟨e1,e2⟩:=(k.kz rfl _ _ b hb.2).2.2 _ _ hb'.2
    rw[←ze i z,←ze j z,e1,e2]
   ·cases e
    exact(k.kz rfl _ _ b hb.2).2.1 ad rfl
  ·have VU:M= .snap:=hM.elim id fun⟨e,_⟩=>absurd e GU
   subst VU;refine⟨vals,fun _ _=>False,fun b=>m= .deep∧ ∃i f,T i f b,hvl,⟨fun i it hi=> ?_,fun i b hi hb=>hb.elim,fun b hb=> ?_,fun i j b hi hj hb=>hb.elim,hsub⟩,fun ad n c' e=>⟨hmem ad n c' e,fun i b hb=>hb.elim,fun b hb=> ?_⟩⟩
   ·obtain⟨tc,x,h1,h2,rfl⟩:=iQ hi
    obtain⟨hlt,rfl⟩:=hval h2;exact(hn _ _ tc (at_of h1)).freeze (fun b hb=> .inl hb) fun hx b hb=> .inr ⟨oD hx,_,_,hb⟩
   ·obtain⟨Iq,i,f,hb⟩:=hb
    exact⟨o,kg.1,kg.2,(k.kz Iq _ _ b hb).1⟩
   ·cases e
    obtain⟨Iq,i,f,hb⟩:=hb;exact(k.kz Iq _ _ b hb).2.1 ad rfl
end Go.T
namespace Go.T
variable {F : Nat → Prop} {A : Arg} {w0 w w' : World} {φ φ' : Fp} {st st' cG jL : TS} {tm ya : Array Value} {C : ic}
variable {R : Type} {cf : Cf} {lp : Lp} {Q : R → Prop}
def Wr (st:TS) (φ:Fp) (l:List Nat) (k:Nat):Prop:=(∃b cs,2*b+1∈l∧aa b st.bx=some cs∧r5 b=true∧k=(φ.β b).block)∨ ∃o,2*o∈l∧az st.ob o∧φ.S o k
def J7 (C:ic) (F:Nat→Prop) (A:Arg) (w0:World) (φ:Fp) (st:TS) (o:Oper) (a:Act) (w:World) (K:TS→Ev R) (cf:Cf) (lp:Lp) (Q:R→Prop):Prop:=
 ∃nx v w' st',(execOp a.eval o).run C.P w= .ok nx w'∧(nx= .value v∨nx= .skip∧v=undef)∧Rel F A w0 st' (a.put o.dst v).tmps w'∧(K st').holds cf lp Q∧w.heap.size≤w'.heap.size∧
  ∀k,k<w.heap.size→ ¬Wr st φ (writes C st o) k→w'.heap[k]?=w.heap[k]?
theorem sv {i:gx} (h:rK i=true):known i=true∧ ∀e,i.ti≠ .ptr e:=by
 unfold rK at h;unfold known
 split at h<;>first|cases h|skip
 rename_i h1 h2;exact⟨by split<;>first|rfl|(rename_i e;exact absurd e h1),fun e he=>h2 e he⟩
theorem LD (hT:dN C) {a:Act} (h:aG F A w0 φ st a.tmps w) {o:Oper} {K:TS→Ev R} (hd: ∀d,o.dst=some d→d<a.tmps.size) (hk:(Ga C st o K).holds cf lp Q):J7 C F A w0 φ st o a w K cf lp Q:=by
 unfold Ga at hk
 cases gC:o.dst with
 |none=>rw[gC] at hk;exact hk.elim
 |some d=>
  rw[gC] at hk;obtain⟨v,e,h1,h2,h3,_⟩:=Ja hT h hk;exact⟨_,v,w,_,h1,.inl rfl,⟨φ,by rw[gC];exact h.Fs (hd d gC) h2⟩,h3,cc _,fun _ _ _=>rfl⟩
theorem N7 (hT:dN C) {a:Act} (h:aG F A w0 φ st a.tmps w) {o:Oper} {t:TypeId} (ho:o.op= .alloc t) {K:TS→Ev R} (hd: ∀d,o.dst=some d→d<a.tmps.size) (hk:(jQ C st o K).holds cf lp Q):J7 C F A w0 φ st o a w K cf lp Q:=by
 unfold jQ at hk;rw[ho] at hk;simp only at hk
 split at hk
 ·rename_i d gC hp
  split at hk
  ·rename_i hw
   obtain⟨hkn,hnp⟩:=sv hp;obtain⟨i,z,h1,h2,h3,h4,h5⟩:=Hq (w:=w) (φ:=φ) hT hkn hnp (ob:=st.ob)
   have hn:=(N5 h hw (t:=t) h4).Fs (d:=d) (e:= .bp d 0) (v:= .pointer (some ⟨w.heap.size,0,none⟩)) (hd d gC) (by
    show _=Value.pointer (some (((φ.box d ⟨w.heap.size,0,none⟩).β d).add 0))
    rw[o9,Addr.add_zero'])
   refine⟨.value (.pointer (some ⟨w.heap.size,0,none⟩)),_,_,_,?_,.inl rfl,⟨_,by rw[gC];exact hn⟩,hk,by simp,fun k hk _=>(jR.alloc w _).block k hk⟩;unfold execOp;rw[ho];simp[Instr.alloc,zeroValue,typeInfo,h1,h3,newVar,newRow]
  ·exact hk.elim
 ·exact hk.elim
theorem R9 (hT:dN C) {a:Act} (h:aG F A w0 φ st a.tmps w) {o:Oper} {t:TypeId} {x:Operand} (ho:o.op= .box t x) {K:TS→Ev R} (hd: ∀d,o.dst=some d→d<a.tmps.size) (hk:(jQ C st o K).holds cf lp Q):J7 C F A w0 φ st o a w K cf lp Q:=by
 unfold jQ at hk;rw[ho] at hk;simp only at hk
 split at hk
 ·rename_i d cs gC hc
  split at hk
  ·rename_i hw
   have hcs:=mP (cU hT h t x) hc
   have hn:=(N5 h hw (t:=t) (arr:=(a.eval x).cells) hcs).Fs (d:=d) (e:= .bp d 0) (v:= .pointer (some ⟨w.heap.size,0,none⟩)) (hd d gC) (by
    show _=Value.pointer (some (((φ.box d ⟨w.heap.size,0,none⟩).β d).add 0))
    rw[o9,Addr.add_zero'])
   refine⟨.value (.pointer (some ⟨w.heap.size,0,none⟩)),_,_,_,?_,.inl rfl,⟨_,by rw[gC];exact hn⟩,hk,by simp,fun k hk _=>(jR.alloc w _).block k hk⟩;unfold execOp;rw[ho];simp[Instr.box,newVar,newRow]
  ·exact hk.elim
 ·exact hk.elim
theorem zI {P:Program} {tt:TypeId→gx} {t:TypeId} (h:xd P tt t) {ad:Addr} (hs:ad.spot=none) {v:Value} (hv:v.cells.size=(tt t).size) (h1: ∀x∈v.cells.toList,x.oneCell'=true)
 (hc: ∀j,j<v.cells.size→(w.cell? (ad.add j)).isSome=true∧w.frozen? (ad.add j)=false):(Instr.storeAt t (.pointer (some ad)) v).run P w= .ok () (w.setCells ad.block ad.off v.cells.toList):=by
 obtain⟨i,z,g1,g2,_⟩:=h.info;have BV: ∀j,ad.add j=⟨ad.block,ad.off+j,none⟩:=fun j=>oF j hs;have hst:=run_storeCells_cells (P:=P) ad.block ad.off v.cells.toList 0 w (fun j hj=>by rw[nw,←BV];exact(hc j (by simpa using hj)).1) (fun j hj=>by rw[nw,←BV];exact(hc j (by simpa using hj)).2) h1
 have had:(⟨ad.block,ad.off,none⟩:Addr)=ad:=by cases ad;simp_all
 rw[had,nw] at hst;simp only[Instr.storeAt,Instr.sureAddr,storeVar,sizeOf,typeInfo,Sem.run_bind,Sem.run_pure,Result.andThen];simp[g1,g2,hv,hst]
theorem xN: ∀{cs:List CE},Dw cs=false→ ∀e∈cs,e≠ .gone
 |[],_,e,he=>by cases he
 |c::r,h,e,he=>by
  cases c with
  |gone=>cases h
  |_=>
   rcases cz.1 he with rfl|he
   ·simp
   ·exact xN (cs:=r) h e he
theorem xe.one {cs:List CE} {v:Value} (h:xe st.ob w φ cs v) (hb: ∀o b,aa o st.ob=some b→iZ w φ o b) (hg:Dw cs=false): ∀x∈v.cells.toList,x.oneCell'=true:=by
 intro x hx;obtain⟨j,hj,rfl⟩:=List.mem_iff_getElem.1 hx
 have hj':j<cs.length:=by rw[←h.1];simpa using hj
 obtain⟨y,h1,_,h3⟩:=h.2 j _ (aV hj')
 have VV:j<v.cells.size:=by simpa using hj
 rw[oX VV] at h1;simp only[aY] at h1;rw[Array.getElem_toList,h1];exact MA h3 (xN hg _ (oe hj')) hb
theorem LF {α:Type} {old cs:List α} {off j:Nat} {e:α} (h:(old.take off++cs++old.drop (off+cs.length))[j]?=some e) (hle:off+cs.length≤old.length):
 (off≤j∧j<off+cs.length∧cs[j-off]?=some e)∨((j<off∨off+cs.length≤j)∧old[j]?=some e):=by
 have hto:(old.take off).length=off:=by rw[e9];omega
 rw[tY] at h
 by_cases h1:j<off
 ·rw[iJ ay,BW,bg h1] at h
  exact .inr ⟨.inl h1,h⟩
 ·rw[jx ay,hto] at h
  by_cases h2:j<off+cs.length
  ·rw[iJ ay] at h
   exact .inl ⟨by omega,h2,h⟩
  ·rw[jx ay,kE,show off+cs.length+(j-off-cs.length)=j by omega] at h
   exact .inr ⟨.inr ay,h⟩
theorem ym {α:Type} {old cs:List α} {off:Nat} (hle:off+cs.length≤old.length):(old.take off++cs++old.drop (off+cs.length)).length=old.length:=by
 simp only[cT,e9,jy];omega
theorem Jg {a:Act} (hT:dN C) (h:aG F A w0 φ st a.tmps w) {o:Oper} {t:TypeId} {p x:Operand} (ho:o.op= .store t p x) (gC:o.dst=none) {cs:List CE} (hkn:known (C.tt t)=true) (hcs:xe st.ob w φ cs (a.eval x))
 (hsz:cs.length=(C.tt t).size) {b off:Nat} (hp:lX C st 0 p= .bp b off) {st':TS} (hs:DO b off cs st=some st') {K:TS→Ev R} (hk:(K st').holds cf lp Q):J7 C F A w0 φ st o a w K cf lp Q:=by
 unfold DO at hs
 split at hs
 ·rename_i old hb
  split at hs
  ·rename_i WD hle
   cases hs
   have hle:=lV hle;simp only[dm,qb] at WD;obtain⟨hw,hg⟩:=WD;have Ta:=cU hT h 0 p;rw[hp] at Ta;have Ta:a.eval p= .pointer (some ((φ.β b).add off)):=Ta;have nL:=(h.sep.spot b old hb).1 hw;have BV: ∀j,(φ.β b).add j=⟨(φ.β b).block,(φ.β b).off+j,none⟩:=fun j=>oF j nL;obtain⟨bx1,bx2,bx3,bx4⟩:=h.sep.box b old hb hw;have M8:(a.eval x).cells.size=cs.length:=hcs.1
   have hrun:=zI (w:=w) (hT t hkn) (ad:=(φ.β b).add off) (vK off nL) (v:=a.eval x) (by rw[M8,hsz]) (hcs.one h.obj hg) (fun j hj=>by
    rw[Addr.add_add]
    have hj:off+j<old.length:=by rw[M8] at hj;omega
    obtain⟨v,c1,_⟩:=h.box b old hb (off+j) _ (aV hj)
    exact⟨by rw[c1];rfl,h.sep.soft b old (off+j) hb hw hj⟩)
   rw[bO,BV off] at hrun;simp only at hrun;have yY: ∀k,k<w.heap.size→k≠(φ.β b).block→(w.setCells (φ.β b).block ((φ.β b).off+off) (a.eval x).cells.toList).heap[k]?=w.heap[k]?:=fun k hk hne=>dA _ _ _ _ hk hne;have hlt:(φ.β b).block<w.heap.size:=(h.sep.spot b old hb).2.1
   have hnew:=h.AT (w':=w.setCells (φ.β b).block ((φ.β b).off+off) (a.eval x).cells.toList) hb hw (ym hle) (h.frm.setCells bx3) (by rw[(iL _ _ _ _).2.2.2];exact cc _) yY
    (fun j hj=>by rw[World.frozen?_setCells];exact h.sep.soft b old j hb hw (by rw[ym hle] at hj;exact hj))
    (fun j e he=>by
      rcases LF he hle with⟨l1,l2,l3⟩|⟨l1,l2⟩
      ·obtain⟨y,y1,y2,y3⟩:=hcs.2 _ e l3
       have hin:=World.cell?_setCells_in (φ.β b).block (a.eval x).cells.toList ((φ.β b).off+off) w (fun j' hj'=>by
        have hj':j'<cs.length:=by rw[←M8];simpa using hj'
        obtain⟨v,c1,_⟩:=h.box b old hb (off+j') _ (aV ay);rw[BV] at c1
        rw[show(φ.β b).off+off+j'=(φ.β b).off+(off+j') by omega,c1];rfl) (j-off) (by rw[r6,M8];omega)
       refine⟨y,?_,y2,y3⟩;rw[BV,show(φ.β b).off+j=(φ.β b).off+off+(j-off) by omega,hin]
       have VV:j-off<(a.eval x).cells.size:=by rw[M8];omega
       rw[oX VV] at y1;rw[Array.getElem_toList,←y1]
      ·obtain⟨v,c1,c2,c3⟩:=h.box b old hb j e l2
       refine⟨v,?_,c2,c3⟩;rw[World.cell?_setCells_out]
       ·exact c1
       ·intro _ _
        rw[BV,r6,M8];simp only
        omega)
   refine⟨.skip,undef,_,_,?_,.inr ⟨rfl,rfl⟩,⟨φ,by rw[gC];exact hnew⟩,hk,by rw[(iL _ _ _ _).2.2.2];exact cc _,fun k hk QT=> ?_⟩
   ·unfold execOp
    rw[ho];simp only[Sem.run_bind,Ta,BV,hrun,Result.andThen]
    rfl
   ·refine yY k hk fun e=>QT (.inl ⟨b,old,?_,hb,hw,e⟩)
    unfold writes;rw[ho];simp only[hp];exact .head _
  ·cases hs
 ·cases hs
end Go.T
namespace Go.T
variable {F : Nat → Prop} {A : Arg} {w0 w w' : World} {φ φ' : Fp} {st st' cG jL : TS} {tm ya : Array Value} {C : ic}
variable {R : Type} {cf : Cf} {lp : Lp} {Q : R → Prop}
def kV (rows:List (List TC)) (i f:Nat) (cs:List TC):List (List TC):=match rows[i]? with
 |some r=>rows.set i (r.take f++cs++r.drop (f+cs.length))
 |none=>rows
attribute [local semireducible] setRow in
theorem mU (rows:List (List TC)) (i:Int) (f:Nat) (cs:List TC):setRow rows i f cs=kV rows i.toNat f cs:=rfl
theorem gi (rows:List (List TC)) (i f:Nat) (cs:List TC):(kV rows i f cs).length=rows.length:=by
 unfold kV;split<;>simp
theorem tg {rows:List (List TC)} {i f:Nat} {cs row:List TC} (hrow:rows[i]?=some row) (hf:f+cs.length≤row.length) {i' f':Nat} {tc:TC} (h:qm (kV rows i f cs) i' f'=some tc):
 (i'=i∧f≤f'∧f'<f+cs.length∧cs[f'-f]?=some tc)∨((i'≠i∨f'<f∨f+cs.length≤f')∧qm rows i' f'=some tc):=by
 unfold kV at h;simp only[hrow] at h
 by_cases hi:i'=i
 ·subst hi
  have hlt:=(List.getElem?_eq_some_iff.1 hrow).1;simp only[qm,List.getElem?_set_self hlt,Option.bind_some] at h;rcases LF h hf with⟨a,b,c⟩|⟨a,b⟩
  ·exact .inl ⟨rfl,a,b,c⟩
  ·exact .inr ⟨.inr a,by simp[qm,hrow,b]⟩
 ·simp only[qm,List.getElem?_set_ne (Ne.symm hi)] at h
  exact .inr ⟨.inl hi,h⟩
theorem zJ {z:Nat} {rows:List (List TC)} (hw: ∀r∈rows,r.length=z) {i f:Nat} {cs row:List TC} (hrow:rows[i]?=some row) (hf:f+cs.length≤row.length): ∀r∈kV rows i f cs,r.length=z:=by
 intro r hr;unfold kV at hr;simp only[hrow] at hr;rcases List.mem_or_eq_of_mem_set hr with hr|rfl
 ·exact hw r hr
 ·rw[ym hf];exact hw row (ew hrow)
theorem aj.mono' {w:World} {Rd S S':Nat→Prop} {m:Mode} {t:TC} {v:Value} (h:aj w Rd m S t v) (hS:m≠ .snap→ ∀b,S b→S' b):aj w Rd m S' t v:=by
 by_cases hm:m= .snap
 ·subst hm;exact h.kj fun _ h=>h
 ·exact h.mono (hS hm)
theorem aj.MC {w w':World} {Rd S:Nat→Prop} {t:TC} {v:Value} (h:aj w Rd .deep S t v) (hS: ∀b,S b→w'.heap[b]?=w.heap[b]?):aj w' Rd .deep S t v:=
 (((h.xM rfl:aj w AP .deep S t v).move (R':=AP) (fun _ h=>h.elim) fun _=>hS).xM rfl:aj w' Rd .deep S t v)
theorem aj.put {Rd S:Nat→Prop} {m:Mode} {z n c:Nat} {rows:List (List TC)} {ad:Addr} (h:aj w Rd m S (.sub z rows) (.slice (some ad) n c)) (hm:m≠ .snap) {i f:Nat} {ts row:List TC} (hrow:rows[i]?=some row) (hf:f+ts.length≤row.length)
 {vs:List Value} (hl:vs.length=ts.length) (h1: ∀v∈vs,v.oneCell'=true) {X:Nat→Nat→Prop} (hX: ∀(j:Nat) (t:TC) (v:Value),ts[j]?=some t→vs[j]?=some v→aj w Rd m.nx (X j) t v)
 (U2:m= .deep→ ∀j k,j<ts.length→X j k→ ¬S k∧ ∀j',j'<ts.length→X j' k→j'=j) (U3: ∀k,Rd k→k<w.heap.size∧k≠ad.block) (hS: ∀k,S k→k<w.heap.size) (Xf: ∀j k,j<ts.length→X j k→k<w.heap.size):
 ad.spot=none∧S ad.block∧(∀j,j<vs.length→(w.cell? (ad.add (i*z+f+j))).isSome=true∧w.frozen? (ad.add (i*z+f+j))=false)∧
 aj (w.setCells ad.block (ad.off+(i*z+f)) vs) Rd m (fun k=>S k∨(m= .deep∧ ∃j,j<ts.length∧X j k)) (.sub z (kV rows i f ts)) (.slice (some ad) n c):=by
 cases h with
 |sub _ _ _ _ _ _ u T k hn=>
  have hlt:=(List.getElem?_eq_some_iff.1 hrow).1;have hrl:=k.width row (ew hrow);obtain⟨Ry,nL,hall⟩:=(k.own hm).2 ad rfl;have BV: ∀j,ad.add j=⟨ad.block,ad.off+j,none⟩:=fun j=>oF j nL
  have inb: ∀j,j<ts.length→i*z+f+j<c*z:=fun j hj=>by
   have:i*z+f+j<(i+1)*z:=by rw[nv];omega
   exact fI this (lI _ (by have:=k.len;omega))
  have there: ∀j,j<vs.length→(w.cell? (ad.add (i*z+f+j))).isSome=true∧w.frozen? (ad.add (i*z+f+j))=false:=fun j hj=>by
   obtain⟨⟨x,hx⟩,hfz⟩:=hall (i*z+f+j) (inb j ay);rw[BV];exact⟨by rw[hx];rfl,hfz⟩
  have yY: ∀b,b<w.heap.size→b≠ad.block→(w.setCells ad.block (ad.off+(i*z+f)) vs).heap[b]?=w.heap[b]?:=fun b hb hne=>dA _ _ _ _ hb hne;have WE: ∀j b,j<ts.length→m= .deep→X j b→b≠ad.block:=fun j b hj Iq hb e=>(U2 Iq j b hj hb).1 (by rw[e];exact Ry)
  have hin: ∀j (hj:j<vs.length),(w.setCells ad.block (ad.off+(i*z+f)) vs).cell? (ad.add (i*z+f+j))=some vs[j]:=fun j hj=>by
   have:=World.cell?_setCells_in ad.block vs (ad.off+(i*z+f)) w (fun j' hj'=>by
    have:=(there j' hj').1;rw[BV] at this
    rw[show ad.off+(i*z+f)+j'=ad.off+(i*z+f+j') by omega];exact this) j hj
   rw[BV,show ad.off+(i*z+f+j)=ad.off+(i*z+f)+j by omega];exact this
  have hout: ∀p,(p<i*z+f∨i*z+f+vs.length≤p)→(w.setCells ad.block (ad.off+(i*z+f)) vs).cell? (ad.add p)=w.cell? (ad.add p):=fun p hp=>by
   refine World.cell?_setCells_out _ _ _ _ _ fun _ _=> ?_;rw[BV];simp only;omega
  refine⟨nL,Ry,there,?_⟩
  let inr:Nat→Nat→Prop:=fun i' f'=>i'=i∧f≤f'∧f'<f+ts.length
  have dec: ∀i' f',Decidable (inr i' f'):=fun _ _=>inferInstanceAs (Decidable (_∧_∧_))
  have key:=aj.sub (w:=w.setCells ad.block (ad.off+(i*z+f)) vs) (R:=Rd) m (fun b=>S b∨(m= .deep∧ ∃j,j<ts.length∧X j b)) z (kV rows i f ts) (some ad) c
   (fun i' f'=>if i'=i∧f≤f'∧f'<f+ts.length then vs.getD (f'-f) undef else u i' f') (fun i' f' b=>if i'=i∧f≤f'∧f'<f+ts.length then m= .deep∧X (f'-f) b else T i' f' b) ?_ ?_
  ·rw[gi] at key;exact key
  ·refine⟨by rw[gi];exact k.len,k.cap,k.z0,zJ k.width hrow hf,fun _=>⟨ad,rfl⟩,?_,fun e=>absurd e hm,fun _=>⟨fun e=>(by cases e),?_⟩,fun hm M6 ad' e i=>(by cases e;rw[World.frozen?_setCells];exact k.soft hm M6 ad rfl i),?_⟩
   ·intro ad' e i' f' tc ht
    cases e
    rcases tg hrow hf ht with⟨rfl,a,b,hc⟩|⟨hn',hc⟩
    ·rw[bg ⟨rfl,a,b⟩]
     have hj:f'-f<vs.length:=by omega
     have:=hin (f'-f) hj;rw[show i'*z+f+(f'-f)=i'*z+f' by omega] at this;rw[this];simp[List.getD,aV hj]
    ·rw[aR ay]
     rw[hout]
     ·exact k.cell ad rfl i' f' tc hc
     ·obtain⟨_,hf',_⟩:=pg k.width hc
      by_cases hi:i'=i
      ·subst hi;omega
      ·rcases Nat.lt_or_gt_of_ne hi with hi|hi
       ·left
        have:i'*z+z≤i*z:=by rw[←DJ];exact lI _ hi
        omega
       ·right
        have:i*z+z≤i'*z:=by rw[←DJ];exact lI _ hi
        omega
   ·intro ad' e
    cases e
    refine⟨.inl Ry,nL,fun j hj=> ?_⟩;obtain⟨⟨x,hx⟩,hfz⟩:=hall j hj;refine⟨?_,by rw[World.frozen?_setCells];exact hfz⟩;have:=World.isSome_setCells ad.block vs (ad.off+(i*z+f)) w ⟨ad.block,ad.off+j,none⟩ (by rw[hx];rfl);exact Option.isSome_iff_exists.1 this
   ·intro Iq i' f' b hb
    by_cases hr:i'=i∧f≤f'∧f'<f+ts.length
    ·rw[bg hr] at hb
     have hj:f'-f<ts.length:=by omega
     refine⟨.inr ⟨Iq,_,hj,hb.2⟩,fun ad' e=>(by cases e;exact WE _ b hj Iq hb.2),fun i2 f2 hb2=> ?_⟩
     by_cases GV:i2=i∧f≤f2∧f2<f+ts.length
     ·rw[bg GV] at hb2
      have:=(U2 Iq _ b hj hb.2).2 _ ay hb2.2;omega
     ·rw[aR GV] at hb2
      exact absurd (k.kz Iq i2 f2 b hb2).1 (U2 Iq _ b hj hb.2).1
    ·rw[aR hr] at hb
     obtain⟨d1,d2,d3⟩:=k.kz Iq i' f' b hb;refine⟨.inl d1,d2,fun i2 f2 hb2=> ?_⟩
     by_cases GV:i2=i∧f≤f2∧f2<f+ts.length
     ·rw[bg GV] at hb2
      exact absurd d1 (U2 Iq _ b ay hb2.2).1
     ·rw[aR GV] at hb2
      exact d3 i2 f2 hb2
  ·intro i' f' tc ht
   rcases tg hrow hf ht with⟨rfl,a,b',hc⟩|⟨hn',hc⟩
   ·rw[bg ⟨rfl,a,b'⟩]
    have hj:f'-f<vs.length:=by omega
    have hx:=hX (f'-f) tc vs[f'-f] hc (aV hj)
    have hv:vs.getD (f'-f) undef=vs[f'-f]:=by simp[List.getD,aV hj]
    rw[hv];refine(aj.move hx (fun b hb=>⟨hb,yY b (U3 b hb).1 (U3 b hb).2⟩) fun Ud b hb=>yY b (Xf _ b ay hb) (WE _ b ay (oD Ud) hb)).mono' fun Ud b hb=> ?_;rw[bg ⟨rfl,a,b'⟩];exact⟨oD Ud,hb⟩
   ·rw[aR ay]
    refine(aj.move (hn i' f' tc hc) (fun b hb=>⟨hb,yY b (U3 b hb).1 (U3 b hb).2⟩) fun Ud b hb=> ?_).mono fun b hb=>by rw[aR ay];exact hb
    obtain⟨d1,d2,_⟩:=k.kz (oD Ud) i' f' b hb;exact yY b (hS b d1) (d2 ad rfl)
theorem aj.inner {Rd S:Nat→Prop} {z n c:Nat} {rows:List (List TC)} {ad:Addr} (h:aj w Rd .deep S (.sub z rows) (.slice (some ad) n c)) {i f:Nat} {tc:TC} (ht:qm rows i f=some tc):
 ∃V1 T0,w.cell? (ad.add (i*z+f))=some V1∧aj w Rd .deep T0 tc V1∧(∀k,T0 k→S k∧k≠ad.block)∧S ad.block∧
  ∀(w':World) (tc':TC) (T1:Nat→Prop),aj w' Rd .deep T1 tc' V1→(∀k,S k→ ¬T0 k→w'.heap[k]?=w.heap[k]?)→(∀k,T1 k→T0 k∨ ¬S k)→
   aj w' Rd .deep (fun k=>(S k∧ ¬T0 k)∨T1 k) (.sub z (kV rows i f [tc'])) (.slice (some ad) n c):=by
 cases h with
 |sub _ _ _ _ _ _ u T k hn=>
  obtain⟨row,hrow,hfr⟩: ∃row,rows[i]?=some row∧row[f]?=some tc:=by
   unfold qm at ht
   cases hr:rows[i]? with
   |none=>rw[hr] at ht;cases ht
   |some row=>rw[hr] at ht;exact⟨row,rfl,ht⟩
  have hf:f+1≤row.length:=(List.getElem?_eq_some_iff.1 hfr).1;obtain⟨Ry,nL,hall⟩:=(k.own cY).2 ad rfl;have U4: ∀b,T i f b→S b∧b≠ad.block:=fun b hb=>⟨(k.kz rfl i f b hb).1,(k.kz rfl i f b hb).2.1 ad rfl⟩;refine⟨u i f,T i f,k.cell ad rfl i f tc ht,hn i f tc ht,U4,Ry,fun w' tc' T1 h1 hsame VW=> ?_⟩;have Fl:w'.heap[ad.block]?=w.heap[ad.block]?:=hsame _ Ry fun hb=>(U4 _ hb).2 rfl;have key:=aj.sub (w:=w') (R:=Rd) .deep (fun b=>(S b∧ ¬T i f b)∨T1 b) z (kV rows i f [tc']) (some ad) c u (fun i' f' b=>if i'=i∧f'=f then T1 b else T i' f' b) ?_ ?_
  ·rw[gi] at key;exact key
  ·refine⟨by rw[gi];exact k.len,k.cap,k.z0,zJ k.width hrow hf,fun _=>⟨ad,rfl⟩,?_,fun e=>(by cases e),fun _=>⟨fun e=>(by cases e),?_⟩,fun hm M6 ad' e i=>(by cases e;rw[gL (w:=w) (a:=⟨ad.block,i,none⟩) Fl];exact k.soft cY M6 ad rfl i),?_⟩
   ·intro ad' e i' f' t' ht'
    cases e
    rw[dy (w:=w) (by rw[bO];exact Fl)];rcases tg hrow hf ht' with⟨rfl,a,b,hc⟩|⟨_,hc⟩
    ·have:f'=f:=by simp at b;omega
     subst this;exact k.cell ad rfl _ _ tc ht
    ·exact k.cell ad rfl i' f' t' hc
   ·intro ad' e
    cases e
    refine⟨.inl ⟨Ry,fun hb=>(U4 _ hb).2 rfl⟩,nL,fun j hj=> ?_⟩;obtain⟨⟨x,hx⟩,hfz⟩:=hall j hj;exact⟨⟨x,by rw[dy (w:=w) (by exact Fl)];exact hx⟩,by rw[gL (w:=w) (by exact Fl)];exact hfz⟩
   ·intro _ i' f' b hb
    by_cases hr:i'=i∧f'=f
    ·rw[bg hr] at hb
     have hne:b≠ad.block:=fun e=>by
      subst e;rcases VW _ hb with h|h
      ·exact(U4 _ h).2 rfl
      ·exact h Ry
     refine⟨.inr hb,fun ad' e=>(by cases e;exact hne),fun i2 f2 hb2=> ?_⟩
     by_cases GV:i2=i∧f2=f
     ·exact⟨GV.1.trans hr.1.symm,GV.2.trans hr.2.symm⟩
     ·rw[aR GV] at hb2
      rcases VW _ hb with h|h
      ·have:=(k.kz rfl i2 f2 b hb2).2.2 i f h
       exact absurd ⟨this.1.symm,this.2.symm⟩ GV
      ·exact absurd (k.kz rfl i2 f2 b hb2).1 h
    ·rw[aR hr] at hb
     obtain⟨d1,d2,d3⟩:=k.kz rfl i' f' b hb;refine⟨.inl ⟨d1,fun hb0=>hr (by have:=d3 i f hb0;exact⟨this.1.symm,this.2.symm⟩)⟩,d2,fun i2 f2 hb2=> ?_⟩
     by_cases GV:i2=i∧f2=f
     ·rw[bg GV] at hb2
      rcases VW _ hb2 with h|h
      ·have:=d3 i f h
       exact absurd ⟨this.1.symm,this.2.symm⟩ hr
      ·exact absurd d1 h
     ·rw[aR GV] at hb2
      exact d3 i2 f2 hb2
  ·intro i' f' t' ht'
   rcases tg hrow hf ht' with⟨rfl,a,b,hc⟩|⟨hn',hc⟩
   ·have:f'=f:=by simp at b;omega
    subst this;simp at hc;subst hc
    exact h1.mono fun b hb=>by rw[bg ⟨rfl,rfl⟩];exact hb
   ·have hr: ¬(i'=i∧f'=f):=by simp at hn';omega
    refine(aj.MC (hn i' f' t' hc) fun b hb=> ?_).mono fun b hb=>by rw[aR hr];exact hb
    obtain⟨d1,d2,d3⟩:=k.kz rfl i' f' b hb;exact hsame b d1 fun hb0=>hr (by have:=d3 i f hb0;exact⟨this.1.symm,this.2.symm⟩)
end Go.T
namespace Go.T
variable {F : Nat → Prop} {A : Arg} {w0 w w' : World} {φ φ' : Fp} {st st' cG jL : TS} {tm ya : Array Value} {C : ic}
variable {R : Type} {cf : Cf} {lp : Lp} {Q : R → Prop}
structure mG (F:Nat→Prop) (w0 w:World) (φ:Fp) (st:TS) (k:Nat):Prop where
 lt:k<w.heap.size
 new:w0.heap.size≤k∨F k
 I: ¬φ.I k
 S: ∀o,az st.ob o→ ¬φ.S o k
 B: ∀b cs,aa b st.bx=some cs→(φ.β b).block≠k
theorem aG.ju (h:aG F A w0 φ st tm w) {o k:Nat} (ho:az st.ob o) (hk:φ.S o k) {b:Nat} {cs:List CE} (hb:aa b st.bx=some cs):(φ.β b).block≠k:=fun e=>by
 subst e
 cases xD:r5 b with
 |true=>exact(h.sep.box b cs hb xD).2.1 o ho hk
 |false=>
  have h1:=h.sep.iW _ ((h.sep.spot b cs hb).2.2 xD);rcases (h.sep.fresh o _ ho hk).2 with h3|h3
  ·omega
  ·exact h1.2 h3
theorem aG.free (h:aG F A w0 φ st tm w) (hs:cV st' st) {k:Nat} (hk: ∃o,az st.ob o∧ ¬az st'.ob o∧φ.S o k):mG F w0 w φ st' k:=by
 obtain⟨o,a1,a2,a3⟩:=hk
 exact⟨(h.sep.fresh o k a1 a3).1,(h.sep.fresh o k a1 a3).2,h.sep.read o k a1 a3,fun o' ho' hk=>by
  have:=h.sep.apart o o' k a1 (hs.dom ho') a3 hk
  subst this;exact a2 ho',fun b cs hb=>by
  obtain⟨cs0,c0,_⟩:=hs.bx b cs hb
  exact h.ju a1 a3 c0⟩
theorem Jh (h:aG F A w0 φ st tm w) (h1:aG F A w0 φ cG tm w) {cv:List It} {X:Nat→Nat→Prop} {Zp:Nat→Prop} (p:hD w φ st cG cv X Zp) {r:Nat} {B b':OB} (hr:aa r cG.ob=some B) (hz:b'.z=B.z) (hl:b'.rows.length=B.rows.length)
 {Zt Xr:Nat→Prop} {gb off:Nat} {vs:List Value} (hg:φ.S r gb) (Xg: ∀k,Xr k→ ¬Zt k∧(φ.S r k∨ ∃j,j<cv.length∧X j k)) (Xh: ∀k,Zt k→Zp k∨φ.S r k)
 (hc:aj (w.setCells gb off vs) (fun k=>φ.I k∨Zt k) b'.m Xr (.sub b'.z b'.rows) (φ.V r)):Rel F A w0 (nN [(r,b')] cG) tm (w.setCells gb off vs):=by
 have hin:az cG.ob r:=⟨_,hr⟩;have hsize:=(iL gb vs off w).2.2.2
 have lookW: ∀{o b},aa o [(r,b')]=some b→o=r∧b=b':=fun {o b} ho=>by
  simp only[aa] at ho
  cases hb:Nat.beq r o with
  |true=>rw[hb] at ho;cases ho;exact⟨(eD hb).symm,rfl⟩
  |false=>rw[hb] at ho;cases ho
 have neW: ∀{o},aa o [(r,b')]=none→o≠r:=fun {o} ho e=>by subst e;simp[aa] at ho
 have frS: ∀{k},φ.S r k→k<w.heap.size∧(w0.heap.size≤k∨F k)∧ ¬φ.I k∧(∀d,az cG.ob d→aa d [(r,b')]=none→ ¬φ.S d k)∧ ∀b cs,aa b cG.bx=some cs→(φ.β b).block≠k:=fun {k} hk=>
  ⟨(h1.sep.fresh r k hin hk).1,(h1.sep.fresh r k hin hk).2,h1.sep.read r k hin hk,fun d hd hn hk'=>neW hn (h1.sep.apart d r k hd hin hk' hk),fun b cs hb=>h1.ju hin hk hb⟩
 refine⟨_,h1.wrote (w':=w.setCells gb off vs) [(r,b')] (fun _ k=>Xr k) Zt (fun k=>k=gb) (h1.frm.setCells (frS hg).2.1) (by rw[hsize];exact cc _) (fun k hk hn=>dA _ _ _ _ hk hn)
  (fun k e=>by subst e;exact(frS hg).2.1) (fun k e=>by subst e;exact(frS hg).2.2.1) (fun k o e ho hn=>by subst e;exact(frS hg).2.2.2.1 o ho hn) (fun b cs hb e=>(frS hg).2.2.2.2 b cs hb e) (fun o b ho=> ?_) (fun k hk=> ?_)⟩
 ·obtain⟨rfl,rfl⟩:=lookW ho
  refine⟨B,hr,hz,hl,hc,fun k hk=> ?_⟩;obtain⟨x1,x2⟩:=Xg k hk;rcases x2 with x2|⟨j,hj,x2⟩
  ·obtain⟨f1,f2,f3,f4,f5⟩:=frS x2
   exact⟨by rw[hsize];exact f1,f2,f3,x1,f4,fun d b hb _=>(lookW hb).1,fun b cs hb _=>f5 b cs hb⟩
  ·have fr:=h.free p.sub (p.src j k hj x2).2
   exact⟨by rw[hsize];exact fr.lt,fr.new,fr.I,x1,fun d hd _=>fr.S d hd,fun d b hb _=>(lookW hb).1,fun b cs hb _=>fr.B b cs hb⟩
 ·rcases Xh k hk with hz|hz
  ·have fr:=h.free p.sub (p.srcZ k hz)
   exact⟨by rw[hsize];exact fr.lt,fr.new.elim .inl fun hF=> .inr (.inl hF),fun d hd _=>fr.S d hd,fun b cs hb _=>fr.B b cs hb⟩
  ·obtain⟨f1,f2,f3,f4,f5⟩:=frS hz
   exact⟨by rw[hsize];exact f1,f2.elim .inl fun hF=> .inr (.inl hF),f4,fun b cs hb _=>f5 b cs hb⟩
theorem yo {a:Act} (hT:dN C) (h:aG F A w0 φ st a.tmps w) {o:Oper} {t:TypeId} {q x:Operand} (ho:o.op= .store t q x) (gC:o.dst=none) {cs:List CE} (hkn:known (C.tt t)=true) (hcs:xe st.ob w φ cs (a.eval x))
 (hsz:cs.length=(C.tt t).size) {r:Nat} {path:Option (Int×Nat)} {i:Int} {f:Nat} (hq:lX C st 0 q= .er r path i f) {K:TS→Ev R} (hk:(zj r path i f cs st K).holds cf lp Q):J7 C F A w0 φ st o a w K cf lp Q:=by
 have Ue:=cU hT h 0 q;rw[hq] at Ue;obtain⟨b,hb,hi,ad,n,c,hV,Rz⟩:=Ue;unfold zj at hk
 split at hk
 ·rename_i ts cG d1 hab
  split at hk
  ·rename_i d z rows IB
   have vlen:(a.eval x).cells.toList.length=cs.length:=by simpa using hcs.1
   have hce: ∀(j:Nat) (e:CE),cs[j]?=some e→ ∃v,(a.eval x).cells.toList[j]?=some v∧cj st.ob w φ e v:=fun j e he=>by
    obtain⟨y,y1,_,y3⟩:=hcs.2 j e he;exact⟨y,by simpa using y1,y3⟩
   have fin: ∀{ad':Addr} {b':OB},a.eval q= .pointer (some ad')→ad'.spot=none→(∀j,j<(a.eval x).cells.size→(w.cell? (ad'.add j)).isSome=true∧w.frozen? (ad'.add j)=false)→(∀y∈(a.eval x).cells.toList,y.oneCell'=true)→φ.S r ad'.block→
    Rel F A w0 (nN [(r,b')] cG) a.tmps (w.setCells ad'.block ad'.off (a.eval x).cells.toList)→(K (nN [(r,b')] cG)).holds cf lp Q→J7 C F A w0 φ st o a w K cf lp Q:=fun {ad' b'} hv hs hc h1 hS pZ hk=>by
    have hrun:=zI (w:=w) (hT t hkn) hs (v:=a.eval x) (by rw[hcs.1,hsz]) h1 hc;refine⟨.skip,undef,_,_,?_,.inr ⟨rfl,rfl⟩,by rw[gC];exact pZ,hk,by rw[(iL _ _ _ _).2.2.2];exact cc _,fun k hk QT=> ?_⟩
    ·unfold execOp
     rw[ho];simp only[Sem.run_bind,hv,hrun,Result.andThen]
     rfl
    ·refine dA _ _ _ _ hk fun e=>QT (.inr ⟨r,?_,⟨b,hb⟩,by rw[e];exact hS⟩)
     unfold writes;rw[ho];simp only[hq];exact .head _
   have one: ∀{M:Mode} {X:Nat→Nat→Prop} {Z:Nat→Prop},ts.length=cs.length→hD w φ st cG (cP M ts (a.eval x).cells.toList) X Z→ ∀y∈(a.eval x).cells.toList,y.oneCell'=true:=fun {M X Z} hl p y hy=>by
    obtain⟨j,hj,rfl⟩:=List.mem_iff_getElem.1 hy;exact mT (p.ok j _ (ji (aV ay) (aV hj)))
   cases path with
   |none=>
    simp only at hk;obtain⟨row,hrow,hk⟩:=hk;obtain⟨_,hrow⟩:=lF hrow;simp only at hk
    split at hk
    ·rename_i hle
     have hle:=lV hle
     obtain⟨h1,hl,hsub,os,tk⟩:=xh (if d&&d1 then .deep else .snap) cs st _ ts cG d1 h (cV.refl _) vlen hce (by
      cases hd:d&&d1 with
      |true=>simp only[dm] at hd;exact .inr ⟨hd.2,rfl⟩
      |false=>exact .inl rfl) hab
     obtain⟨X,Zp,p⟩:=tk.parts h;have:=hsub.ob r _ IB;rw[hb] at this
     cases this
     have hO:=h1.obj r _ IB;unfold iZ at hO;rw[hV] at hO;have hin:az cG.ob r:=⟨_,IB⟩;have hlen:(cP (if(d&&d1)=true then Mode.deep else .snap) ts (a.eval x).cells.toList).length=ts.length:=eX ay;have itm: ∀(j:Nat) (tc:TC) (v:Value),ts[j]?=some tc→(a.eval x).cells.toList[j]?=some v→aj w (fun k=>φ.I k∨Zp k) (if(d&&d1)=true then Mode.deep else .snap) (X j) tc v:=fun j tc v e1 e2=>p.ok j _ (ji e1 e2);have Ff:a.eval q= .pointer (some (ad.add (i.toNat*z+f))):=Rz
     obtain⟨Zt,Sr,g1,g2,g3,g4,g5⟩: ∃Zt Sr:Nat→Prop,aj w (fun k=>φ.I k∨Zt k) (OB.m ⟨d&&d1,z,setRow rows i f ts⟩) Sr (.sub z rows) (.slice (some ad) n c)∧(∀k,Sr k→φ.S r k∧ ¬Zt k)∧(∀k,Zt k→(Zp k∨φ.S r k)∧k≠ad.block)∧
      (∀(j:Nat) (tc:TC) (v:Value),ts[j]?=some tc→(a.eval x).cells.toList[j]?=some v→aj w (fun k=>φ.I k∨Zt k) (OB.m ⟨d&&d1,z,setRow rows i f ts⟩).nx (X j) tc v)∧((d&&d1)=true→ ∀k,Zt k→Zp k):=by
      have adS:φ.S r ad.block:=by
       cases hO with
       |sub _ _ _ _ _ _ u T k hn=>exact(k.own (by unfold OB.m;split<;>simp)).2 ad rfl|>.1
      have zpn: ∀k,Zp k→k≠ad.block:=fun k hk e=>(h.free p.sub (p.srcZ k hk)).S r hin (by rw[e];exact adS)
      cases hd:d&&d1 with
      |true=>
       rw[hd] at itm
       have Mg:d=true:=by simp only[dm] at hd;exact hd.1
       subst Mg;refine⟨Zp,φ.S r,hO.jS fun k hk=> .inl hk,fun k hk=>⟨hk,fun hz=>(h.free p.sub (p.srcZ k hz)).S r hin hk⟩,fun k hk=>⟨.inl hk,zpn k hk⟩,itm,fun _ k hk=>hk⟩
      |false=>
       rw[hd] at itm;refine⟨fun k=>Zp k∨(φ.S r k∧ ¬D5 .top (.slice (some ad) n c) (φ.S r) k),D5 .top (.slice (some ad) n c) (φ.S r),?_,fun k hk=>⟨hk.1,fun hz=> ?_⟩,fun k hk=> ?_,fun j tc v e1 e2=> ?_,fun e=>by cases e⟩
       ·exact hO.out (m:= .top) (by unfold OB.m;split<;>simp) (fun e=>by cases e) (fun k hk=> .inl hk) fun k hk hn=> .inr (.inr ⟨hk,hn⟩)
       ·rcases hz with hz|hz
        ·exact(h.free p.sub (p.srcZ k hz)).S r hin hk.1
        ·exact hz.2 hk
       ·rcases hk with hk|hk
        ·exact⟨.inl hk,zpn k hk⟩
        ·exact⟨.inr hk.1,fun e=>hk.2 ⟨hk.1,ad,n,c,rfl,e⟩⟩
       ·exact(itm j tc v e1 e2).kj (S':=X j) fun k hk=>hk.elim .inl fun h=> .inr (.inl h)
     obtain⟨ps,pS,pt,pc⟩:=g1.put (by unfold OB.m;split<;>simp) hrow hle (vs:=(a.eval x).cells.toList) ay (one hl p) g4 (fun Iq j k hj hk=>by
      obtain⟨s1,s2⟩:=p.src j k (by rw[hlen];exact hj) hk
      exact⟨fun hS=>(h.free p.sub s2).S r hin (g2 k hS).1,fun j' hj' hk'=>p.apart _ _ k (by rw[hlen];exact hj') (by rw[hlen];exact hj) hk' hk⟩)
      (fun k hk=>by
        rcases hk with hk|hk
        ·refine⟨(h.sep.ro k hk).1,fun e=> ?_⟩
         have adS:φ.S r ad.block:=by
          cases hO with
          |sub _ _ _ _ _ _ u T k hn=>exact(k.own (by unfold OB.m;split<;>simp)).2 ad rfl|>.1
         exact h1.sep.read r _ hin adS (by rw[←e];exact hk)
        ·refine⟨?_,(g3 k hk).2⟩
         rcases (g3 k hk).1 with hz|hz
         ·exact(h.free p.sub (p.srcZ k hz)).lt
         ·exact(h1.sep.fresh r k hin hz).1)
      (fun k hk=>(h1.sep.fresh r k hin (g2 k hk).1).1) (fun j k hj hk=>(h.free p.sub (p.src j k (by rw[hlen];exact hj) hk).2).lt)
     refine fin Ff (vK _ ps) (fun j hj=>by rw[Addr.add_add];exact pt j (by simpa using hj)) (one hl p) (by rw[bO];exact(g2 _ pS).1) ?_ hk;rw[bO,oF _ ps];refine Jh h h1 p IB (b':=⟨d&&d1,z,setRow rows i f ts⟩) rfl (by simp only[mU,gi]) (g2 _ pS).1 (Zt:=Zt) (Xr:=fun k=>Sr k∨((OB.m ⟨d&&d1,z,setRow rows i f ts⟩)= .deep∧ ∃j,j<ts.length∧X j k)) (fun k hk=> ?_) (fun k hk=>(g3 k hk).1) ?_
     ·rcases hk with hk|⟨Iq,j,hj,hk⟩
      ·exact⟨(g2 k hk).2,.inl (g2 k hk).1⟩
      ·refine⟨fun hz=> ?_,.inr ⟨j,by rw[hlen];exact hj,hk⟩⟩
       have Mg:(d&&d1)=true:=by
        unfold OB.m at Iq
        cases hd:d&&d1 with
        |true=>rfl
        |false=>simp[hd] at Iq
       exact(p.src j k (by rw[hlen];exact hj) hk).1 (g5 Mg k hz)
     ·show aj _ _ (OB.m ⟨d&&d1,z,setRow rows i f ts⟩) _ (.sub z (setRow rows i f ts)) _
      rw[hV,mU];exact pc
    ·exact hk.elim
   |some pq=>
    obtain⟨i0,f0⟩:=pq;simp only at hk
    split at hk
    ·obtain⟨row0,Pk,hk⟩:=hk
     obtain⟨_,Pk⟩:=lF Pk;simp only at hk
     split at hk
     ·rename_i z1 kR SF
      obtain⟨row,hrow,hk⟩:=hk;obtain⟨_,hrow⟩:=lF hrow;simp only at hk
      split at hk
      ·rename_i hle
       have hle:=lV hle;obtain⟨h1,hl,hsub,os,tk⟩:=xh .deep cs st _ ts cG true h (cV.refl _) vlen hce (.inr ⟨rfl,rfl⟩) hab;obtain⟨X,Zp,p⟩:=tk.parts h;have:=hsub.ob r _ IB;rw[hb] at this
       cases this
       have hO:=h1.obj r _ IB;unfold iZ at hO;rw[hV] at hO;have hin:az cG.ob r:=⟨_,IB⟩;have hlen:(cP Mode.deep ts (a.eval x).cells.toList).length=ts.length:=eX ay;obtain⟨_,z1',rows1',T6,ad1,n1,c1,hcell,Ta⟩:=Rz;have WG:qm rows i0.toNat f0=some (.sub z1 kR):=oG Pk SF;rw[WG] at T6
       cases T6
       obtain⟨V1,T0,v1,v2,v3,v4,v5⟩:=aj.inner (hO.jS (R':=fun k=>φ.I k∨Zp k) fun k hk=> .inl hk:aj w (fun k=>φ.I k∨Zp k) .deep (φ.S r) (.sub z rows) (.slice (some ad) n c)) WG
       have:V1= .slice (some ad1) n1 c1:=by have hh:=v1.symm.trans hcell;simpa using hh
       subst this;have XS: ∀j k,j<ts.length→X j k→ ¬φ.S r k:=fun j k hj hk=>(h.free p.sub (p.src j k (by rw[hlen];exact hj) hk).2).S r hin
       have ad1S:T0 ad1.block:=by
        cases v2 with
        |sub _ _ _ _ _ _ u T k hn=>exact(k.own cY).2 ad1 rfl|>.1
       obtain⟨ps,pS,pt,pc⟩:=v2.put cY hrow hle (vs:=(a.eval x).cells.toList) ay (one hl p) (X:=X) (fun j tc v e1 e2=>p.ok j _ (ji e1 e2)) (fun _ j k hj hk=>
        ⟨fun hS=>XS j k hj hk (v3 k hS).1,fun j' hj' hk'=>p.apart _ _ k (by rw[hlen];exact hj') (by rw[hlen];exact hj) hk' hk⟩)
        (fun k hk=>by
          rcases hk with hk|hk
          ·exact⟨(h.sep.ro k hk).1,fun e=>h1.sep.read r _ hin (v3 _ ad1S).1 (by rw[←e];exact hk)⟩
          ·have fr:=h.free p.sub (p.srcZ k hk)
           exact⟨fr.lt,fun e=>fr.S r hin (by rw[e];exact(v3 _ ad1S).1)⟩)
        (fun k hk=>(h1.sep.fresh r k hin (v3 k hk).1).1) (fun j k hj hk=>(h.free p.sub (p.src j k (by rw[hlen];exact hj) hk).2).lt)
       have Ff:a.eval q= .pointer (some (ad1.add (i.toNat*z1+f))):=Ta;refine fin Ff (vK _ ps) (fun j hj=>by rw[Addr.add_add];exact pt j (by simpa using hj)) (one hl p) (by rw[bO];exact(v3 _ ad1S).1) ?_ hk;rw[bO,oF _ ps]
       have hnew:=v5 _ _ _ pc (fun k hk hn=>dA _ _ _ _ (h1.sep.fresh r k hin hk).1 fun e=>hn (by rw[e];exact ad1S)) (fun k hk=>by
        rcases hk with hk|⟨_,j,hj,hk⟩
        ·exact .inl hk
        ·exact .inr (XS j k hj hk))
       refine Jh h h1 p IB (b':=⟨true,z,setRow rows i0 f0 [.sub z1 (setRow kR i f ts)]⟩) rfl (by simp only[mU,gi]) (v3 _ ad1S).1 (Zt:=Zp) (Xr:=fun k=>(φ.S r k∧ ¬T0 k)∨(T0 k∨(Mode.deep= .deep∧ ∃j,j<ts.length∧X j k))) (fun k hk=> ?_) (fun k hk=> .inl hk) ?_
       ·rcases hk with hk|hk|⟨_,j,hj,hk⟩
        ·exact⟨fun hz=>(h.free p.sub (p.srcZ k hz)).S r hin hk.1,.inl hk.1⟩
        ·exact⟨fun hz=>(h.free p.sub (p.srcZ k hz)).S r hin (v3 k hk).1,.inl (v3 k hk).1⟩
        ·exact⟨(p.src j k (by rw[hlen];exact hj) hk).1,.inr ⟨j,by rw[hlen];exact hj,hk⟩⟩
       ·show aj _ _ .deep _ (.sub z (setRow rows i0 f0 [.sub z1 (setRow kR i f ts)])) _
        rw[hV,mU,mU];exact hnew
      ·exact hk.elim
     ·exact hk.elim
    ·exact hk.elim
  ·exact hk.elim
 ·exact hk.elim
theorem N8 {a:Act} (hT:dN C) (h:aG F A w0 φ st a.tmps w) {o:Oper} {t:TypeId} {q x:Operand} (ho:o.op= .store t q x) {K:TS→Ev R} (hk:(jQ C st o K).holds cf lp Q):J7 C F A w0 φ st o a w K cf lp Q:=by
 unfold jQ at hk;rw[ho] at hk;simp only at hk
 split at hk
 ·rename_i cs gC hkn hc
  have hcs:=mP (cU hT h t x) hc
  split at hk
  ·rename_i b off hsz hp
   split at hk
   ·rename_i st' hs
    exact Jg hT h ho gC hkn hcs (eD hsz) hp hs hk
   ·exact hk.elim
  ·rename_i r i f hsz hp
   split at hk
   ·have Ue:=cU hT h 0 q
    rw[hp] at Ue;obtain⟨b,hb,_⟩:=Ue;obtain⟨h',hce⟩:=h.si hb
    have VX:xe (si r st).ob w (φ.Hy r) (cs.map (DN r)) (a.eval x):=by
     refine⟨by rw[cw];exact hcs.1,fun j e he=> ?_⟩;rw[gv] at he
     cases hj:cs[j]? with
     |none=>rw[hj] at he;cases he
     |some e0=>
      rw[hj] at he;simp only[ij,aY] at he;subst he;obtain⟨y,y1,y2,y3⟩:=hcs.2 j e0 hj;exact⟨y,y1,y2,hce _ _ y3⟩
    have Io:lX C (si r st) 0 q= .er r none i f:=by
     cases q with
     |tmp n=>
      have hp:st.get n= .er r none i f:=hp;show(si r st).get n=_;unfold T.si;rw[hb];simp only;rw[get_map _ _ _ rfl,hp]
      rfl
     |_=>exact hp
    obtain⟨nx,v,w',st',d1,d2,d3,d4,d5,d6⟩:=yo hT h' ho gC hkn VX (by rw[cw];exact eD hsz) Io hk;refine⟨nx,v,w',st',d1,d2,d3,d4,d5,fun k hk QT=>d6 k hk fun hw=>QT ?_⟩
    have e1:writes C st o=[2*r]:=by unfold writes;rw[ho];simp only[hp]
    have e2:writes C (si r st) o=[2*r]:=by unfold writes;rw[ho];simp only[Io]
    rw[e1];rw[e2] at hw;rcases hw with⟨b',cs',hm,_⟩|⟨o',hm,_,hS⟩
    ·simp only[fo] at hm;omega
    ·simp only[fo] at hm
     have:o'=r:=by omega
     subst this;exact .inr ⟨o',.head _,⟨b,hb⟩,hS.1⟩
   ·exact yo hT h ho gC hkn hcs (eD hsz) hp hk
  ·rename_i r path i f hn hsz hp
   exact yo hT h ho gC hkn hcs (eD hsz) hp hk
  ·exact hk.elim
 ·exact hk.elim
end Go.T
namespace Go.T
variable {F : Nat → Prop} {A : Arg} {w0 w w' : World} {φ φ' : Fp} {st st' cG jL : TS} {tm ya : Array Value} {C : ic}
variable {R : Type} {cf : Cf} {lp : Lp} {Q : R → Prop}
theorem zK (h0:aG F A w0 φ st tm w) (h:aG F A w0 φ st' tm w) {dp:Bool} {z:Nat} {rows:List (List TC)} {vs:List Value} {X:Nat→Nat→Prop} {Z:Nat→Prop} {d:Nat}
 (p:hD w φ st st' (cP (if dp then .deep else .snap) rows.flatten vs) X Z) (hz:0<z) (sW: ∀r∈rows,r.length=z) (hl:vs.length=rows.length*z) {c:Nat} (hc:rows.length≤c) (QO:c≤maxLen)
 (g:jR w w') (hlt:w.heap.size<w'.heap.size) (hcell: ∀(j:Nat) (v:Value),vs[j]?=some v→w'.cell? ⟨w.heap.size,j,none⟩=some v)
 (hall: ∀j,j<c*z→(∃x,w'.cell? ⟨w.heap.size,j,none⟩=some x)∧w'.frozen? ⟨w.heap.size,j,none⟩=false) (Fg:1<z→ ∀i,w'.frozen? ⟨w.heap.size,i,none⟩=false) (hd:d<tm.size):
 Rel F A w0 (p8 d ⟨dp,z,rows⟩ st') (tm.setIfInBounds d (.slice (some ⟨w.heap.size,0,none⟩) rows.length c)) w':=by
 have hlen:(cP (if dp then Mode.deep else .snap) rows.flatten vs).length=rows.length*z:=by rw[eX (by rw[bU sW,hl]),bU sW]
 exact N6 h0 h p hz sW hl (ad:=⟨w.heap.size,0,none⟩) hc QO rfl (h.frm.Kn g) g.size (fun k hk _=>g.block k hk) (G:=fun _=>False) (fun k hk=>hk.elim)
  (fun k hk=>⟨id,fun e=>by have:=(h0.free p.sub (p.srcZ k hk)).lt;rw[e] at this;simp at this⟩)
  (fun i k hi hk=>⟨id,fun e=>by have:=(h0.free p.sub (p.src i k (by rw[hlen];exact hi) hk).2).lt;rw[e] at this;simp at this⟩)
  (.inl ⟨cc _,hlt⟩) (fun j v hj=>by rw[add_lit,ig];exact hcell j v hj) (fun j hj=>by simp only[ig];exact hall j hj) Fg hd
theorem LG {z:Nat}: ∀(ps:List (Nat×Value)) (n:Nat) (cs:Array Value),(∀(j:Nat) p,ps[j]?=some p→p.1=n+j∧p.2.cells.size=z)→(n+ps.length)*z≤cs.size→
 ∃cs',Instr.fill (fun i=>some (i*z,z)) cs ps=some cs'∧cs'.size=cs.size∧(∀j,j<n*z→cs'[j]?=cs[j]?)∧ ∀j,j<ps.length*z→cs'[n*z+j]?=(ps.flatMap fun p=>p.2.cells.toList)[j]?
 |[],n,cs,_,_=>⟨cs,rfl,rfl,fun _ _=>rfl,fun j hj=>by simp at hj⟩
 |(i,v)::r,n,cs,hp,hle=>by
  obtain⟨h1,h2⟩:=hp 0 _ rfl;simp only[nw] at h1 h2;subst h1;simp only[e8] at hle
  have Xi:i*z+z≤cs.size:=by
   have:(i+1)*z≤(i+(r.length+1))*z:=lI _ ay;rw[nv] at this;omega
  obtain⟨g1,g2⟩:=A9 (i*z) v.cells.toList 0 cs (by simp[h2];omega)
  obtain⟨cs',k1,k2,k3,k4⟩:=LG r (i+1) (v.cells.zipIdx.foldl (fun(cs:Array Value) (p:Value×Nat)=>cs.setIfInBounds (i*z+p.2) p.1) cs) (fun j p hj=>by
   obtain⟨a,b⟩:=hp (j+1) p (by simpa using hj)
   exact⟨by omega,b⟩) (by
   have e1:v.cells.zipIdx.foldl (fun(cs:Array Value) (p:Value×Nat)=>cs.setIfInBounds (i*z+p.2) p.1) cs=(v.cells.toList.zipIdx 0).foldl (fun(cs:Array Value) (p:Value×Nat)=>cs.setIfInBounds (i*z+p.2) p.1) cs:=by
    rw[←Array.foldl_toList,Array.toList_zipIdx]
   rw[e1,g1]
   have:i+1+r.length=i+(r.length+1):=by omega
   rw[this];exact hle)
  have e1:v.cells.zipIdx.foldl (fun(cs:Array Value) (p:Value×Nat)=>cs.setIfInBounds (i*z+p.2) p.1) cs=(v.cells.toList.zipIdx 0).foldl (fun(cs:Array Value) (p:Value×Nat)=>cs.setIfInBounds (i*z+p.2) p.1) cs:=by
   rw[←Array.foldl_toList,Array.toList_zipIdx]
  refine⟨cs',?_,by rw[k2,e1,g1],fun j hj=> ?_,fun j hj=> ?_⟩
  ·unfold Instr.fill
   simp only[h2,ne_eq,not_true_eq_false,decide_false,DG,decide_eq_true_eq];rw[aR ay];exact k1
  ·rw[k3 j (by rw[nv];omega),e1,g2 j,aR ay]
  ·rw[List.flatMap_cons]
   by_cases Yr:j<z
   ·rw[k3 _ (by rw[nv];omega),e1,g2,bg (by simp[h2];omega),iJ (by simp[h2];omega)]
    simp
   ·rw[jx (by simp[h2];omega)]
    have:=k4 (j-z) (by simp only[e8,nv] at hj;omega);rw[show(i+1)*z+(j-z)=i*z+j by rw[nv];omega] at this;rw[this];simp[h2]
theorem D7 {P:Program} {t e:TypeId} {i:TypeInfo} {zv:Value} (ht:P.underlying t=some (.slice e)) (hi:P.info? e=some i) (hz:i.zero=some zv) (parts:Array (Nat×Value)) {len:Nat}
 (hp: ∀(j:Nat) p,parts.toList[j]?=some p→p.1=j∧p.2.cells.size=i.size) (hl:parts.size=len) (hle:len*i.size≤16777216):
 ∃cells,(Instr.buildSlice t len parts).run P w= .ok (.slice (some ⟨w.heap.size,0,none⟩) len len) (w.alloc (.cells cells e))∧cells.size=len*i.size∧ ∀j,j<len*i.size→cells[j]?=(parts.toList.flatMap fun p=>p.2.cells.toList)[j]?:=by
 have Uf: ¬(len*i.size>16777216):=by omega
 obtain⟨cs',k1,k2,_,k4⟩:=LG (z:=i.size) parts.toList 0 ((Array.range (len*i.size)).map ((if len*i.size=0 then #[] else zv.cells)[· % (if len*i.size=0 then #[] else zv.cells).size]!)) (fun j p hj=>by rw[ig];exact hp j p hj) (by simp[hl]);refine⟨cs',?_,by rw[k2];simp,fun j hj=> ?_⟩
 ·unfold Instr.buildSlice
  by_cases h0:len*i.size=0
  ·have hr: ∀f:Nat→Value,(Array.range 0).map f= #[]:=fun f=>Array.eq_empty_of_size_eq_zero cY
   simp only[h0,if_true,hr] at k1;simp[run_underlying ht,sizeOf,typeInfo,hi,Uf,h0,hr,k1,newRow]
  ·simp only[h0,if_false] at k1
   simp[run_underlying ht,sizeOf,typeInfo,zeroValue,hi,hz,Uf,h0,k1,newRow]
 ·have:=k4 j (by rw[r6,hl];exact hj)
  simpa using this
theorem Gm (hT:dN C) {a:Act} {ty:TypeId} (M:Mode): ∀(l:List (Nat×Operand)) (n:Nat) (st:TS) (rs:List (List TC)) (st':TS) (dp:Bool),aG F A w0 φ st a.tmps w→(M= .snap∨dp=true∧M= .deep)→rowsOf C st ty l n=some (rs,st',dp)→
 aG F A w0 φ st' a.tmps w∧rs.length=l.length∧(∀r∈rs,r.length=(C.tt ty).size)∧(∀(j:Nat) p,l[j]?=some p→p.1=n+j∧(a.eval p.2).cells.size=(C.tt ty).size)∧
  ∃X Z,hD w φ st st' (cP M rs.flatten (l.flatMap fun p=>(a.eval p.2).cells.toList)) X Z
 |[],n,st,rs,st',dp,h,hM,hr=>by
  cases hr
  exact⟨h,rfl,fun r hr=>(by cases hr),fun j p hj=>by simp at hj,_,_,hD.nil _⟩
 |(i,x)::l,n,st,rs,st',dp,h,hM,hr=>by
  simp only[rowsOf] at hr
  split at hr
  ·rename_i cs hin hcs
   have hin:=eD hin;have hok:=mP (cU hT h ty x) hcs
   split at hr
   ·rename_i cs' cG d1 hsz hab
    have hsz:=eD hsz
    split at hr
    ·rename_i rs2 jL d2 GV
     cases hr
     have vlen:(a.eval x).cells.toList.length=cs.length:=by simpa using hok.1
     obtain⟨h1,Ci,J8,os,tk⟩:=xh M cs st (a.eval x).cells.toList cs' cG d1 h (cV.refl _) vlen (fun j e he=>by
      obtain⟨y,y1,_,y3⟩:=hok.2 j e he
      exact⟨y,by simpa using y1,y3⟩) (by
      rcases hM with hM|⟨hd,hM⟩
      ·exact .inl hM
      ·simp only[dm] at hd;exact .inr ⟨hd.1,hM⟩) hab
     obtain⟨X1,Z1,p1⟩:=tk.parts h
     obtain⟨h2,xy,Ir,Is,X2,Z2,p2⟩:=Gm hT M l (n+1) cG rs2 _ d2 h1 (by
      rcases hM with hM|⟨hd,hM⟩
      ·exact .inl hM
      ·simp only[dm] at hd;exact .inr ⟨hd.2,hM⟩) GV
     have key:=p1.app h p2;rw[←rM ay] at key;refine⟨h2,by simp[xy],fun r hr=> ?_,fun j p hj=> ?_,_,_,key⟩
     ·rcases cz.1 hr with rfl|hr
      ·rw[Ci,hsz]
      ·exact Ir r hr
     ·cases j with
      |zero=>simp only[cR,aY] at hj;subst hj;exact⟨hin,by rw[hok.1,hsz]⟩
      |succ j=>
       obtain⟨a1,a2⟩:=Is j p (by simpa using hj);exact⟨by omega,a2⟩
    ·cases hr
   ·cases hr
  ·cases hr
theorem Fu (hT:dN C) {a:Act} (h:aG F A w0 φ st a.tmps w) {o:Oper} {t:TypeId} {n:Nat} {ps:Array (Nat×Operand)} (ho:o.op= .buildSlice t n ps) {K:TS→Ev R} (hd: ∀d,o.dst=some d→d<a.tmps.size) (hk:(jQ C st o K).holds cf lp Q):
 J7 C F A w0 φ st o a w K cf lp Q:=by
 unfold jQ at hk;rw[ho] at hk;simp only at hk
 split at hk
 ·rename_i d e gC he
  split at hk
  ·rename_i rs st' dp hb hr
   simp only[dm] at hb;obtain⟨⟨hn,hle⟩,Iz⟩:=hb;have hn:=eD hn;have hle:=lV hle;obtain⟨hkn,hnp⟩:=sv Iz;obtain⟨i,zv,g1,g2,g3,_⟩:=Hq (w:=w) (φ:=φ) hT hkn hnp (ob:=st.ob);obtain⟨h1,hl,hw,hp,X,Z,p⟩:=Gm hT (if dp then .deep else .snap) ps.toList 0 st rs st' dp h (by cases dp<;>simp) hr
   have AM:rs.length=n:=by rw[hl,hn];simp
   obtain⟨cells,c1,c2,c3⟩:=D7 (w:=w) (oU hT he).1 g1 g3 (ps.map fun(i,x)=>(i,a.eval x)) (len:=n) (fun j q hj=>by
    rw[Array.toList_map,gv] at hj
    cases hq:ps.toList[j]? with
    |none=>rw[hq] at hj;cases hj
    |some r=>
     rw[hq] at hj;simp only[ij,aY] at hj;subst hj;obtain⟨a1,a2⟩:=hp j r hq
     exact⟨by rw[a1,ig],by rw[g2];exact a2⟩) (by simp[hn]) (by rw[g2];exact hle)
   have hvl:(ps.toList.flatMap fun p=>(a.eval p.2).cells.toList).length=rs.length*(C.tt e).size:=by
    have: ∀(l:List (Nat×Operand)),(∀p∈l,(a.eval p.2).cells.size=(C.tt e).size)→(l.flatMap fun p=>(a.eval p.2).cells.toList).length=l.length*(C.tt e).size:=by
     intro l
     induction l with
     |nil=>intro _;simp
     |cons x r ih=>
      intro hx;rw[List.flatMap_cons,cT,ih fun p hp=>hx p (.tail _ hp),r6,hx x (.head _),e8,nv];omega
    rw[this _ fun p Io=> ?_,hl];obtain⟨j,hj,rfl⟩:=List.mem_iff_getElem.1 Io;exact(hp j _ (aV hj)).2
   have Xj:((ps.map fun(i,x)=>(i,a.eval x)).toList.flatMap fun p=>p.2.cells.toList)=ps.toList.flatMap fun p=>(a.eval p.2).cells.toList:=by
    rw[Array.toList_map,List.flatMap_map]
   have pZ:=zK (w':=w.alloc (.cells cells e)) (d:=d) h h1 p (hT e hkn).pos hw hvl (c:=n) ay (by
    have hpos:=(hT e hkn).pos;have:n≤n*(C.tt e).size:=Nat.le_mul_of_pos_right n hpos
    simp only[maxLen];omega) (jR.alloc w _) cY (fun j v hj=>by
    rw[pk,c3 j (by
     have:=(List.getElem?_eq_some_iff.1 hj).1;rw[hvl,AM] at this
     rw[g2];exact this),Xj]
    exact hj) (fun j hj=>⟨⟨cells[j]'(by rw[c2,g2];exact hj),by rw[pk];exact oX _⟩,lG _ _ _ _⟩) (fun _ i=>lG _ _ _ _) (hd d gC)
   rw[AM] at pZ;refine⟨.value _,_,_,_,?_,.inl rfl,by rw[gC];exact pZ,hk,by simp,fun k hk _=>(jR.alloc w _).block k hk⟩;unfold execOp;rw[ho];simp only[Sem.run_bind,c1,Result.andThen]
   rfl
  ·exact hk.elim
 ·exact hk.elim
theorem Dz {z:Nat} {rows:List (List TC)} (hz:0<z) (sW: ∀r∈rows,r.length=z) {p:Nat} {tc:TC} (hp:rows.flatten[p]?=some tc):qm rows (p/z) (p % z)=some tc:=by
 have hfl:=bU sW
 have hlt:p<rows.length*z:=by rw[←hfl];exact(List.getElem?_eq_some_iff.1 hp).1
 have hi:p/z<rows.length:=Nat.div_lt_of_lt_mul (by rw[Nat.mul_comm];exact hlt);have hrl:=sW _ (oe hi)
 have hf:p % z<(rows[p/z]).length:=by rw[hrl];exact Nat.mod_lt _ hz
 have h1:qm rows (p/z) (p % z)=some (rows[p/z][p % z]):=by simp[qm,aV hi,aV hf]
 have h2:=(pg sW h1).1;rw[ze p z] at h2;rw[h1,←h2,hp]
theorem N9 {Rd S:Nat→Prop} {m:Mode} {c:TC} (h:Kq c=true):aj w Rd m S c (PM c):=by
 cases c with
 |any=>cases h
 |sc v=>cases v<;>first|exact .sc _ _ _ trivial|cases h
 |sub z rows=>cases rows with
  |nil=>exact qq (lV h)
  |cons _ _=>cases h
attribute [local semireducible] fJ p6 zg fits in
theorem HA (hT:dN C) {a:Act} (h:aG F A w0 φ st a.tmps w) {o:Oper} {t:TypeId} {l c:Operand} (ho:o.op= .makeSlice t l c) {K:TS→Ev R} (hd: ∀d,o.dst=some d→d<a.tmps.size) (hk:(jQ C st o K).holds cf lp Q):
 J7 C F A w0 φ st o a w K cf lp Q:=by
 unfold jQ at hk;rw[ho] at hk;simp only at hk
 split at hk
 ·rename_i d e n n' gC he hl hc
  have hk2:(match(rK (C.tt e)&&fJ n n'&&p6 0 n&&fits (zg n) (C.tt e).bytes) with|true=>K (p8 d ⟨true,(C.tt e).size,List.replicate (zg n) (C.tt e).zero⟩ st)|false=> .fail:Ev R).holds cf lp Q:=hk;clear hk
  split at hk2
  ·rename_i hb
   simp only[dm] at hb;obtain⟨⟨⟨Iz,Tb⟩,h0⟩,hf⟩:=hb
   have Tb:n=n':=by simpa [fJ] using Tb
   subst Tb
   have h0:0≤n:=by simpa [p6] using h0
   have hf:n.toNat*(C.tt e).bytes≤140737488355328∧n.toNat≤140737488355328:=by simpa [fits,zg] using hf
   obtain⟨hkn,hnp⟩:=sv Iz;obtain⟨i,zv,g1,g2,g2b,g3,g4⟩:=(hT e hkn).info;obtain⟨z1,z2,z3,_⟩:=g4 hnp;obtain⟨kl,hkl⟩:=sq (cU hT h 3 l) hl;obtain⟨kc,Xk⟩:=sq (cU hT h 3 c) hc;have hpos:=(hT e hkn).pos
   have hzs:zv.cells.size=(C.tt e).size:=by rw[←r6,z1];simpa using z2
   have hby:(i.bytes:Int)*n≤281474976710656:=by
    have h1:=hf.1
    have e1:(i.bytes:Int)*n=((n.toNat*(C.tt e).bytes:Nat):Int):=by rw[g2b,Int.natCast_mul,Int.toNat_of_nonneg h0,Int.mul_comm]
    rw[e1];omega
   have hrun:=run_make (P:=C.P) w t e i zv (oU hT he).1 g1 g3 kl kc n n h0 (Int.le_refl _) hby ay
   have hw: ∀r∈List.replicate (zg n) (C.tt e).zero,r.length=(C.tt e).size:=fun r hr=>by rw[List.eq_of_mem_replicate hr];exact z2
   have hlen:(List.replicate (zg n) (C.tt e).zero).length=n.toNat:=by simp[zg]
   have hvl:(madeCells zv.cells (n.toNat*i.size)).toList.length=(List.replicate (zg n) (C.tt e).zero).length*(C.tt e).size:=by rw[hlen];simp[madeCells,g2]
   have hval: ∀{j:Nat} {v:Value},(madeCells zv.cells (n.toNat*i.size)).toList[j]?=some v→zv.cells[j % (C.tt e).size]?=some v:=fun {j v} hj=>by
    have hlt:j<n.toNat*i.size:=by have:=(List.getElem?_eq_some_iff.1 hj).1;simpa [madeCells] using this
    simp[madeCells,hlt] at hj;have hm:j % zv.cells.size<zv.cells.size:=Nat.mod_lt _ (by rw[hzs];exact hpos);rw[getElem!_pos zv.cells _ hm] at hj;rw[←hj,←hzs,oX hm]
   have p:hD w φ st st (cP (if true=true then .deep else .snap) (List.replicate (zg n) (C.tt e).zero).flatten (madeCells zv.cells (n.toNat*i.size)).toList) (fun _ _=>False) (fun _=>False):=by
    refine⟨fun j it hj=> ?_,fun _ _ _ hk=>hk.elim,fun _ hk=>hk.elim,fun _ _ _ _ _ hk=>hk.elim,cV.refl _⟩;obtain⟨tc,v,h1,h2,rfl⟩:=iQ hj;have Mh:=Dz hpos hw h1
    have IC:(C.tt e).zero[j % (C.tt e).size]?=some tc:=by
     unfold qm at Mh
     cases hrow:(List.replicate (zg n) (C.tt e).zero)[j/(C.tt e).size]? with
     |none=>rw[hrow] at Mh;cases Mh
     |some row=>
      rw[hrow] at Mh;rw[List.eq_of_mem_replicate (ew hrow)] at Mh;exact Mh
    have hv:=hval h2;rw[←ID,z1,gv,IC] at hv;simp only[ij,aY] at hv;subst hv;exact N9 (List.all_eq_true.1 z3 tc (ew IC))
   have pZ:=zK (w':=w.alloc (.cells (madeCells zv.cells (n.toNat*i.size)) e)) (d:=d) h h p hpos hw hvl (c:=n.toNat) (by rw[hlen];exact cc _) (by simp only[maxLen];omega) (jR.alloc w _) cY (fun j v hj=>by
    rw[pk];simpa using hj) (fun j hj=>⟨⟨_,by rw[pk];exact oX (by rw[size_madeCells,g2];exact hj)⟩,lG _ _ _ _⟩) (fun _ i=>lG _ _ _ _) (hd d gC)
   rw[hlen] at pZ;refine⟨.value _,_,_,_,?_,.inl rfl,by rw[gC];exact pZ,hk2,by simp,fun k hk _=>(jR.alloc w _).block k hk⟩;unfold execOp;rw[ho];simp only[hkl,Xk,Sem.run_bind,hrun,Result.andThen]
   rfl
  ·exact hk2.elim
 ·exact hk.elim
end Go.T
namespace Go.T
variable {F : Nat → Prop} {A : Arg} {w0 w w' : World} {φ φ' : Fp} {st st' sta cG jL : TS} {tm ya : Array Value} {C : ic}
variable {R : Type} {cf : Cf} {lp : Lp} {Q : R → Prop}
theorem Gn (w:World) (arr:Array Value) (t:TypeId) (fr:Nat×Nat) (j:Nat):(w.alloc (.cells arr t fr)).cell? ⟨w.heap.size,j,none⟩=arr[j]?:=by
 unfold World.cell?;simp only[heap_alloc_new]
 rfl
theorem Ji (w:World) (arr:Array Value) (t:TypeId) (fr:Nat×Nat) (j:Nat) (h:j<fr.1):(w.alloc (.cells arr t fr)).frozen? ⟨w.heap.size,j,none⟩=false:=by
 unfold World.frozen?;simp only[heap_alloc_new];obtain⟨a,b⟩:=fr;simp only at h ⊢;simp;omega
attribute [local semireducible] xI in
theorem D8 (s:ByteArray):xI s=s.data.toList.map fun b=>[TC.sc (.int .u8 b.toNat)]:=rfl
theorem KF (s:ByteArray):(xI s).flatten=s.data.toList.map fun b=>TC.sc (.int .u8 b.toNat):=by
 rw[D8]
 induction s.data.toList with
 |nil=>rfl
 |cons b r ih=>simp only[List.map_cons,vr,ih];rfl
theorem jY (s:ByteArray):(xI s).length=s.size:=by rw[D8,cw,r6];rfl
theorem B0 (s:ByteArray): ∀r∈xI s,r.length=1:=fun r hr=>by
 rw[D8] at hr;obtain⟨_,_,rfl⟩:=List.mem_map.1 hr
 rfl
theorem Gp (s:ByteArray) (M:Mode) (st:TS):hD w φ st st (cP M (xI s).flatten (byteCells s)) (fun _ _=>False) (fun _=>False):=by
 refine⟨fun j it hj=> ?_,fun _ _ _ hk=>hk.elim,fun _ hk=>hk.elim,fun _ _ _ _ _ hk=>hk.elim,cV.refl _⟩;obtain⟨tc,v,h1,h2,rfl⟩:=iQ hj;rw[KF,gv] at h1;unfold byteCells at h2;rw[gv] at h2
 cases hb:s.data.toList[j]? with
 |none=>rw[hb] at h1;cases h1
 |some b=>
  rw[hb] at h1 h2;simp only[ij,aY] at h1 h2;subst h1 h2;exact .sc _ _ _ trivial
attribute [local semireducible] fits in
theorem LH {n b:Nat} (h:fits n b=true):n*b≤140737488355328∧n≤140737488355328:=uc h
theorem Oa (hT:dN C) {a:Act} (h:aG F A w0 φ st a.tmps w) {o:Oper} {src dst:TypeId} {x:Operand} (ho:o.op= .convert src dst x) {K:TS→Ev R} (hd: ∀d,o.dst=some d→d<a.tmps.size) (hk:(jQ C st o K).holds cf lp Q):J7 C F A w0 φ st o a w K cf lp Q:=by
 have AQ:=hk;unfold jQ at hk;rw[ho] at hk;simp only at hk
 split at hk
 ·rename_i et hdt hst
  split at hk
  ·rename_i d s gC hu hs
   have hv:=Hh (cU hT h src x) hs;have hrun:=run_bytes_of_string (P:=C.P) w src dst et s (D1 hT hst) (D2 hT hdt).1 (Hr hT hu);have hge:=grownCap_ge w s.size 0 et
   have hsz:(bytesRow s (grownCap w s.size 0 et)).size=grownCap w s.size 0 et:=by
    have:s.data.size=s.size:=rfl;simp[bytesRow,this];omega
   have hk2:(match fits s.size 1 with|true=>K (p8 d ⟨true,1,xI s⟩ st)|false=> .fail:Ev R).holds cf lp Q:=hk;clear hk
   split at hk2
   ·rename_i hfit
    have hbig:s.size≤maxLen:=by
     have:s.size*1≤140737488355328∧s.size≤140737488355328:=LH hfit;simp only[maxLen];omega
    have pZ:=zK (w':=w.drew.alloc (.cells (bytesRow s (grownCap w s.size 0 et)) et ((bytesRow s (grownCap w s.size 0 et)).size,(bytesRow s (grownCap w s.size 0 et)).size+1))) (d:=d) (dp:=true) (z:=1) h h (Gp s _ st)
     Nat.one_pos (B0 s) (by rw[byteCells_length,jY,Nat.mul_one]) (c:=grownCap w s.size 0 et) (by rw[jY];exact hge) (grownCap_le_maxLen w s.size 0 et hbig) ((jR.drew w).trans (jR.alloc _ _)) cY
     (fun j v hj=>by
       have hj0:=hj
       have hjl:j<s.size:=by have:=(List.getElem?_eq_some_iff.1 hj).1;rwa [byteCells_length] at this
       show(w.drew.alloc _).cell? ⟨w.drew.heap.size,j,none⟩=_;rw[Gn];unfold bytesRow;rw[Array.getElem?_append_left (by rw[Array.size_map];exact hjl)];unfold byteCells at hj0
       simpa using hj0)
     (fun j hj=>by
       rw[Nat.mul_one] at hj;show(∃x,(w.drew.alloc _).cell? ⟨w.drew.heap.size,j,none⟩=_)∧(w.drew.alloc _).frozen? ⟨w.drew.heap.size,j,none⟩=_
       exact⟨⟨_,by rw[Gn];exact oX (by rw[hsz];exact hj)⟩,Ji _ _ _ _ _ (by simp only[hsz];exact hj)⟩) (fun M6=>absurd M6 ay) (hd d gC)
    rw[jY] at pZ;refine⟨.value _,_,_,_,?_,.inl rfl,by rw[gC];exact pZ,hk2,by simp,fun k hk _=>((jR.drew w).trans (jR.alloc _ _)).block k hk⟩;unfold execOp;rw[ho];simp only[hv,Sem.run_bind,hrun,Result.andThen]
    rfl
   ·exact hk2.elim
  ·exact hk.elim
 ·exact LD hT h hd hk
theorem D9 {Rd S:Nat→Prop} {m:Mode} {z:Nat} {rows:List (List TC)} {v:Value} (hr:aj w Rd m S (.sub z rows) v) {tx e':TypeId} (hk:C.P.underlying tx=some (.slice e')) {size:Nat} (hsz:size=z) {vs:List Value} (hl:vs.length=rows.length*z)
 (hcell: ∀ad n c,v= .slice (some ad) n c→ ∀(j:Nat) (x:Value),vs[j]?=some x→w.cell? (ad.add j)=some x) (h1: ∀x∈vs,x.oneCell'=true):Src C.P size tx v rows.length vs w:=by
 subst hsz
 cases hr with
 |sub _ _ _ _ Ad c u T k hn=>
  cases Ad with
  |none=>
   have hne:rows=[]:=Classical.byContradiction fun hne=>by obtain⟨ad,h⟩:=k.addr hne;cases h
   subst hne;have:vs=[]:=xG (by simpa using hl);subst this;exact Src.ofNil w hk c
  |some ad=>exact Src.ofSlice w hk ad _ c vs hl (hcell ad _ _ rfl) h1
theorem aj.vals {Rd S:Nat→Prop} {m:Mode} {z:Nat} {rows:List (List TC)} {v:Value} (hr:aj w Rd m S (.sub z rows) v): ∃vals:List Value,vals.length=rows.length*z∧(∀r∈rows,r.length=z)∧0<z∧
 (∀ad n c,v= .slice (some ad) n c→ ∀(j:Nat) (x:Value),vals[j]?=some x→w.cell? (ad.add j)=some x)∧ ∀(p:Nat) (tc:TC) (x:Value),rows.flatten[p]?=some tc→vals[p]?=some x→ ∃T,aj w Rd m.nx T tc x:=by
 cases hr with
 |sub _ _ _ _ Ad c u T k hn=>
  have hz:=k.z0;have hfl:=bU k.width;refine⟨(List.range (rows.length*z)).map fun p=>u (p/z) (p % z),by simp,k.width,hz,?_,fun p tc x h1 h2=> ?_⟩
  ·intro ad n c' e j x hx
   cases e
   have hlt:j<rows.length*z:=by have:=(List.getElem?_eq_some_iff.1 hx).1;simpa using this
   simp[hlt] at hx;subst hx;obtain⟨tc,QS⟩: ∃tc,rows.flatten[j]?=some tc:=⟨_,aV (by rw[hfl];exact hlt)⟩;have:=k.cell ad rfl _ _ tc (Dz hz k.width QS);rw[ze j z] at this;exact this
  ·have hlt:p<rows.length*z:=by have:=(List.getElem?_eq_some_iff.1 h2).1;simpa using this
   simp[hlt] at h2;subst h2;exact⟨_,hn _ _ tc (Dz hz k.width h1)⟩
theorem Gq (hT:dN C) {t t' ty e:TypeId} {P:Program} (hP:P=C.P) (ht:P.underlying t=some (.slice e)) (Iz:rK (C.tt e)=true) (h0:aG F A w0 φ st tm w) (h1:aG F A w0 φ cG tm w) {d:Nat} (hd:d<tm.size) {dp:Bool} {z:Nat} (hz:z=(C.tt e).size)
 {rows aP:List (List TC)} {wZ tW:List Value} {X1 X2:Nat→Nat→Prop} {Z1 Z2:Nat→Prop} (p1:hD w φ st sta (cP (if dp then .deep else .snap) rows.flatten wZ) X1 Z1) (p2:hD w φ sta cG (cP (if dp then .deep else .snap) aP.flatten tW) X2 Z2)
 (hw1: ∀r∈rows,r.length=z) (Ir: ∀r∈aP,r.length=z) (Ci:wZ.length=rows.length*z) (xy:tW.length=aP.length*z) {Ad:Option Addr} {c:Nat} (hc:rows.length≤c) (QO:c≤maxLen) {x:Value} (hs:Src P z t' x aP.length tW w)
 (hA:(Ad=none∧rows=[]∧c=0)∨ ∃ad,Ad=some ad∧ad.spot=none∧(∃o,az st.ob o∧ ¬az sta.ob o∧φ.S o ad.block)∧(∀(j:Nat) (v:Value),wZ[j]?=some v→w.cell? (ad.add j)=some v)∧
   (∀j,j<c*z→(∃x,w.cell? ⟨ad.block,ad.off+j,none⟩=some x)∧w.frozen? ⟨ad.block,ad.off+j,none⟩=false)∧(∀i k,X1 i k→k≠ad.block)∧(∀k,Z1 k→k≠ad.block)∧(1<z→ ∀i,w.frozen? ⟨ad.block,i,none⟩=false))
 (hf:fits (rows.length+aP.length) (C.tt e).bytes=true):
 ∃v w',(Builtin.append_ #[t,t'] ty #[.slice Ad rows.length c,x]).run P w= .ok v w'∧Rel F A w0 (p8 d ⟨dp,z,rows++aP⟩ cG) (tm.setIfInBounds d v) w'∧w.heap.size≤w'.heap.size∧ ∀k,k<w.heap.size→(∀ad,Ad=some ad→k≠ad.block)→w'.heap[k]?=w.heap[k]?:=by
 subst hP;obtain⟨Xl,AN⟩:=LH hf;obtain⟨hkn,hnp⟩:=sv Iz;obtain⟨i,zv,g1,g2,g2b,g3,g4⟩:=(hT e hkn).info;obtain⟨z1,z2,z3,_⟩:=g4 hnp;have hpos:=(hT e hkn).pos
 have hzs:zv.cells.size=(C.tt e).size:=by rw[←r6,z1];simpa using z2
 have IC:0<z:=by omega
 have isz:i.size=z:=by rw[g2,hz]
 have p:=p1.app h0 p2;have SI:=bU hw1;have Ug:=bU Ir;rw[←rM (by rw[SI,Ci]),←Ld] at p;have Uh: ∀r∈rows++aP,r.length=z:=fun r hr=>(List.mem_append.1 hr).elim (hw1 r) (Ir r)
 have SJ:(wZ++tW).length=(rows++aP).length*z:=by rw[cT,cT,nv,Ci,xy]
 have hs':Src C.P i.size t' x aP.length tW w:=by rw[isz];exact hs
 have big:rows.length+aP.length≤maxLen:=by simp only[maxLen];omega
 have grow:c<rows.length+aP.length→(∃olds:List Value,olds=wZ∧(Builtin.firstCells i.size rows.length (.slice Ad rows.length c)).run C.P w.drew= .ok olds.toArray w.drew)→
  ∃v w',(Builtin.append_ #[t,t'] ty #[.slice Ad rows.length c,x]).run C.P w= .ok v w'∧Rel F A w0 (p8 d ⟨dp,z,rows++aP⟩ cG) (tm.setIfInBounds d v) w'∧w.heap.size≤w'.heap.size∧ ∀k,k<w.heap.size→(∀ad,Ad=some ad→k≠ad.block)→w'.heap[k]?=w.heap[k]?:=fun hg ⟨olds,ho,Rx⟩=>by
  rw[ho] at Rx;have hr:=run_append_grow_src (P:=C.P) w t t' ty e i zv ht g1 g3 Ad rows.length c wZ Rx x aP.length tW hs' hg (by simp only[maxLen] at big;omega) (growslice_fits hg (by rw[g2b];exact Xl));have hge:=grownCap_ge w (rows.length+aP.length) c e;have Xm:=grownCap_le_maxLen w (rows.length+aP.length) c e big
  have hsize:((wZ++tW).toArray++Builtin.zeroCells zv.cells (grownCap w (rows.length+aP.length) c e-(rows.length+aP.length))).size=grownCap w (rows.length+aP.length) c e*z:=by
   rw[Array.size_append,size_zeroCells,List.size_toArray,SJ,hzs,←hz,cT,←nv]
   congr 1;omega
  have pZ:=zK (w':=w.drew.alloc (.cells ((wZ++tW).toArray++Builtin.zeroCells zv.cells (grownCap w (rows.length+aP.length) c e-(rows.length+aP.length))) e)) (d:=d) h0 h1 p IC Uh SJ
   (c:=grownCap w (rows.length+aP.length) c e) (by rw[cT];exact hge) Xm ((jR.drew w).trans (jR.alloc _ _)) cY
   (fun j v hj=>by
     have hlt:=(List.getElem?_eq_some_iff.1 hj).1;have e1:=pk w.drew ((wZ++tW).toArray++Builtin.zeroCells zv.cells (grownCap w (rows.length+aP.length) c e-(rows.length+aP.length))) e j;refine e1.trans ?_;rw[Array.getElem?_append_left (by simpa using hlt)]
     simpa using hj)
   (fun j hj=>⟨⟨_,(pk w.drew _ e j).trans (oX (by rw[hsize];exact hj))⟩,lG w.drew _ e j⟩) (fun _ i=>lG w.drew _ e i) hd
  rw[cT] at pZ;exact⟨_,_,hr,pZ,by simp,fun k hk _=>((jR.drew w).trans (jR.alloc _ _)).block k hk⟩
 rcases hA with⟨rfl,rfl,rfl⟩|⟨ad,rfl,nL,VY,hcell,hall,Xn,Xo,Fg⟩
 ·by_cases hn:aP.length=0
  ·have SE:aP=[]:=xG hn
   subst SE;have RA:tW=[]:=xG (by simpa using xy);subst RA;exact⟨_,w,run_append_nothing w t t' ty e i ht g1 none _ _ (cc _) x hs',MB h1 IC hd,cc _,fun _ _ _=>rfl⟩
  ·refine grow mD ⟨_,rfl,?_⟩
   have RA:wZ=[]:=xG (by simpa using Ci);subst RA;exact run_firstCells_none w.drew i.size 0 0 0
 ·have Xp: ∀i k,i<aP.length*z→X2 i k→k≠ad.block:=fun i k hi hk e=>by
   subst e;obtain⟨o,o1,o2,o3⟩:=VY;obtain⟨o',q1,q2,q3⟩:=(p2.src i _ (by rw[eX (by rw[Ug,xy]),Ug];exact hi) hk).2;have:=h0.sep.apart o o' _ o1 (p1.sub.dom q1) o3 q3;subst this;exact o2 q1
  have Xq: ∀k,Z2 k→k≠ad.block:=fun k hk e=>by
   subst e;obtain⟨o,o1,o2,o3⟩:=VY;obtain⟨o',q1,q2,q3⟩:=p2.srcZ _ hk;have:=h0.sep.apart o o' _ o1 (p1.sub.dom q1) o3 q3;subst this;exact o2 q1
  by_cases hroom:rows.length+aP.length≤c
  ·have inb: ∀j,j<tW.length→rows.length*z+j<c*z:=fun j hj=>by
    have:rows.length*z+aP.length*z≤c*z:=by rw[←nv];exact lI _ hroom
    omega
   have had:(⟨ad.block,ad.off,none⟩:Addr)=ad:=by cases ad;simp_all
   have hr:=run_append_room_src (P:=C.P) w t t' ty e i ht g1 ad.block ad.off rows.length c x aP.length tW hs' hroom
    (fun j hj=>by obtain⟨⟨y,hy⟩,_⟩:=hall _ (inb j hj);rw[isz,qd,hy];rfl) (fun j hj=>by obtain⟨_,hy⟩:=hall _ (inb j hj);rw[isz,qd];exact hy)
   rw[had,isz] at hr
   have SK: ∃o,az st.ob o∧ ¬az cG.ob o∧φ.S o ad.block:=let ⟨o,o1,o2,o3⟩:=VY;⟨o,o1,fun hd=>o2 (p2.sub.dom hd),o3⟩
   have fr:=h0.free p.sub SK;obtain⟨s1,s2,s3,s4⟩:=iL ad.block tW (ad.off+rows.length*z) w
   have Ui: ∀j,j<c*z→(∃x,(w.setCells ad.block (ad.off+rows.length*z) tW).cell? ⟨ad.block,ad.off+j,none⟩=some x)∧(w.setCells ad.block (ad.off+rows.length*z) tW).frozen? ⟨ad.block,ad.off+j,none⟩=false:=fun j hj=>by
    obtain⟨⟨y,hy⟩,hz⟩:=hall j hj;exact⟨Option.isSome_iff_exists.1 (World.isSome_setCells _ _ _ w _ (by rw[hy];rfl)),by rw[World.frozen?_setCells];exact hz⟩
   have hcl: ∀{i k:Nat},i<(rows++aP).length*z→(if i<(cP (if dp=true then Mode.deep else .snap) rows.flatten wZ).length then X1 i k else X2 (i-(cP (if dp=true then Mode.deep else .snap) rows.flatten wZ).length) k)→k≠ad.block:=fun {i k} hi hk=>by
    rw[eX (by rw[SI,Ci]),SI] at hk
    by_cases hlt:i<rows.length*z
    ·rw[bg hlt] at hk;exact Xn i k hk
    ·rw[aR hlt] at hk;exact Xp _ k (by rw[cT,nv] at hi;omega) hk
   have pZ:=N6 (w':=w.setCells ad.block (ad.off+rows.length*z) tW) (d:=d) h0 h1 p IC Uh SJ (ad:=ad) (c:=c) (by rw[cT];exact hroom) QO nL (h0.frm.setCells fr.new) (by rw[s4];exact cc _)
    (G:=fun k=>k=ad.block) (fun k hk hn=>dA _ _ _ _ hk hn) (fun k hk=>by subst hk;exact SK) (fun k hk=>by
      have:k≠ad.block:=hk.elim (Xo k) (Xq k)
      exact⟨this,this⟩) (fun i k hi hk=>⟨hcl hi hk,hcl hi hk⟩) (.inr SK) (fun j v hj=>by
      rw[oF j nL]
      by_cases hlt:j<rows.length*z
      ·rw[World.cell?_setCells_out _ _ _ _ _ (fun _ _=>by simp only;omega),←oF j nL]
       rw[iJ ay] at hj;exact hcell j v hj
      ·rw[jx ay,Ci] at hj
       have Uj:=(List.getElem?_eq_some_iff.1 hj).1
       have:=World.cell?_setCells_in ad.block tW (ad.off+rows.length*z) w (fun j' hj'=>by
        obtain⟨⟨y,hy⟩,_⟩:=hall _ (inb j' hj');rw[qd,hy];rfl) (j-rows.length*z) Uj
       rw[show ad.off+rows.length*z+(j-rows.length*z)=ad.off+j by omega] at this;rw[this];rw[aV Uj] at hj
       exact hj) Ui (fun M6 i=>by rw[World.frozen?_setCells];exact Fg M6 i) hd
   rw[cT] at pZ;exact⟨_,_,hr,pZ,by rw[s4];exact cc _,fun k hk hn=>dA _ _ _ _ hk (hn ad rfl)⟩
  ·refine grow ay ⟨wZ,rfl,?_⟩
   exact run_firstCells_some w.drew i.size rows.length ad rows.length c wZ (by rw[isz];exact Ci) (by simpa using hcell)
end Go.T
namespace Go.T
structure Ea where
 tc:TC
 val:Value
 own:Nat→Prop
def Ea.ok (w:World) (t:Ea):Prop:=aj w (fun _=>False) .deep t.own t.tc t.val
def Ea.apart (a b:Ea):Prop:= ∀k,a.own k→ ¬b.own k
def P1 (w:World) (b off:Nat) (L:List Value):Prop:= ∀k y,L[k]?=some y→w.cell? ⟨b,off+k,none⟩=some y
def Tv (w:World) (b off n:Nat):Prop:= ∀j,j<n→w.frozen? ⟨b,off+j,none⟩=false
theorem aj.Vi {w:World} {R R' S:Nat→Prop} {c:TC} {v:Value} (h:aj w R .deep S c v):aj w R' .deep S c v:=by
 generalize hm:Mode.deep=m at h
 induction h with
 |any _ _ _ h=>exact .any _ _ _ h
 |sc _ _ _ h=>exact .sc _ _ _ h
 |sub m S z rows A c u T h hn ih=>
  subst hm;exact .sub _ _ z rows A c u T {h with read:=fun hm=>by cases hm} fun i f tc ht=>ih i f tc ht rfl
structure yp (w:World) (S:Nat→Prop) (z:Nat) (rows:List (List TC)) (v:Value) (A:Option Addr) (c:Nat) (cv:List Ea):Prop where
 val:v= .slice A rows.length c
 le:rows.length≤c
 cap:c≤maxLen
 z0:0<z
 width: ∀r∈rows,r.length=z
 tcs:rows.flatten=cv.map (·.tc)
 ok: ∀t∈cv,t.ok w
 kz:cv.Pairwise Ea.apart
 sub: ∀t∈cv,∀k,t.own k→S k∧ ∀ad,A=some ad→k≠ad.block
 none:A=none→c=0
 row: ∀ad,A=some ad→S ad.block∧ad.spot= .none∧(∃sp,P1 w ad.block ad.off (cv.map (·.val)++sp)∧(cv.map (·.val)++sp).length=c*z)∧Tv w ad.block ad.off (c*z)∧(1<z→ ∀i,w.frozen? ⟨ad.block,i,.none⟩=false)
theorem aj.opened {w:World} {R S:Nat→Prop} {z:Nat} {rows:List (List TC)} {v:Value} (h:aj w R .deep S (.sub z rows) v): ∃A c cv,yp w S z rows v A c cv:=by
 cases h with
 |sub _ _ _ _ A c u T k hn=>
  have hz:=k.z0;have hfl:=bU k.width;have Mh: ∀p tc,rows.flatten[p]?=some tc→qm rows (p/z) (p % z)=some tc:=fun p tc h=>Dz hz k.width h;refine⟨A,c,(List.range (rows.length*z)).map fun p=>⟨rows.flatten.getD p default,u (p/z) (p % z),T (p/z) (p % z)⟩,rfl,k.len,k.cap,hz,k.width,?_,?_,?_,?_,(k.own cY).1,?_⟩
  ·apply List.ext_getElem
   ·simp[hfl]
   ·intro p h1 h2
    simp only[List.getElem_map,List.getElem_range,ki,aV h1];rfl
  ·intro t ht
   obtain⟨p,hp,rfl⟩:=List.mem_map.1 ht;have hp:=List.mem_range.1 hp
   have hs:rows.flatten[p]?=some (rows.flatten.getD p default):=by
    rw[ki,aV ay];rfl
   exact(hn _ _ _ (Mh p _ hs)).Vi
  ·rw[List.pairwise_map]
   refine(List.nodup_range (n:=rows.length*z)).imp_of_mem ?_;intro a b ha hb hab k' h1 h2;have:=(k.kz rfl _ _ _ h1).2.2 _ _ h2
   apply hab
   rw[←ze a z,←ze b z,this.1,this.2]
  ·intro t ht k' hk
   obtain⟨p,hp,rfl⟩:=List.mem_map.1 ht;exact⟨(k.kz rfl _ _ _ hk).1,(k.kz rfl _ _ _ hk).2.1⟩
  ·intro ad ha
   obtain⟨hS,hs,hc⟩:=(k.own cY).2 ad ha;refine⟨hS,hs,⟨(List.range (c*z-rows.length*z)).map fun j=>(w.cell? ⟨ad.block,ad.off+(rows.length*z+j),.none⟩).getD default,?_,?_⟩,fun j hj=>(hc j hj).2,fun h1 i=>k.soft cY h1 ad ha i⟩
   ·intro j y hj
    by_cases hl:j<rows.length*z
    ·rw[iJ (by simpa using hl)] at hj
     simp[hl] at hj;subst hj
     have VT:rows.flatten[j]?=some (rows.flatten.getD j default):=by
      rw[ki,aV ay];rfl
     have:=k.cell ad ha _ _ _ (Mh j _ VT);rw[ze j z] at this;obtain⟨b0,o0,s0⟩:=ad
     cases hs
     rwa [Addr.add_lit] at this
    ·rw[jx (by simpa using hl)] at hj
     have hlt:=(List.getElem?_eq_some_iff.1 hj).1;simp at hj hlt
     obtain⟨q1,rfl⟩:=by simpa [hlt] using hj
     obtain⟨x,hx⟩:=(hc j ay).1;rw[show rows.length*z+(j-rows.length*z)=j by omega,hx];rfl
   ·have:=lI z k.len
    simp;omega
theorem yp.rep {w:World} {S:Nat→Prop} {z:Nat} {rows:List (List TC)} {v:Value} {A:Option Addr} {c:Nat} {cv:List Ea} (h:yp w S z rows v A c cv) {R:Nat→Prop}:aj w R .deep S (.sub z rows) v:=by
 rw[h.val];have hfl:=bU h.width
 have J4:cv.length=rows.length*z:=by have:=congrArg List.length h.tcs;rw[hfl,cw] at this;exact this.symm
 have tV: ∀{i f:Nat} {tc:TC},qm rows i f=some tc→ ∃t,cv[i*z+f]?=some t∧t.tc=tc∧f<z∧i<rows.length:=fun {i f tc} ht=>by
  obtain⟨h1,h2,h3⟩:=pg h.width ht;rw[h.tcs,gv] at h1
  cases hq:cv[i*z+f]? with
  |none=>rw[hq] at h1;cases h1
  |some t=>rw[hq] at h1;exact⟨t,rfl,by simpa using h1,h2,h3⟩
 have VZ: ∀{i f i' f':Nat},f<z→f'<z→i*z+f=i'*z+f'→i=i'∧f=f':=fun {i f i' f'} h1 h2 e=>by
  have e1:(i*z+f)/z=i:=by rw[Nat.mul_comm,Nat.mul_add_div h.z0,Nat.div_eq_of_lt h1,nw]
  have e2:(i'*z+f')/z=i':=by rw[Nat.mul_comm,Nat.mul_add_div h.z0,Nat.div_eq_of_lt h2,nw]
  have:i=i':=by rw[←e1,e,e2]
  subst this;exact⟨rfl,by omega⟩
 refine .sub _ _ z rows A c (fun i f=>(cv[i*z+f]?.map (·.val)).getD default) (fun i f k=>f<z∧ ∃t,cv[i*z+f]?=some t∧t.own k) ⟨h.le,h.cap,h.z0,h.width,?_,?_,fun hm=>(by cases hm),fun _=>⟨h.none,?_⟩,?_,?_⟩ ?_
 ·intro hne
  cases hA:A with
  |none=>
   have h1:=h.none hA;have h2:=h.le;rw[h1] at h2;exact absurd (xG ay) hne
  |some ad=>exact⟨ad,rfl⟩
 ·intro ad ha i f tc ht
  obtain⟨t,h1,rfl,h2,h3⟩:=tV ht;obtain⟨_,hs,⟨sp,hr,_⟩,_⟩:=h.row ad ha;have:=hr (i*z+f) t.val (by rw[iJ (by rw[cw];exact(List.getElem?_eq_some_iff.1 h1).1),gv,h1];rfl);obtain⟨b0,o0,s0⟩:=ad
  cases hs
  rw[Addr.add_lit,h1];exact this
 ·intro ad ha
  obtain⟨hS,hs,⟨sp,hr,hl⟩,hf,_⟩:=h.row ad ha;refine⟨hS,hs,fun j hj=>⟨⟨_,hr j _ (aV (by rw[hl];exact hj))⟩,hf j hj⟩⟩
 ·intro _ h1 ad ha i
  exact(h.row ad ha).2.2.2.2 h1 i
 ·rintro _ i f k ⟨hf,t,ht,hk⟩
  have hm:=ew ht;refine⟨(h.sub t hm k hk).1,(h.sub t hm k hk).2,fun i' f'=> ?_⟩;rintro⟨hf',t',ht',hk'⟩
  by_cases e:i*z+f=i'*z+f'
  ·have:=VZ hf hf' e
   exact⟨this.1.symm,this.2.symm⟩
  ·have hp:=List.pairwise_iff_getElem.1 h.kz
   obtain⟨l1,e1⟩:=List.getElem?_eq_some_iff.1 ht;obtain⟨l2,e2⟩:=List.getElem?_eq_some_iff.1 ht';rcases Nat.lt_or_gt_of_ne e with hlt|hlt
   ·exact absurd hk' (by have:=hp _ _ l1 l2 hlt;rw[e1,e2] at this;exact this k hk)
   ·exact absurd hk (by have:=hp _ _ l2 l1 hlt;rw[e1,e2] at this;exact this k hk')
 ·intro i f tc ht
  obtain⟨t,h1,rfl,h2,h3⟩:=tV ht;have:=h.ok t (ew h1)
  have e:(cv[i*z+f]?.map (·.val)).getD default=t.val:=by rw[h1];rfl
  show aj w R .deep _ t.tc ((cv[i*z+f]?.map (·.val)).getD default);rw[e];exact aj.mono (aj.Vi this) fun k hk=>⟨h2,t,h1,hk⟩
theorem P1.put {w:World} {b off:Nat} {L us:List Value} (h:P1 w b off L) {p:Nat} (hp:p+us.length≤L.length):P1 (w.setCells b (off+p) us) b off (L.take p++us++L.drop (p+us.length)):=by
 intro k y hk
 have hs: ∀j,j<us.length→(w.cell? ⟨b,off+p+j,none⟩).isSome=true:=fun j hj=>by
  rw[qd,h (p+j) _ (aV ay)];rfl
 by_cases h1:k<p
 ·rw[tY,iJ (by rw[e9];omega),BW,bg h1] at hk
  rw[World.cell?_setCells_out b us _ _ _ (fun _ _=> .inl (by show off+k<off+p;omega))];exact h k y hk
 ·by_cases h2:k<p+us.length
  ·rw[tY,jx (by rw[e9];omega),iJ (by rw[e9];omega),e9,Nat.min_eq_left ay] at hk
   have hl:k-p<us.length:=by omega
   have:=World.cell?_setCells_in b us (off+p) w hs (k-p) hl;rw[show off+p+(k-p)=off+k by omega] at this;rw[this,←hk,aV hl]
  ·rw[jx (by rw[cT,e9];omega),kE,cT,e9,Nat.min_eq_left ay] at hk
   rw[World.cell?_setCells_out b us _ _ _ (fun _ _=> .inr (by show off+p+us.length≤off+k;omega))];exact h k y (by rw[←hk];congr 1;omega)
theorem Lo {w:World} {a:Addr} {y:Value} (h:w.cell? a=some y):a.block<w.heap.size:=by
 unfold World.cell? at h
 split at h
 ·rename_i hh;exact(Array.getElem?_eq_some_iff.1 hh).1
 ·cases h
end Go.T
namespace Go.T
variable {F : Nat → Prop} {A : Arg} {w0 w w' : World} {φ φ' φ1 : Fp} {st st' sta cG : TS} {tm ya : Array Value} {C : ic}
theorem th {z:Nat}: ∀{rows:List (List TC)},(∀r∈rows,r.length=z)→ ∀i,(rows.take i).flatten=rows.flatten.take (i*z)
 |[],_,i=>by simp
 |r::rs,hw,0=>by simp
 |r::rs,hw,i+1=>by
  have hr:=hw r (.head _);rw[List.take_succ_cons,vr,vr,th (fun r hr=>hw r (.tail _ hr)) i,DJ,List.take_append,hr];rw[Q5 (by omega:r.length≤i*z+z),show i*z+z-z=i*z by omega]
theorem tj {z:Nat}: ∀{rows:List (List TC)},(∀r∈rows,r.length=z)→ ∀i,(rows.drop i).flatten=rows.flatten.drop (i*z)
 |[],_,i=>by simp
 |r::rs,hw,0=>by simp
 |r::rs,hw,i+1=>by
  have hr:=hw r (.head _);rw[List.drop_succ_cons,vr,tj (fun r hr=>hw r (.tail _ hr)) i,DJ,List.drop_append,hr];rw[zd (by omega:r.length≤i*z+z),qc,show i*z+z-z=i*z by omega]
def Ea.out (t:Ea):Ea:=⟨.any,t.val,fun _=>False⟩
theorem B1 {z:Nat}: ∀n,(List.replicate n (List.replicate z TC.any)).flatten=List.replicate (n*z) TC.any
 |0=>by simp
 |n+1=>by
  rw[List.replicate_succ,vr,B1 n,DJ,Nat.add_comm,List.replicate_append_replicate]
theorem P2 (l:List Ea):(l.map Ea.out).map (·.tc)=List.replicate l.length .any:=by
 induction l with
 |nil=>rfl
 |cons a l ih=>rw[List.map_cons,List.map_cons,ih,e8,List.replicate_succ];rfl
theorem Ob (l:List Ea):(l.map Ea.out).map (·.val)=l.map (·.val):=by
 rw[List.map_map];rfl
attribute [local semireducible] eM av in
theorem yp.move {S:Nat→Prop} {z:Nat} {rows:List (List TC)} {v:Value} {Ad:Option Addr} {c:Nat} {cv:List Ea} (o:yp w S z rows v Ad c cv) {l h:Int} (h0:0≤l) (h1:l≤h) (h2:h≤rows.length):
 ∃Uk itm:List Ea,yp w (fun k=>S k∧ ¬ ∃t∈itm,t.own k) z (eM z rows l h) v Ad c Uk∧(eM z rows l h).length=rows.length∧(av rows l h).flatten=itm.map (·.tc)∧itm.map (·.val)=((cv.map (·.val)).take (h.toNat*z)).drop (l.toNat*z)∧
  (∀t∈itm,t.ok w∧ ∀k,t.own k→S k∧ ∀ad,Ad=some ad→k≠ad.block)∧itm.Pairwise Ea.apart∧(∀r∈av rows l h,r.length=z):=by
 obtain⟨a,ha⟩: ∃a,a=l.toNat:=⟨_,rfl⟩;obtain⟨b,hb⟩: ∃b,b=h.toNat:=⟨_,rfl⟩
 have hab:a≤b:=by omega
 have Nf:b≤rows.length:=by omega
 have lt:=o.width
 have li:cv.length=rows.length*z:=by
  have:=congrArg List.length o.tcs;rw[bU o.width,cw] at this;exact this.symm
 have e1:=lI z hab;have e2:=lI z Nf;obtain⟨i1,hi1⟩: ∃i1,i1=cv.take (a*z):=⟨_,rfl⟩;obtain⟨i2,hi2⟩: ∃i2,i2=(cv.take (b*z)).drop (a*z):=⟨_,rfl⟩;obtain⟨i3,AR⟩: ∃i3,i3=cv.drop (b*z):=⟨_,rfl⟩
 have hsplit:cv=i1++i2++i3:=by
  rw[hi1,hi2,AR];have q1:=xH (b*z) cv;have q2:=xH (a*z) (cv.take (b*z));rw[List.take_take,Nat.min_eq_left e1] at q2;rw[q2,q1]
 have l1:i1.length=a*z:=by rw[hi1,e9];omega
 have l2:i2.length=(b-a)*z:=by rw[hi2,jy,e9,Nat.sub_mul];omega
 have hd:=o.kz;rw[hsplit] at hd;obtain⟨d12,d3,d123⟩:=List.pairwise_append.1 hd;obtain⟨d1,d2,dc⟩:=List.pairwise_append.1 d12
 have m1: ∀t∈i1,t∈cv:=fun t ht=>by rw[hsplit];exact fm _ (fm _ ht)
 have m2: ∀t∈i2,t∈cv:=fun t ht=>by rw[hsplit];exact fm _ (jz _ ht)
 have m3: ∀t∈i3,t∈cv:=fun t ht=>by rw[hsplit];exact jz _ ht
 have hv:(i1++i2.map Ea.out++i3).map (·.val)=cv.map (·.val):=by
  rw[hsplit];simp only[vt,Ob]
 have hlen:(eM z rows l h).length=rows.length:=by
  unfold eM;rw[←ha,←hb];simp only[cT,e9,List.length_replicate,jy];omega
 have hfl:(eM z rows l h).flatten=(i1++i2.map Ea.out++i3).map (·.tc):=by
  unfold eM;rw[←ha,←hb,Ld,Ld,th lt,tj lt,B1,vt,vt,P2,l2,o.tcs,hi1,AR,IF,DH]
 have anyA: ∀t∈i2.map Ea.out,∀k,¬t.own k:=fun t ht k hk=>by
  obtain⟨t0,_,rfl⟩:=List.mem_map.1 ht;exact hk
 refine⟨i1++i2.map Ea.out++i3,i2,⟨?_,by rw[hlen];exact o.le,o.cap,o.z0,fun r hr=> ?_,hfl,fun t ht=> ?_,?_,fun t ht k hk=> ?_,o.none,fun ad e=> ?_⟩,hlen,?_,?_,fun t ht=>⟨o.ok t (m2 t ht),fun k hk=>o.sub t (m2 t ht) k hk⟩,d2,fun r hr=> ?_⟩
 ·rw[hlen];exact o.val
 ·unfold eM at hr
  rcases List.mem_append.1 hr with hr|hr
  ·rcases List.mem_append.1 hr with hr|hr
   ·exact lt r (r8 hr)
   ·rw[List.eq_of_mem_replicate hr,List.length_replicate]
  ·exact lt r (vu hr)
 ·rcases List.mem_append.1 ht with ht|ht
  ·rcases List.mem_append.1 ht with ht|ht
   ·exact o.ok t (m1 t ht)
   ·obtain⟨t0,h0,rfl⟩:=List.mem_map.1 ht
    have:=o.ok t0 (m2 t0 h0);exact .any _ _ _ ⟨mT this,aj.cells this⟩
  ·exact o.ok t (m3 t ht)
 ·refine List.pairwise_append.2 ⟨List.pairwise_append.2 ⟨d1,?_,fun x hx y hy k _ hk=>anyA y hy k hk⟩,d3,fun x hx y hy=> ?_⟩
  ·rw[List.pairwise_map]
   exact d2.imp fun _ k hk=>hk.elim
  ·rcases List.mem_append.1 hx with hx|hx
   ·exact d123 x (fm _ hx) y hy
   ·exact fun k hk=>(anyA x hx k hk).elim
 ·rcases List.mem_append.1 ht with ht|ht
  ·rcases List.mem_append.1 ht with ht|ht
   ·exact⟨⟨(o.sub t (m1 t ht) k hk).1,fun⟨t',ht',hk'⟩=>dc t ht t' ht' k hk hk'⟩,(o.sub t (m1 t ht) k hk).2⟩
   ·exact(anyA t ht k hk).elim
  ·exact⟨⟨(o.sub t (m3 t ht) k hk).1,fun⟨t',ht',hk'⟩=>d123 t' (jz _ ht') t ht k hk' hk⟩,(o.sub t (m3 t ht) k hk).2⟩
 ·obtain⟨r1,r2,r3,r4⟩:=o.row ad e
  refine⟨⟨r1,fun⟨t,ht,hk⟩=>(o.sub t (m2 t ht) _ hk).2 ad e rfl⟩,r2,?_,r4⟩;rw[hv];exact r3
 ·unfold av
  rw[←ha,←hb,tj (fun r hr=>lt r (r8 hr)),th lt,o.tcs,hi2,DH,IF]
 ·rw[←ha,←hb,hi2,DH,IF]
 ·unfold av at hr
  exact lt r (r8 (vu hr))
theorem aG.Tw (h:aG F A w0 φ st tm w) {o g:Nat} {z:Nat} {rows:List (List TC)} (hb:aa o st.ob=some ⟨true,z,rows⟩) {l hh:Int} (h0:0≤l) (h1:l≤hh) (h2:hh≤rows.length) (hg:g≠0) (U5:g≠o):
 ∃φ2,aG F A w0 φ2 (yd g o ⟨true,z,rows⟩ l hh st) tm w∧φ2.β=φ.β∧(∀d,d≠g→φ2.V d=φ.V d)∧(∀d k,d≠g→φ2.S d k→φ.S d k)∧
  ∃vs X,vs.length=(av rows l hh).length*z∧(∀r∈av rows l hh,r.length=z)∧(∀vX,ue z rows.length l hh (φ.V o) vX→ ∀ad n c,vX= .slice (some ad) n c→ ∀(j:Nat) (x:Value),vs[j]?=some x→w.cell? (ad.add j)=some x)∧
   ∀sta:TS,az sta.ob g→hD w φ2 sta (T.iY g sta) (cP .deep (av rows l hh).flatten vs) X (fun _=>False):=by
 have hin:az st.ob o:=⟨_,hb⟩;have hO:aj w φ.I .deep (φ.S o) (.sub z rows) (φ.V o):=h.obj o _ hb;obtain⟨Ad,c,cv,op⟩:=hO.opened;obtain⟨Uk,itm,op',e1,e2,e3,e4,e5,e6⟩:=op.move h0 h1 h2;have hS: ∀t∈itm,∀k,t.own k→φ.S o k:=fun t ht k hk=>((e4 t ht).2 k hk).1
 have w1:=h.nM (w':=w) (b':=⟨true,z,eM z rows l hh⟩) (X:=fun k=>φ.S o k∧ ¬ ∃t∈itm,t.own k) hb rfl e1 op'.rep h.frm (cc _) (fun _ _ _=>rfl)
  (fun k hk=>h.sep.fresh o k hin hk.1) (fun k hk=>h.sep.read o k hin hk.1) (fun k d hk hne hd hs=>hne (h.sep.apart d o k hd hin hs hk.1)) (fun b cs BU hw hk=>(h.sep.box b cs BU hw).2.1 o hin hk.1)
 have kg: ∀d,az (T.nM o ⟨true,z,eM z rows l hh⟩ st).ob d→az st.ob d:=fun d hd=>by
  have:az (jr o ⟨true,z,eM z rows l hh⟩ st.ob) d:=hd;rw[fu] at this;exact this.elim (fun e=>e▸hin) id
 have w2:=w1.vz (o:=g) (b:=⟨true,1,[]⟩) (X:=fun k=> ∃t∈itm,t.own k) (v:= .slice none 0 0) hg (qq (Nat.lt_succ_self 0)) (fun k ⟨t,ht,hk⟩=>h.sep.fresh o k hin (hS t ht k hk)) (fun k ⟨t,ht,hk⟩=>h.sep.read o k hin (hS t ht k hk))
  (fun k d ⟨t,ht,hk⟩ hne hd hs=>by
    by_cases e:d=o
    ·subst e
     have hs:(if d=d then φ.S d k∧ ¬ ∃t∈itm,t.own k else φ.S d k):=hs;rw[bg rfl] at hs;exact hs.2 ⟨t,ht,hk⟩
    ·rw[ot e] at hs
     exact e (h.sep.apart d o k (kg d hd) hin hs (hS t ht k hk)))
  (fun b cs BU hw ⟨t,ht,hk⟩=>by
    obtain⟨cs0,hc0,_⟩:=ei _ b cs BU
    exact(h.sep.box b cs0 hc0 hw).2.1 o hin (hS t ht _ hk))
 have lits:cv.length=rows.length*z:=by
  have:=congrArg List.length op.tcs;rw[bU op.width,cw] at this;exact this.symm
 have litm:itm.length=(av rows l hh).length*z:=by
  have:=congrArg List.length e2;rw[bU e6,cw] at this;exact this.symm
 refine⟨_,w2,rfl,fun d hd=> ?_,fun d k hd hs=> ?_,itm.map (·.val),fun i k=> ∃t,itm[i]?=some t∧t.own k,by rw[cw];exact litm,e6,fun vX hc ad n c' ev j x hj=> ?_,fun sta hgd=>⟨fun i it hi=> ?_,fun i k hi hk=>⟨id,g,hgd,fun hd=>(fX.1 hd).1 rfl,?_⟩,fun k hk=>hk.elim,fun i j k hi hj hk hk'=> ?_,cV.kill sta g⟩⟩
 ·show(if d=g then _ else if d=o then φ.V o else φ.V d)=φ.V d
  rw[aR hd]
  split
  ·subst_vars;rfl
  ·rfl
 ·rw[ot hd] at hs
  by_cases e:d=o
  ·subst e
   have hs:(if d=d then φ.S d k∧ ¬ ∃t∈itm,t.own k else φ.S d k):=hs;rw[bg rfl] at hs;exact hs.1
  ·rw[ot e] at hs;exact hs
 ·obtain⟨c1,c2,c3,A0,A',c0,f1,f2,f3,f4,f5⟩:=hc
  rw[op.val] at f1
  cases f1
  rw[ev] at f2
  cases f2
  obtain⟨ad0,hA⟩: ∃ad0,Ad=some ad0:=by
   cases hA:Ad with
   |none=>have:=f4 hA;cases this
   |some ad0=>exact⟨ad0,rfl⟩
  obtain⟨_,hsp,⟨sp,hr,hrl⟩,_⟩:=op.row ad0 hA;rw[e3] at hj;have hjl:=(List.getElem?_eq_some_iff.1 hj).1;rw[jy,e9,cw,lits] at hjl;rw[kE,BW] at hj
  split at hj
  ·have hbz:hh.toNat*z≤rows.length*z:=lI z ay
   have hx:=hr _ x (by rw[iJ (by rw[cw,lits];exact fI SX hbz)];exact hj);have hle:=op.le;have hz:=op.z0
   have hne:c≠l.toNat:=fun e=>by
    have:hh.toNat≤l.toNat:=by omega
    have:=lI z this;omega
   have:=f3 hne;rw[hA] at this;simp only[ij,aY] at this;obtain⟨b0,o0,s0⟩:=ad0
   cases hsp
   rw[this,Addr.add_add,Addr.add_lit];rw[←qd] at hx;rw[show o0+(l.toNat*z+j)=o0+l.toNat*z+j by omega];exact hx
  ·cases hj
 ·obtain⟨tc,v,t1,t2,rfl⟩:=iQ hi
  rw[e2,gv] at t1;rw[gv] at t2
  cases hq:itm[i]? with
  |none=>rw[hq] at t1;cases t1
  |some t=>
   rw[hq] at t1 t2;simp only[ij,aY] at t1 t2;subst t1 t2;exact aj.mono (aj.Vi (e4 t (ew hq)).1) fun k hk=>⟨t,rfl,hk⟩
 ·obtain⟨t,ht,hk⟩:=hk
  show(if g=g then ∃t∈itm,t.own k else _);rw[bg rfl];exact⟨t,ew ht,hk⟩
 ·obtain⟨t,ht,hk⟩:=hk
  obtain⟨t',ht',hk'⟩:=hk';obtain⟨l1,q1⟩:=List.getElem?_eq_some_iff.1 ht;obtain⟨l2,q2⟩:=List.getElem?_eq_some_iff.1 ht';have hp:=List.pairwise_iff_getElem.1 e5;rcases Nat.lt_trichotomy i j with hlt|rfl|hlt
  ·exact absurd hk' (by have:=hp _ _ l1 l2 hlt;rw[q1,q2] at this;exact this k hk)
  ·rfl
  ·exact absurd hk (by have:=hp _ _ l2 l1 hlt;rw[q1,q2] at this;exact this k hk')
end Go.T
namespace Go.T
variable {F : Nat → Prop} {A : Arg} {w0 w w' : World} {φ φ' : Fp} {st st' sta cG jL : TS} {tm ya : Array Value} {C : ic}
variable {R : Type} {cf : Cf} {lp : Lp} {Q : R → Prop}
theorem Gr {e:TypeId} {z:Nat} (h:AV C e z=true):rK (C.tt e)=true∧z=(C.tt e).size:=by
 unfold AV at h
 split at h
 ·exact⟨by assumption,eD h⟩
 ·cases h
attribute [local semireducible] cQ in
theorem Eb {rows:List (List TC)} (h:cQ rows=true): ∀(p:Nat) (tc:TC),rows.flatten[p]?=some tc→ ∃v,tc= .sc v:=fun p tc hp=>by
 have hm:=ew hp;obtain⟨r,hr,hc⟩:=List.mem_flatten.1 hm;have h1:=List.all_eq_true.1 h r hr;have h2:=List.all_eq_true.1 h1 tc hc
 cases tc with
 |any=>cases h2
 |sc v=>exact⟨v,rfl⟩
 |sub z rows=>cases h2
structure Sa (w:World) (φ:Fp) (st sta:TS) (dp:Bool) (z:Nat) (rows:List (List TC)) (vS:Value) (M:Mode) (wZ:List Value) (X1:Nat→Nat→Prop) (Z1:Nat→Prop) (Ad:Option Addr) (c:Nat):Prop where
 val:vS= .slice Ad rows.length c
 parts:hD w φ st sta (cP M rows.flatten wZ) X1 Z1
 width: ∀r∈rows,r.length=z
 len:wZ.length=rows.length*z
 le:rows.length≤c
 max:c≤maxLen
 at':(Ad=none∧rows=[]∧c=0)∨ ∃ad,Ad=some ad∧ad.spot=none∧(∃o,az st.ob o∧ ¬az sta.ob o∧φ.S o ad.block)∧(∀(j:Nat) (v:Value),wZ[j]?=some v→w.cell? (ad.add j)=some v)∧
    (∀j,j<c*z→(∃x,w.cell? ⟨ad.block,ad.off+j,none⟩=some x)∧w.frozen? ⟨ad.block,ad.off+j,none⟩=false)∧(∀i k,X1 i k→k≠ad.block)∧(∀k,Z1 k→k≠ad.block)∧(1<z→ ∀i,w.frozen? ⟨ad.block,i,none⟩=false)
theorem zL (h:aG F A w0 φ st tm w) {cs:CE} {vS:Value} (hc:cj st.ob w φ cs vS) {o:Option Nat} {z:Nat} {dp:Bool} {rows:List (List TC)} (hb:rL st cs=some (o,z,dp,rows)) {M:Mode} (hM:M= .snap∨M= .deep∧dp=true):
 0<z∧aG F A w0 φ (jA o st) tm w∧ ∃wZ X1 Z1 Ad c,Sa w φ st (jA o st) dp z rows vS M wZ X1 Z1 Ad c:=by
 unfold rL at hb
 split at hb
 ·cases hb
  obtain⟨rfl,hz⟩:=hc;exact⟨hz,h,[],_,_,none,0,rfl,hD.nil _,fun r hr=>(by cases hr),by simp,cc _,vv _,.inl ⟨rfl,rfl,rfl⟩⟩
 ·rename_i o' cut
  cases hl:aa o' st.ob with
  |none=>rw[hl] at hb;cases hb
  |some b=>
   obtain⟨d0,z0,jM⟩:=b;rw[hl] at hb
   cases hb
   obtain⟨b0,e0,vp⟩:=hc;rw[hl] at e0
   cases e0
   have hr:=iZ.cut (h.obj o' _ hl) vp
   have hm:OB.m ⟨dp,z,jM⟩≠ .snap:=by unfold OB.m;split<;>simp
   obtain⟨wZ,X1,Z1,l1,p1,a1⟩:=aj.parts h ⟨_,hl⟩ hr hm (M:=M) (hM.imp id fun⟨e1,e2⟩=>⟨e1,by rw[e2];rfl⟩);obtain⟨_,_,sW,hz,_⟩:=hr.vals;refine⟨hz,h.iY o',wZ,X1,Z1,?_⟩
   cases hr with
   |sub _ _ _ _ Ad c u T k hn=>
    refine⟨Ad,c,rfl,p1,sW,l1,k.len,k.cap,?_⟩
    cases Ad with
    |none=>
     have hne:IK cut jM=[]:=Classical.byContradiction fun hne=>by obtain⟨ad,h⟩:=k.addr hne;cases h
     exact .inl ⟨rfl,hne,(k.own hm).1 rfl⟩
    |some ad=>
     obtain⟨hS,hs,hall⟩:=(k.own hm).2 ad rfl;obtain⟨q1,q2,q3⟩:=a1 ad _ _ rfl;exact .inr ⟨ad,rfl,hs,⟨o',⟨_,hl⟩,fun hd=>(fX.1 hd).1 rfl,hS⟩,q1,hall,q2,q3,fun M6=>k.soft hm M6 ad rfl⟩
 ·cases hb
theorem P3 (h:aG F A w0 φ st tm w) {kC:TS} (hsub:cV st kC) {cx:CE} {vX:Value} (hc:cj kC.ob w φ cx vX) {tx e':TypeId} (hk:C.P.underlying tx=some (.slice e')) {z:Nat} {rows:List (List TC)} {cG:TS} {d1:Bool} (hab:jP cx st=some (.sub z rows,cG,d1))
 {M:Mode} (hM:M= .snap∨M= .deep∧d1=true):aG F A w0 φ cG tm w∧ ∃tW X2 Z2,hD w φ st cG (cP M rows.flatten tW) X2 Z2∧(∀r∈rows,r.length=z)∧tW.length=rows.length*z∧Src C.P z tx vX rows.length tW w:=by
 unfold jP at hab
 split at hab
 ·cases hab
 ·cases hab
  obtain⟨rfl,hz⟩:=hc;exact⟨h,[],_,_,hD.nil _,fun r hr=>(by cases hr),by simp,Src.ofNil w hk 0⟩
 ·rename_i o cut
  cases hl:aa o st.ob with
  |none=>rw[hl] at hab;cases hab
  |some b=>
   obtain⟨d0,z0,jM⟩:=b;rw[hl] at hab
   cases hab
   obtain⟨b0,e0,vp⟩:=hc;rw[hsub.ob _ _ hl] at e0
   cases e0
   have hr:=iZ.cut (h.obj o _ hl) vp
   have hm:OB.m ⟨d1,z,jM⟩≠ .snap:=by unfold OB.m;split<;>simp
   obtain⟨wZ,X1,Z1,l1,p1,a1⟩:=aj.parts h ⟨_,hl⟩ hr hm (M:=M) (hM.imp id fun⟨e1,e2⟩=>⟨e1,by rw[e2];rfl⟩);obtain⟨_,_,sW,hz,_⟩:=hr.vals;refine⟨h.iY o,wZ,X1,Z1,p1,sW,l1,D9 hr hk rfl l1 (fun ad n c e=>(a1 ad n c e).1) fun y hy=> ?_⟩;obtain⟨j,hj,rfl⟩:=List.mem_iff_getElem.1 hy;exact mT (p1.ok j _ (ji (aV (by rw[bU sW,←l1];exact hj)) (aV hj)))
 ·rename_i l z0 jM
  cases hab
  have VU:M= .snap:=hM.elim id fun⟨_,e⟩=>by cases e
  subst VU;have hr:=hc.2.1;obtain⟨vs,l1,sW,hz,hcell,rY⟩:=hr.vals
  have hok: ∀(i:Nat) (it:It),(cP .snap rows.flatten vs)[i]?=some it→it.1= .snap∧aj w (fun k=>φ.I k∨False) .snap AP it.2.1 it.2.2:=fun i it hi=>by
   obtain⟨tc,v,h1,h2,rfl⟩:=iQ hi;obtain⟨T,hT⟩:=rY i tc v h1 h2;exact⟨rfl,hT.kj fun k hk=>hk.elim .inl fun⟨d,hd,_⟩=>by cases hd⟩
  refine⟨h,vs,fun _ _=>False,fun _=>False,⟨fun i it hi=> ?_,fun _ _ _ hk=>hk.elim,fun _ hk=>hk.elim,fun _ _ _ _ _ hk=>hk.elim,cV.refl _⟩,sW,l1,D9 hr hk rfl l1 hcell fun y hy=> ?_⟩
  ·obtain⟨e1,e2⟩:=hok i it hi
   rw[e1];exact e2
  ·obtain⟨j,hj,rfl⟩:=List.mem_iff_getElem.1 hy
   exact mT (hok j _ (ji (aV (by rw[bU sW,←l1];exact hj)) (aV hj))).2
 ·cases hab
theorem MD (h:aG F A w0 φ st tm w) {cx:CE} {vX:Value} (hc:cj st.ob w φ cx vX) {tx e':TypeId} (hk:C.P.underlying tx=some (.slice e')) {z:Nat} {rows:List (List TC)} (hr:jt st cx=some (z,rows)) (hsc:cQ rows=true) (M:Mode) (sta:TS):
 ∃tW,hD w φ sta sta (cP M rows.flatten tW) (fun _ _=>False) (fun _=>False)∧(∀r∈rows,r.length=z)∧tW.length=rows.length*z∧Src C.P z tx vX rows.length tW w:=by
 obtain⟨rY,_⟩:=lK h hc hr;obtain⟨vs,l1,sW,hz,hcell,Mi⟩:=rY.vals
 have hok: ∀(M:Mode) (i:Nat) (it:It),(cP M rows.flatten vs)[i]?=some it→ ∃v,it=(M,.sc v,v)∧Ck v:=fun M i it hi=>by
  obtain⟨tc,v,h1,h2,rfl⟩:=iQ hi;obtain⟨T,hT⟩:=Mi i tc v h1 h2;obtain⟨v',rfl⟩:=Eb hsc i tc h1
  cases hT with
  |sc _ _ _ hs=>exact⟨_,rfl,hs⟩
 refine⟨vs,⟨fun i it hi=> ?_,fun _ _ _ hk=>hk.elim,fun _ hk=>hk.elim,fun _ _ _ _ _ hk=>hk.elim,cV.refl _⟩,sW,l1,D9 rY hk rfl l1 hcell fun y hy=> ?_⟩
 ·obtain⟨v,rfl,hs⟩:=hok M i it hi
  exact .sc _ _ _ hs
 ·obtain⟨j,hj,rfl⟩:=List.mem_iff_getElem.1 hy
  obtain⟨v,e1,hs⟩:=hok .deep j _ (ji (aV (by rw[bU sW,←l1];exact hj)) (aV hj))
  have:vs[j]=v:=by have:=congrArg (fun it:It=>it.2.2) e1;exact this
  rw[this]
  cases v<;>first|rfl|cases hs
theorem B2 {g o p:Nat} {b:OB} {l h:Int} (h1:p≠g) (h2:p≠o):aa p (yd g o b l h st).ob=aa p st.ob:=by
 show aa p (jr g _ (kJ g (jr o _ st.ob)))=_;rw[cZ,aR h1,eU,aR h1,cZ,aR h2]
theorem Ec {g o:Nat} {b:OB} {l h:Int}:az (yd g o b l h st).ob g:=by
 refine⟨⟨true,1,[]⟩,?_⟩;show aa g (jr g _ (kJ g (jr o _ st.ob)))=_;rw[cZ,bg rfl]
theorem KG (hT:dN C) {a:Act} (h:aG F A w0 φ st a.tmps w) {o:Oper} {s x:Operand} {t t':TypeId} (ho:o.op= .call {callee:= .builtin .append,args:= #[s,x],argTypes:= #[t,t']}) {K:TS→Ev R} (hd: ∀d,o.dst=some d→d<a.tmps.size) {d:Nat} (gC:o.dst=some d)
 {e:TypeId} (he:rJ C t=some e) {cs cx:CE} (hcs:p7 (lX C st t s)=some cs) {oo:Option Nat} {z:Nat} {dp:Bool} {rows:List (List TC)} (hb:rL st cs=some (oo,z,dp,rows)) (hsz:AV C e z=true) {e2:TypeId} (Tc:C.P.underlying t'=some (.slice e2)) (PC:cj st.ob w φ cs (a.eval s)) (QU:cj st.ob w φ cx (a.eval x))
 {aP:List (List TC)} {cG:TS} (QW:Kh d oo dp cx st=some (z,aP,cG)) (hfit:fits (rows.length+aP.length) (C.tt e).bytes=true) (hk:(K (p8 d ⟨dp,z,rows++aP⟩ cG)).holds cf lp Q):J7 C F A w0 φ st o a w K cf lp Q:=by
 obtain⟨Iz,hz⟩:=Gr hsz;unfold Kh at QW
 split at QW
 ·rename_i o' l hh
  split at QW
  ·rename_i z0 jM hl RB
   simp only[aY,ua] at QW;obtain⟨rfl,rfl,rfl⟩:=QW;rw[Bool.or_eq_false_iff] at RB;obtain⟨PA,U6⟩:=RB
   have U5:mF d 1 0≠o':=fun e=>by rw[e] at U6;simp at U6
   have Xt:mF d 1 0≠0:=by unfold mF;omega
   have Td: ∀p,oo=some p→p≠o'∧p≠mF d 1 0:=fun p e=>by
    rw[e] at PA;simp only[Bool.or_eq_false_iff] at PA;exact⟨lW PA.1,lW PA.2⟩
   obtain⟨b0,hb0,vp⟩:=QU;rw[hl] at hb0
   cases hb0
   have vp:ue z0 jM.length l hh (φ.V o') (a.eval x):=vp;obtain⟨φ2,h2,eβ,eV,eS,tW,X2,xy,Ir,hcell,SL⟩:=h.Tw (g:=mF d 1 0) hl vp.1 vp.2.1 vp.2.2.1 Xt U5
   have RC:cj (yd (mF d 1 0) o' ⟨true,z0,jM⟩ l hh st).ob w φ2 cs (a.eval s)∧rL (yd (mF d 1 0) o' ⟨true,z0,jM⟩ l hh st) cs=some (oo,z0,true,rows):=by
    unfold rL at hb ⊢
    split at hb
    ·cases hb
     exact⟨PC,rfl⟩
    ·rename_i p cut
     obtain⟨bp,WH,Xu⟩:=PC;rw[WH] at hb;obtain⟨dq,zq,rq⟩:=bp;simp only[aY,ua] at hb;obtain⟨rfl,rfl,rfl,rfl⟩:=hb;obtain⟨n1,n2⟩:=Td p rfl;have hlk:=B2 (st:=st) (b:=⟨true,zq,jM⟩) (l:=l) (h:=hh) n2 n1;rw[WH] at hlk;refine⟨⟨_,hlk,?_⟩,?_⟩
     ·rw[eV p n2];exact Xu
     ·simp only[hlk]
    ·cases hb
   obtain⟨_,hka,wZ,X1,Z1,Ad,c,hB⟩:=zL h2 RC.1 RC.2 (M:= .deep) (.inr ⟨rfl,rfl⟩)
   have Ul:az (jA oo (yd (mF d 1 0) o' ⟨true,z0,jM⟩ l hh st)).ob (mF d 1 0):=by
    cases oo with
    |none=>exact Ec
    |some p=>exact fX.2 ⟨fun e=>(Td p rfl).2 e.symm,Ec⟩
   have p2:=SL _ Ul
   have hsrc:Src C.P z0 t' (a.eval x) (av jM l hh).length tW w:=by
    refine D9 (iZ.cut (cut:=some (l,hh)) (h.obj o' _ hl) vp) Tc rfl xy (fun ad n c e=>hcell _ vp ad n c e) fun y hy=> ?_;obtain⟨j,hj,rfl⟩:=List.mem_iff_getElem.1 hy;exact mT (p2.ok j _ (ji (aV (by rw[bU Ir,←xy];exact hj)) (aV hj)))
   obtain⟨v,w',hrun,pZ,hsize,hframe⟩:=Gq (ty:=o.type) hT rfl (oU hT he).1 Iz h2 (hka.iY (mF d 1 0)) (hd d gC) (dp:=true) hz hB.parts p2 hB.width Ir hB.len xy hB.le hB.max hsrc hB.at' hfit;refine⟨.value v,v,w',_,?_,.inl rfl,by rw[gC];exact pZ,hk,hsize,fun k hk QT=>hframe k hk fun ad Fh e=>QT ?_⟩
   ·rw[nD ho]
    simp only[builtin,Sem.run_bind]
    have:(#[s,x].map a.eval)= #[a.eval s,a.eval x]:=by simp
    rw[this,hB.val,hrun]
    rfl
   ·rcases hB.at' with⟨e0,_⟩|⟨ad',e0,_,⟨o2,o21,o22,o23⟩,_⟩
    ·rw[Fh] at e0;cases e0
    ·rw[Fh] at e0
     cases e0
     cases oo with
     |none=>exact absurd o21 o22
     |some p=>
      have:o2=p:=Classical.byContradiction fun hne=>o22 (fX.2 ⟨hne,o21⟩);subst this;obtain⟨n1,n2⟩:=Td o2 rfl
      have g1: ∃q,p7 (lX C st t s)=some (.ref o2 q):=by
       unfold rL at hb
       split at hb
       ·cases hb
       ·rename_i p cut
        split at hb
        ·simp only[aY,ua] at hb
         obtain⟨rfl,_⟩:=hb;exact⟨_,hcs⟩
        ·cases hb
       ·cases hb
      obtain⟨q,g1⟩:=g1
      have g2:az st.ob o2:=by
       obtain⟨b2,hb2⟩:=o21;rw[B2 n2 n1] at hb2;exact⟨b2,hb2⟩
      refine .inr ⟨o2,?_,g2,by rw[e];exact eS o2 _ n2 o23⟩;unfold writes;rw[ho];simp only;refine List.mem_map.2 ⟨o2,?_,rfl⟩
      revert g1
      cases lX C st t s with
      |v tup es=>
       unfold p7
       split
       ·rename_i e0 e1
        intro g1
        cases g1
        simp only[TE.v.injEq] at e1;obtain⟨rfl,rfl⟩:=e1;exact .head _
       ·intro g1;cases g1
       ·intro g1;cases g1
      |_=>intro g1;simp[p7] at g1
  ·cases QW
 ·cases QW
theorem P4 (h:aG F A w0 φ st tm w) {cx:CE} {vX:Value} (hc:cj st.ob w φ cx vX) {tx e':TypeId} (hk:C.P.underlying tx=some (.slice e')) {z:Nat} {rows:List (List TC)} (hr:Nq st cx=some (z,rows)) (sta:TS):
 ∃tW,hD w φ sta sta (cP .snap rows.flatten tW) (fun _ _=>False) (fun _=>False)∧(∀r∈rows,r.length=z)∧tW.length=rows.length*z∧Src C.P z tx vX rows.length tW w:=by
 unfold Nq at hr
 split at hr
 ·rename_i o' cut
  split at hr
  ·rename_i z0 jM hl
   cases hr
   obtain⟨b0,hb0,vp⟩:=hc;rw[hl] at hb0
   cases hb0
   have rY:=iZ.cut (h.obj o' _ hl) vp;obtain⟨vs,l1,sW,hz,hcell,Mi⟩:=rY.vals
   have hok: ∀(i:Nat) (it:It),(cP .snap (IK cut jM).flatten vs)[i]?=some it→it.1= .snap∧aj w (fun k=>φ.I k∨False) .snap AP it.2.1 it.2.2:=fun i it hi=>by
    obtain⟨tc,v,t1,t2,rfl⟩:=iQ hi;obtain⟨T,hT⟩:=Mi i tc v t1 t2;exact⟨rfl,hT.kj fun k hk=> .inl hk⟩
   refine⟨vs,⟨fun i it hi=> ?_,fun _ _ _ hk=>hk.elim,fun _ hk=>hk.elim,fun _ _ _ _ _ hk=>hk.elim,cV.refl _⟩,sW,l1,D9 rY hk rfl l1 hcell fun y hy=> ?_⟩
   ·obtain⟨e1,e2⟩:=hok i it hi
    rw[e1];exact e2.mono fun k hk=>hk.elim
   ·obtain⟨j,hj,rfl⟩:=List.mem_iff_getElem.1 hy
    exact mT (hok j _ (ji (aV (by rw[bU sW,←l1];exact hj)) (aV hj))).2
  ·cases hr
 ·cases hr
theorem ME (hT:dN C) {a:Act} (h:aG F A w0 φ st a.tmps w) {o:Oper} {args:Array Operand} {ts:Array TypeId} (ho:o.op= .call {callee:= .builtin .append,args,argTypes:=ts}) {K:TS→Ev R} (hd: ∀d,o.dst=some d→d<a.tmps.size) (hk:(jQ C st o K).holds cf lp Q):
 J7 C F A w0 φ st o a w K cf lp Q:=by
 unfold jQ at hk;rw[ho] at hk;simp only at hk
 split at hk
 ·rename_i d s x t t' gC h1 h2
  have e1:args= #[s,x]:=by cases args;simp at h1;subst h1;rfl
  have e2:ts= #[t,t']:=by cases ts;simp at h2;subst h2;rfl
  subst e1 e2;have V0:=cU hT h t s;have S9:=cU hT h t' x
  have fin: ∀{dp:Bool} {z:Nat} {e:TypeId} {rows aP:List (List TC)} {sta cG:TS} {wZ tW:List Value} {X1 X2:Nat→Nat→Prop} {Z1 Z2:Nat→Prop} {Ad:Option Addr} {c:Nat} {cs:CE} {oo:Option Nat},
   rJ C t=some e→p7 (lX C st t s)=some cs→rL st cs=some (oo,z,(match dp with|true=>true|false=>false),rows)∨True→AV C e z=true→Sa w φ st sta dp z rows (a.eval s) (if dp then .deep else .snap) wZ X1 Z1 Ad c→(∀ad,Ad=some ad→ ∃o',p7 (lX C st t s)=some (.ref o' none)∨(∃q,p7 (lX C st t s)=some (.ref o' q))∧True)→
   (∀ad,Ad=some ad→ ∃o' q,p7 (lX C st t s)=some (.ref o' q)∧az st.ob o'∧φ.S o' ad.block)→
   aG F A w0 φ cG a.tmps w→hD w φ sta cG (cP (if dp then .deep else .snap) aP.flatten tW) X2 Z2→(∀r∈aP,r.length=z)→tW.length=aP.length*z→Src C.P z t' (a.eval x) aP.length tW w→fits (rows.length+aP.length) (C.tt e).bytes=true→
   (K (p8 d ⟨dp,z,rows++aP⟩ cG)).holds cf lp Q→J7 C F A w0 φ st o a w K cf lp Q:=by
   intro dp z e rows aP sta cG wZ tW X1 X2 Z1 Z2 Ad c cs oo he hcs _ hsz hb _ hown IB p2 Ir xy hsrc hfit hk;obtain⟨Iz,hz⟩:=Gr hsz;obtain⟨v,w',hrun,pZ,hsize,hframe⟩:=Gq (ty:=o.type) hT rfl (oU hT he).1 Iz h IB (hd d gC) hz hb.parts p2 hb.width Ir hb.len xy hb.le hb.max hsrc hb.at' hfit;refine⟨.value v,v,w',_,?_,.inl rfl,by rw[gC];exact pZ,hk,hsize,fun k hk QT=>hframe k hk fun ad Fh e=>QT ?_⟩
   ·rw[nD ho]
    simp only[builtin,Sem.run_bind]
    have:(#[s,x].map a.eval)= #[a.eval s,a.eval x]:=by simp
    rw[this,hb.val,hrun]
    rfl
   ·obtain⟨o',q,g1,g2,g3⟩:=hown ad Fh
    refine .inr ⟨o',?_,g2,by rw[e];exact g3⟩;unfold writes;rw[ho];simp only;refine List.mem_map.2 ⟨o',?_,rfl⟩
    revert g1
    cases lX C st t s with
    |v tup es=>
     unfold p7
     split
     ·rename_i e0 e1
      intro g1
      cases g1
      simp only[TE.v.injEq] at e1;obtain⟨rfl,rfl⟩:=e1;exact .head _
     ·intro g1;cases g1
     ·intro g1;cases g1
    |_=>intro g1;simp[p7] at g1
  unfold Lh at hk
  split at hk
  ·rename_i e cs cx he hcs V2
   obtain⟨_,PC⟩:=qn V0 hcs;obtain⟨_,QU⟩:=qn S9 V2
   have hown: ∀{oo:Option Nat} {z:Nat} {dp dp':Bool} {rows:List (List TC)} {M:Mode} {wZ:List Value} {X1:Nat→Nat→Prop} {Z1:Nat→Prop} {Ad:Option Addr} {c:Nat},rL st cs=some (oo,z,dp,rows)→Sa w φ st (jA oo st) dp' z rows (a.eval s) M wZ X1 Z1 Ad c→
    ∀ad,Ad=some ad→ ∃o' q,p7 (lX C st t s)=some (.ref o' q)∧az st.ob o'∧φ.S o' ad.block:=fun {oo z dp dp' rows M wZ X1 Z1 Ad c} hb hB ad Fh=>by
    unfold rL at hb
    split at hb
    ·cases hb
     rcases hB.at' with⟨e0,_⟩|⟨ad',e0,_,⟨o',o1,o2,o3⟩,_⟩
     ·rw[Fh] at e0;cases e0
     ·exact absurd o1 o2
    ·rename_i o' cut
     cases hl:aa o' st.ob with
     |none=>rw[hl] at hb;cases hb
     |some b=>
      obtain⟨d0,z0,jM⟩:=b;rw[hl] at hb
      cases hb
      rcases hB.at' with⟨e0,_⟩|⟨ad',e0,_,⟨o2,o21,o22,o23⟩,_⟩
      ·rw[Fh] at e0;cases e0
      ·rw[Fh] at e0
       cases e0
       have:o2=o':=Classical.byContradiction fun hne=>o22 (fX.2 ⟨hne,o21⟩);subst this;exact⟨o2,cut,hcs,o21,o23⟩
    ·cases hb
   split at hk
   ·rename_i oo z dp rows hb V3
    split at hk
    ·rename_i b hsz hz1
     have hk2:(match fits (rows.length+b.size) (C.tt e).bytes with|true=>K (p8 d ⟨dp,z,rows++xI b⟩ (jA oo st))|false=> .fail:Ev R).holds cf lp Q:=hk;clear hk
     split at hk2
     ·rename_i hfit
      have hz1:=eD hz1;subst hz1;obtain⟨hz,hka,wZ,X1,Z1,Ad,c,hB⟩:=zL h PC hb (M:=if dp then .deep else .snap) (by cases dp<;>simp);have hv:=Hf QU
      exact fin (oo:=oo) he hcs (.inr trivial) hsz hB (fun ad Fh=>let ⟨o',q,g,_⟩:=hown hb hB ad Fh;⟨o',.inr ⟨⟨q,g⟩,trivial⟩⟩) (hown hb hB) hka (Gp b _ _) (B0 b) (by rw[byteCells_length,jY,Nat.mul_one])
       (by rw[hv,jY];exact Src.ofString w (D1 hT V3) b) (by rw[jY];exact hfit) hk2
     ·exact hk2.elim
    ·exact hk.elim
   ·rename_i oo z dp rows e2 hb M9
    have Tc:=(D2 hT M9).1
    split at hk
    ·exact hk.elim
    ·rename_i hsz
     split at hk
     ·split at hk
      ·rename_i z' aP hr
       split at hk
       ·rename_i yZ
        have yZ:=eD yZ;subst yZ;have hk2:(match(cQ aP&&fits (rows.length+aP.length) (C.tt e).bytes) with|true=>K (p8 d ⟨dp,z,rows++aP⟩ (jA oo st))|false=> .fail:Ev R).holds cf lp Q:=hk;clear hk
        split at hk2
        ·rename_i hfit
         simp only[dm] at hfit;obtain⟨hz,hka,wZ,X1,Z1,Ad,c,hB⟩:=zL h PC hb (M:=if dp then .deep else .snap) (by cases dp<;>simp);obtain⟨tW,p2,Ir,xy,hsrc⟩:=MD h QU Tc hr hfit.1 (if dp then .deep else .snap) (jA oo st);exact fin (oo:=oo) he hcs (.inr trivial) hsz hB (fun ad Fh=>let ⟨o',q,g,_⟩:=hown hb hB ad Fh;⟨o',.inr ⟨⟨q,g⟩,trivial⟩⟩) (hown hb hB) hka p2 Ir xy hsrc hfit.2 hk2
        ·exact hk2.elim
       ·exact hk.elim
      ·exact hk.elim
     ·split at hk
      ·rename_i z' aP cG QW
       split at hk
       ·rename_i yZ
        have yZ:=eD yZ;subst yZ;have hk2:(match fits (rows.length+aP.length) (C.tt e).bytes with|true=>K (p8 d ⟨dp,z,rows++aP⟩ cG)|false=> .fail:Ev R).holds cf lp Q:=hk;clear hk
        split at hk2
        ·rename_i hfit
         exact KG hT h ho hd gC he hcs hb hsz Tc PC QU QW hfit hk2
        ·exact hk2.elim
       ·exact hk.elim
      split at hk
      ·rename_i z' aP Xv
       split at hk
       ·rename_i yZ
        have yZ:=eD yZ;subst yZ;have hk2:(match fits (rows.length+aP.length) (C.tt e).bytes with|true=>K (p8 d ⟨false,z,rows++aP⟩ (jA oo st))|false=> .fail:Ev R).holds cf lp Q:=hk;clear hk
        split at hk2
        ·rename_i hfit
         obtain⟨hz,hka,wZ,X1,Z1,Ad,c,hB⟩:=zL h PC hb (M:= .snap) (.inl rfl);obtain⟨tW,p2,Ir,xy,hsrc⟩:=P4 h QU Tc Xv (jA oo st);exact fin (oo:=oo) (dp:=false) he hcs (.inr trivial) hsz ⟨hB.val,hB.parts,hB.width,hB.len,hB.le,hB.max,hB.at'⟩ (fun ad Fh=>let ⟨o',q,g,_⟩:=hown hb hB ad Fh;⟨o',.inr ⟨⟨q,g⟩,trivial⟩⟩) (hown hb hB) hka p2 Ir xy hsrc hfit hk2
        ·exact hk2.elim
       ·exact hk.elim
      split at hk
      ·rename_i z' aP cG d1 hab
       split at hk
       ·rename_i yZ
        have yZ:=eD yZ;subst yZ;have hk2:(match fits (rows.length+aP.length) (C.tt e).bytes with|true=>K (p8 d ⟨dp&&d1,z,rows++aP⟩ cG)|false=> .fail:Ev R).holds cf lp Q:=hk;clear hk
        split at hk2
        ·rename_i hfit
         obtain⟨hz,hka,wZ,X1,Z1,Ad,c,hB⟩:=zL h PC hb (M:=if(dp&&d1) then .deep else .snap) (by cases dp<;>cases d1<;>simp);obtain⟨IB,tW,X2,Z2,p2,Ir,xy,hsrc⟩:=P3 hka hB.parts.sub QU Tc hab (M:=if(dp&&d1) then .deep else .snap) (by cases dp<;>cases d1<;>simp);exact fin (oo:=oo) (dp:=dp&&d1) he hcs (.inr trivial) hsz ⟨hB.val,hB.parts,hB.width,hB.len,hB.le,hB.max,hB.at'⟩ (fun ad Fh=>let ⟨o',q,g,_⟩:=hown hb hB ad Fh;⟨o',.inr ⟨⟨q,g⟩,trivial⟩⟩) (hown hb hB) IB p2 Ir xy hsrc hfit hk2
        ·exact hk2.elim
       ·exact hk.elim
      ·exact hk.elim
   ·exact hk.elim
  ·exact hk.elim
 ·exact hk.elim
end Go.T
namespace Go.T
variable {F : Nat → Prop} {A : Arg} {w0 w w' : World} {φ φ' φ1 : Fp} {st st' sta cG : TS} {tm ya : Array Value} {C : ic}
variable {R : Type} {cf : Cf} {lp : Lp} {Q : R → Prop}
theorem B3 {P:Program} {e:TypeId} {z:Nat} {i:TypeInfo} (h:P.info? e=some i) (hz:i.size=z) (w:World):(sizeOf e).run P w= .ok z w:=by
 simp[sizeOf,typeInfo,h,hz]
theorem P5 {R S:Nat→Prop} {m:Mode} {z:Nat} {rows:List (List TC)} {v:Value} (h:aj w R m S (.sub z rows) v): ∃A c,v= .slice A rows.length c∧(rows≠[]→ ∃ad,A=some ad):=by
 cases h with
 |sub _ _ _ _ A c u T k hn=>exact⟨A,c,rfl,k.addr⟩
def Oc (v:Value):Ea:=⟨.sc v,v,fun _=>False⟩
attribute [local semireducible] jO in
theorem qu (rows aP:List (List TC)):jO rows aP=aP.take rows.length++rows.drop aP.length:=rfl
theorem P6 (hT:dN C) {a:Act} (h:aG F A w0 φ st a.tmps w) {o:Oper} {args:Array Operand} {ts:Array TypeId} (ho:o.op= .call {callee:= .builtin .copy,args,argTypes:=ts}) {K:TS→Ev R} (hd: ∀d,o.dst=some d→d<a.tmps.size) (hk:(jQ C st o K).holds cf lp Q):
 J7 C F A w0 φ st o a w K cf lp Q:=by
 unfold jQ at hk;rw[ho] at hk;simp only at hk
 split at hk
 ·rename_i s x t t' h1 h2
  have e1:args= #[s,x]:=by cases args;simp at h1;subst h1;rfl
  have e2:ts= #[t,t']:=by cases ts;simp at h2;subst h2;rfl
  subst e1 e2;have V0:=cU hT h t s;have S9:=cU hT h t' x;unfold Q9 at hk
  split at hk
  ·rename_i e r cx he hcs V2
   obtain⟨J8,PC⟩:=qn V0 hcs;obtain⟨_,QU⟩:=qn S9 V2
   split at hk
   ·rename_i z rows z' aP hl hr Iz
    split at hk
    ·rename_i yZ
     simp only[dm] at yZ;have hz1:=eD yZ.1;have WI:=eD yZ.2;subst hz1
     have hk2:(match cQ aP with
      |true=>(match o.dst with
       |some d=>K ((nM r ⟨true,z,jO rows aP⟩ st).set d (one (.sc (.int .i64 (Int.ofNat (r9 aP.length rows.length))))))
       |none=>K (nM r ⟨true,z,jO rows aP⟩ st))
      |false=> .fail:Ev R).holds cf lp Q:=hk
     clear hk
     split at hk2
     ·rename_i hsc
      have hin:az st.ob r:=⟨_,hl⟩;obtain⟨b0,hb0,RA⟩:=PC;rw[hl] at hb0
      cases hb0
      have RA:a.eval s=φ.V r:=RA;have hO:aj w φ.I .deep (φ.S r) (.sub z rows) (φ.V r):=h.obj r _ hl;obtain⟨Ad,c,cv,op⟩:=hO.opened;obtain⟨rY,_⟩:=lK h QU hr;obtain⟨vs,l1,sW,hz,hcell,Mi⟩:=rY.vals;obtain⟨A',c',hxval,Xw⟩:=P5 rY;obtain⟨hkn,hnp⟩:=sv Iz;obtain⟨i,zv,g1,g2,_⟩:=(hT e hkn).info
      have isz:i.size=z:=by rw[g2,WI]
      have hU:=(oU hT he).1
      have lits:cv.length=rows.length*z:=by
       have:=congrArg List.length op.tcs;rw[bU op.width,cw] at this;exact this.symm
      obtain⟨us,Pj⟩: ∃us,us=vs.take (rows.length*z):=⟨_,rfl⟩
      have lus:us.length=r9 aP.length rows.length*z:=by
       rw[Pj,e9,l1];rcases Nat.le_total aP.length rows.length with hle|hle
       ·have:=lI z hle
        rw[show r9 aP.length rows.length=aP.length from Nat.min_eq_left hle];omega
       ·have:=lI z hle
        rw[show r9 aP.length rows.length=rows.length from Nat.min_eq_right hle];omega
      have usS: ∀v∈vs,Ck v:=fun v hv=>by
       obtain⟨j,hj,rfl⟩:=List.mem_iff_getElem.1 hv;obtain⟨tc,QS⟩: ∃tc,aP.flatten[j]?=some tc:=⟨_,aV (by rw[bU sW,←l1];exact hj)⟩;obtain⟨T,hT⟩:=Mi j tc _ QS (aV hj);obtain⟨v',rfl⟩:=Eb hsc j tc QS
       cases hT with
       |sc _ _ _ hs=>exact hs
      have tcV:aP.flatten=vs.map .sc:=by
       apply List.ext_getElem
       ·rw[bU sW,cw,l1]
       ·intro j h1 h2
        rw[List.getElem_map];have QS:aP.flatten[j]?=some aP.flatten[j]:=aV h1
        have hj':j<vs.length:=by rw[cw] at h2;exact h2
        have hvs:vs[j]?=some vs[j]:=aV hj';obtain⟨T,hT⟩:=Mi j _ _ QS hvs;obtain⟨v',La⟩:=Eb hsc j _ QS;rw[La] at hT ⊢
        cases hT with
        |sc _ _ _ hs=>rfl
      have one1: ∀v∈us,v.oneCell'=true:=fun v hv=>by
       have:=usS v (by rw[Pj] at hv;exact r8 hv)
       cases v<;>first|rfl|cases this
      have Pm: ∀W:World,(∀x,W.cell? x=w.cell? x)→(Builtin.firstCells z (r9 aP.length rows.length) (.slice A' aP.length c')).run C.P W= .ok us.toArray W:=fun W hW=>by
       by_cases hne:aP=[]
       ·have h0:us=[]:=xG (by rw[lus,hne];simp)
        subst h0;subst hne
        cases A' with
        |none=>simp[Builtin.firstCells]
        |some ad=>exact run_firstCells_some W z _ ad _ c' [] cY (fun j v hj=>by simp at hj)
       ·obtain⟨ad,rfl⟩:=Xw hne
        refine run_firstCells_some W z _ ad _ c' us lus fun j v hj=> ?_;rw[hW];refine hcell ad _ _ hxval j v ?_;rw[Pj,BW] at hj
        split at hj
        ·exact hj
        ·cases hj
      have QY:(jO rows aP).length=rows.length:=by
       rw[qu,cT,e9,jy];omega
      have fin: ∀w',(Builtin.copy_ #[t,t'] o.type #[a.eval s,a.eval x]).run C.P w= .ok (goInt (r9 aP.length rows.length)) w'→aG F A w0 (φ.add r (φ.S r) (φ.V r)) (nM r ⟨true,z,jO rows aP⟩ st) a.tmps w'→w.heap.size≤w'.heap.size→(∀k,k<w.heap.size→ ¬φ.S r k→w'.heap[k]?=w.heap[k]?)→J7 C F A w0 φ st o a w K cf lp Q:=fun w' hrun pZ hsz hfr=>by
       have run:(execOp a.eval o).run C.P w= .ok (.value (goInt (r9 aP.length rows.length))) w':=by
        rw[nD ho];simp only[builtin,Sem.run_bind]
        have:(#[s,x].map a.eval)= #[a.eval s,a.eval x]:=by simp
        rw[this,hrun]
        rfl
       have wr: ∀k,k<w.heap.size→ ¬Wr st φ (writes C st o) k→w'.heap[k]?=w.heap[k]?:=fun k hk hn=>hfr k hk fun hS=>hn (.inr ⟨r,by
        unfold writes;rw[ho];simp only;refine List.mem_map.2 ⟨r,?_,rfl⟩
        revert hcs
        cases lX C st t s with
        |v tup es=>
         unfold p7
         split
         ·rename_i e0 e1
          intro g1
          cases g1
          simp only[TE.v.injEq] at e1;obtain⟨rfl,rfl⟩:=e1;exact .head _
         ·intro g1;cases g1
         ·intro g1;cases g1
        |_=>intro g1;simp[p7] at g1,hin,hS⟩)
       cases gC:o.dst with
       |none=>
        rw[gC] at hk2;exact⟨_,goInt (r9 aP.length rows.length),w',_,run,.inl rfl,by rw[gC];exact⟨_,pZ⟩,hk2,hsz,wr⟩
       |some d=>
        rw[gC] at hk2;refine⟨_,goInt (r9 aP.length rows.length),w',_,run,.inl rfl,?_,hk2,hsz,wr⟩;rw[gC];exact⟨_,pZ.Fs (v:=goInt (r9 aP.length rows.length)) (hd d gC) ⟨_,rfl,_,rfl,rfl,rfl,trivial⟩⟩
      have hX:=fun k hk=>h.sep.fresh r k hin hk
      cases Fh:Ad with
      |none=>
       have hc0:=op.none Fh;have hle:=op.le;have SE:rows=[]:=xG ay
       have J9:jO rows aP=rows:=by rw[qu,SE];simp
       refine fin w ?_ ?_ (cc _) fun _ _ _=>rfl
       ·rw[RA,op.val,Fh,hxval]
        simp only[Builtin.copy_,Builtin.lenOf];simp[run_underlying hU,B3 g1 isz,Pm w fun _=>rfl]
       ·refine h.nM hl rfl QY ?_ h.frm (cc _) (fun _ _ _=>rfl) hX (fun k hk=>h.sep.read r k hin hk) (fun k d hk hne hd hs=>hne (h.sep.apart d r k hd hin hs hk)) (fun b cs BU hw hk=>(h.sep.box b cs BU hw).2.1 r hin hk)
        show aj w φ.I .deep (φ.S r) (.sub z (jO rows aP)) (φ.V r);rw[J9];exact hO
      |some ad=>
       obtain⟨Um,hsp,⟨sp,IB,Un⟩,hfz,WJ⟩:=op.row ad Fh;obtain⟨b,off,spot⟩:=ad
       cases hsp
       simp only at IB Un hfz WJ Um;have hle:=op.le;have elc:=lI z hle
       have lmin:us.length≤rows.length*z:=by rw[lus];exact lI z (Nat.min_le_right _ _)
       have lL:(cv.map (·.val)++sp).length=c*z:=Un;have hst:=run_storeCells_cells (P:=C.P) b off us 0 w (fun j hj=>by rw[nw,IB j _ (aV ay)];rfl) (fun j hj=>by rw[nw];exact hfz j ay) one1;rw[nw] at hst;have r2:=IB.put (p:=0) (us:=us) ay;rw[nw,List.take_zero,qc,ig] at r2
       have hnew:yp (w.setCells b off us) (φ.S r) z (jO rows aP) (φ.V r) Ad c (us.map Oc++cv.drop (aP.length*z)):=by
        have RD:(us.map Oc++cv.drop (aP.length*z)).map (·.val)=us++(cv.map (·.val)).drop (aP.length*z):=by
         rw[vt,List.map_map,DH]
         congr 1
         have:((fun t:Ea=>t.val)∘Oc)=id:=rfl;rw[this,List.map_id]
        have J5:(cv.map (·.val)++sp).drop us.length=(cv.map (·.val)).drop (aP.length*z)++sp:=by
         rcases Nat.le_total aP.length rows.length with hq|hq
         ·have:=lI z hq
          rw[lus,show r9 aP.length rows.length=aP.length from Nat.min_eq_left hq,List.drop_append_of_le_length (by rw[cw];omega)]
         ·have:=lI z hq
          rw[lus,show r9 aP.length rows.length=rows.length from Nat.min_eq_right hq,List.drop_append_of_le_length (by rw[cw];omega),zd (by rw[cw];omega),zd (by rw[cw];omega)]
        refine⟨by rw[QY];exact op.val,by rw[QY];exact op.le,op.cap,op.z0,fun q hq=> ?_,?_,fun t ht=> ?_,?_,fun t ht k hk=> ?_,op.none,fun ad e=> ?_⟩
        ·rw[qu] at hq
         rcases List.mem_append.1 hq with hq|hq
         ·exact sW q (r8 hq)
         ·exact op.width q (vu hq)
        ·rw[qu,Ld,th sW,tj op.width,op.tcs,tcV,←IF,←Pj,vt,List.map_map,DH]
         rfl
        ·rcases List.mem_append.1 ht with ht|ht
         ·obtain⟨v,hv,rfl⟩:=List.mem_map.1 ht
          exact .sc _ _ _ (usS v (by rw[Pj] at hv;exact r8 hv))
         ·have hm:=vu ht
          refine(op.ok t hm).move (fun k hk=>hk.elim) fun _ k hk=> ?_;have hs:=op.sub t hm k hk;exact dA _ _ _ _ (hX k hs.1).1 (hs.2 _ Fh)
        ·refine List.pairwise_append.2 ⟨?_,(op.kz.sublist (List.drop_sublist _ _)),fun x hx y hy k hk=> ?_⟩
         ·rw[List.pairwise_map]
          exact List.pairwise_of_forall fun _ _ k hk=>hk.elim
         ·obtain⟨v,hv,rfl⟩:=List.mem_map.1 hx
          exact hk.elim
        ·rcases List.mem_append.1 ht with ht|ht
         ·obtain⟨v,hv,rfl⟩:=List.mem_map.1 ht
          exact hk.elim
         ·exact op.sub t (vu ht) k hk
        ·rw[Fh] at e
         cases e
         refine⟨Um,rfl,⟨sp,?_,?_⟩,fun j hj=> ?_,fun hz1 j=> ?_⟩
         ·rw[RD,tY,←J5];exact r2
         ·rw[RD,tY,←J5,cT,jy];omega
         ·rw[show(w.setCells b off us).frozen? ⟨b,off+j,none⟩=w.frozen? ⟨b,off+j,none⟩ from World.frozen?_setCells b us off w _];exact hfz j hj
         ·rw[show(w.setCells b off us).frozen? ⟨b,j,none⟩=w.frozen? ⟨b,j,none⟩ from World.frozen?_setCells b us off w _];exact WJ hz1 j
       have hsz:=(iL b us off w).2.2.2;refine fin (w.setCells b off us) ?_ ?_ (by rw[hsz];exact cc _) fun k hk hn=>dA _ _ _ _ hk fun e=>hn (by rw[e];exact Um)
       ·rw[RA,op.val,Fh,hxval]
        simp only[Builtin.copy_,Builtin.lenOf];simp[run_underlying hU,B3 g1 isz,Pm w fun _=>rfl,hst]
       ·refine h.nM hl rfl QY hnew.rep (h.frm.setCells (hX b Um).2) (by rw[hsz];exact cc _) (fun k hk hn=>dA _ _ _ _ hk fun e=>hn (by rw[e];exact Um)) (fun k hk=>by rw[hsz];exact hX k hk) (fun k hk=>h.sep.read r k hin hk) (fun k d hk hne hd hs=>hne (h.sep.apart d r k hd hin hs hk)) (fun b' cs BU hw hk=>(h.sep.box b' cs BU hw).2.1 r hin hk)
     ·exact hk2.elim
    ·exact hk.elim
   ·exact hk.elim
  ·exact hk.elim
 ·exact hk.elim
end Go.T
