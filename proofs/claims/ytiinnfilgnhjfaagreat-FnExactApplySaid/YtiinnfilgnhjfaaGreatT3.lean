import Derived.Test.YtiinnfilgnhjfaaGreatT2
import Derived.Deep.AppendSrc
import Derived.Deep.MidRow
import Derived.Deep.Upon
import Derived.Laws.MakeOwn
import Derived.Laws.IdiomStrings
import Derived.Laws.IdiomCopy
set_option linter.all false
namespace Go.T
variable {F : Nat → Prop} {A : Arg} {w0 w w' : World} {φ φ' : Fp} {st st' fR sK : TS} {tm Lo : Array Value} {C : pU}
theorem wN: ∀(W:List (Nat×OB)) (ob:List (Nat×OB)) (d:Nat),az d (nC W ob)=match az d W with|some b=>some b|none=>az d ob
 |[],ob,d=>rfl
 |(i,b)::r,ob,d=>by
  simp only[nC,g6,az,wN r ob d]
  by_cases h:d=i
  ·subst h;simp
  ·rw[aF h,beq_false (Ne.symm h)]
theorem ZX {α:Type}: ∀{W:List (Nat×α)} {d:Nat},d∈xA W↔ ∃b,az d W=some b
 |[],d=>by simp[xA,az]
 |(i,b)::r,d=>by
  simp only[xA,gj,ZX (W:=r),az]
  by_cases h:d=i
  ·subst h;simp
  ·rw[beq_false (Ne.symm h)];simp[h]
theorem OT {α:Type} {W:List (Nat×α)} {d:Nat} (h:d∉xA W):az d W=none:=by
 cases hd:az d W with
 |none=>rfl
 |some b=>exact absurd (ZX.2 ⟨b,hd⟩) h
theorem Lx {a l:List Nat} (h:zi a l=true): ∃x,x∈a∧x∈l:=by
 induction a with
 |nil=>cases h
 |cons y r ih=>
  simp only[zi] at h
  cases h1:pI y l with
  |true=>exact⟨y,.head _,nD.1 h1⟩
  |false=>rw[h1] at h;obtain⟨x,a,b⟩:=ih h;exact⟨x,.tail _ a,b⟩
def Fp.wr (φ:Fp) (W:List (Nat×OB)) (X:Nat→Nat→Prop) (Z:Nat→Prop):Fp:=
 {φ with I:=fun k=>φ.I k∨Z k,S:=fun d k=>match az d W with|some _=>X d k|none=>φ.S d k}
theorem Xx {W:List (Nat×OB)} {X:Nat→Nat→Prop} {Z:Nat→Prop} {d k:Nat} (h:az d W=none):(φ.wr W X Z).S d k=φ.S d k:=by
 unfold Fp.wr;simp only[h]
theorem acL {W:List (Nat×OB)} {X:Nat→Nat→Prop} {Z:Nat→Prop} {d k:Nat} {b:OB} (h:az d W=some b):(φ.wr W X Z).S d k=X d k:=by
 unfold Fp.wr;simp only[h]
theorem bD.wrote (h:bD F A w0 φ st tm w) (W:List (Nat×OB)) (X:Nat→Nat→Prop) (Z G:Nat→Prop)
 (hf:MV F w0 w') (hsz:w.heap.size≤w'.heap.size) (hw: ∀k,k<w.heap.size→ ¬G k→w'.heap[k]?=w.heap[k]?)
 (gF: ∀k,G k→w0.heap.size≤k∨F k) (gI: ∀k,G k→ ¬φ.I k) (gS: ∀k o,G k→aT st.ob o→az o W=none→ ¬φ.S o k) (gB: ∀b cs,az b st.bx=some cs→ ¬G (φ.β b).block)
 (hW: ∀o b',az o W=some b'→ ∃b,az o st.ob=some b∧b'.z=b.z∧b'.rows.length=b.rows.length∧aB w' (fun k=>φ.I k∨Z k) b'.m (X o) (.sub b'.z b'.rows) (φ.V o)∧
   ∀k,X o k→k<w'.heap.size∧(w0.heap.size≤k∨F k)∧ ¬φ.I k∧ ¬Z k∧(∀d,aT st.ob d→az d W=none→ ¬φ.S d k)∧(∀d b,az d W=some b→X d k→d=o)∧ ∀b cs,az b st.bx=some cs→DJ b=true→(φ.β b).block≠k)
 (hZ: ∀k,Z k→k<w'.heap.size∧(w0.heap.size≤k∨F k∨A.sh k)∧(∀d,aT st.ob d→az d W=none→ ¬φ.S d k)∧ ∀b cs,az b st.bx=some cs→DJ b=true→(φ.β b).block≠k):
 bD F A w0 (φ.wr W X Z) (yJ W st) tm w':=by
 have uv: ∀d,aT (nC W st.ob) d↔aT st.ob d:=fun d=>by
  unfold aT;rw[wN]
  cases hd:az d W with
  |none=>rfl
  |some b=>obtain⟨b0,h0,_⟩:=hW d b hd;exact⟨fun _=>⟨b0,h0⟩,fun _=>⟨b,rfl⟩⟩
 have gA: ∀k,G k→ ¬A.all k:=fun k hg ha=>by
  have:=h.sep.qQ k ha;rcases gF k hg with h3|h3
  ·omega
  ·exact this.2 h3
 have stI: ∀k,φ.I k→w'.heap[k]?=w.heap[k]?:=fun k hk=>hw k (h.sep.ro k hk).1 fun hg=>gI k hg hk
 have stS: ∀d k,az d W=none→d=0∨aT st.ob d→φ.S d k→w'.heap[k]?=w.heap[k]?:=fun d k hn hd hk=>hw k (h.sep.lt h.frm.size hd hk) fun hg=>by
  rcases hd with rfl|hd
  ·rw[h.sep.arg] at hk;exact gA k hg hk
  ·exact gS k d hg hd hn hk
 have w0n:az 0 W=none:=by
  cases h0:az 0 W with
  |none=>rfl
  |some b=>obtain⟨b0,h1,_⟩:=hW 0 b h0;exact absurd rfl (h.sep.nz 0 ⟨b0,h1⟩)
 have stR: ∀ds k,(∀d∈ds,az d W=none)→(∀d∈ds,d=0∨aT st.ob d)→rd φ ds k→rd (φ.wr W X Z) ds k∧w'.heap[k]?=w.heap[k]?:=fun ds k hn hd hk=>by
  rcases hk with hk|⟨d,hm,hk⟩
  ·exact⟨.inl (.inl hk),stI k hk⟩
  ·exact⟨.inr ⟨d,hm,by rw[Xx (hn d hm)];exact hk⟩,stS d k (hn d hm) (hd d hm) hk⟩
 have stV: ∀p b1 ad n c i f tc u,az p W=none→az p st.ob=some b1→φ.V p= .slice (some ad) n c→BE b1.rows i f=some tc→w.cell? (ad.add (i*b1.z+f))=some u→w'.cell? (ad.add (i*b1.z+f))=some u:=by
  intro p b1 ad n c i f tc u hne hp hv ht hcell;have hO:=h.obj p b1 hp;unfold rX at hO;rw[hv] at hO
  have hS:φ.S p ad.block:=by
   cases hO with
   |sub _ _ _ _ _ _ u T k hn=>exact(k.own (by unfold OB.m;split<;>simp)).2 ad rfl|>.1
  rw[iy (w:=w)]
  ·exact hcell
  ·rw[dm];exact stS p _ hne (.inr ⟨b1,hp⟩) hS
 have cbox: ∀p cs,az p st.bx=some cs→w'.heap[(φ.β p).block]?=w.heap[(φ.β p).block]?:=fun p cs hp=>hw _ (h.sep.spot p cs hp).2.1 (gB p cs hp)
 have look1: ∀{d b},az d st.ob=some b→ ∃b',az d (nC W st.ob)=some b'∧b'.z=b.z∧b'.rows.length=b.rows.length∧(az d W=none→b'=b):=fun {d b} hb=>by
  rw[wN]
  cases hd:az d W with
  |none=>exact⟨b,hb,rfl,rfl,fun _=>rfl⟩
  |some b'=>
   obtain⟨b0,h0,h1,h2,_⟩:=hW d b' hd;rw[hb] at h0;cases h0;exact⟨b',rfl,h1,h2,fun e=>by cases e⟩
 have obj: ∀o b,az o (nC W st.ob)=some b→rX w' (φ.wr W X Z) o b:=fun o b ho=>by
  rw[wN] at ho;unfold rX
  cases hd:az o W with
  |none=>
   rw[hd] at ho;refine(aB.mono ((h.obj o b ho).move (fun k hk=>⟨.inl hk,stI k hk⟩) fun _ k hk=>stS o k hd (.inr ⟨b,ho⟩) hk) fun k hk=> ?_);rw[Xx hd];exact hk
  |some b'=>
   rw[hd] at ho
   cases ho
   obtain⟨b0,h0,h1,h2,h3,_⟩:=hW o _ hd;refine aB.mono h3 fun k hk=> ?_;rw[acL hd];exact hk
 have hce: ∀e v,e9 st.ob w φ e v→e9 (nC W st.ob) w' (φ.wr W X Z) (Kl (xA W) e) v:=fun e v he=>by
  cases e with
  |ref p cut=>
   obtain⟨b1,h1,h2⟩:=he;obtain⟨b',g1,g2,g3,_⟩:=look1 h1;refine⟨b',g1,?_⟩
   cases cut with
   |none=>exact h2
   |some q=>obtain⟨l,r⟩:=q;simp only at h2 ⊢;rw[g2,g3];exact h2
  |snap ds loc z rows=>
   simp only[Kl]
   cases hd:zi ds (xA W) with
   |true=>trivial
   |false=>
    have hn: ∀d∈ds,az d W=none:=fun d hm=>OT (wg hd hm);obtain⟨h1,h2,h3⟩:=he;refine⟨fun d hm=>(h1 d hm).imp id (uv d).2,h2.move (fun k hk=>stR ds k hn h1 hk) (fun hm=>absurd rfl hm),fun p i f hl=> ?_⟩;obtain⟨a1,b1,a2,a3,a4,ad,n,c,a5,a6⟩:=h3 p i f hl;obtain⟨b',g1,_,_,g4⟩:=look1 a2;have:=g4 (hn p a1);subst this;exact⟨a1,_,g1,a3,a4,ad,n,c,a5,stV p _ ad n c _ _ _ _ (hn p a1) a2 a5 a4 a6⟩
  |_=>exact he
 have Q8: ∀e v,(∀t es,e≠ .v t es)→dO st.ob w φ e v→dO (nC W st.ob) w' (φ.wr W X Z) (E2 (xA W) e) v:=fun e v hv he=>by
  cases e with
  |v t es=>exact absurd rfl (hv t es)
  |ep ds cells=>
   simp only[E2]
   cases hd:zi ds (xA W) with
   |true=>trivial
   |false=>
    have hn: ∀d∈ds,az d W=none:=fun d hm=>OT (wg hd hm);obtain⟨h1,ad,h2,hr,h3⟩:=he;refine⟨fun d hm=>(h1 d hm).imp id (uv d).2,ad,h2,fun hc=>(stR ds _ hn h1 (hr hc)).1,fun j tc hj=> ?_⟩;obtain⟨u,h4,h5⟩:=h3 j tc hj
    have hc:cells≠[]:=fun e=>by rw[e] at hj;simp at hj
    exact⟨u,by rw[iy (w:=w) (by rw[dm];exact(stR ds _ hn h1 (hr hc)).2)];exact h4,h5.move (fun k hk=>stR ds k hn h1 hk) (fun hm=>absurd rfl hm)⟩
  |er p path i f=>
   obtain⟨b1,h1,h2,ad,n,c,h3,h4⟩:=he;obtain⟨b',g1,g2,g3,g4⟩:=look1 h1
   cases path with
   |none=>exact⟨b',g1,h2,ad,n,c,h3,by simp only at h4 ⊢;rw[g2];exact h4⟩
   |some q=>
    obtain⟨i0,f0⟩:=q;simp only[E2]
    cases hd:pI p (xA W) with
    |true=>trivial
    |false=>
     have hn:=OT (fZ.1 hd);have:=g4 hn;subst this;obtain⟨a1,z1,u6,a2,ad1,n1,c1,a3,a4⟩:=h4;exact⟨_,g1,h2,ad,n,c,h3,a1,z1,u6,a2,ad1,n1,c1,stV p _ ad n c _ _ _ _ hn h1 h3 a2 a3,a4⟩
  |_=>exact he
 have hsep: ∀bx',(∀b cs',az b bx'=some cs'→ ∃cs,az b st.bx=some cs∧cs'.length=cs.length)→Sep F A w0 w' (φ.wr W X Z) bx' (nC W st.ob):=fun bx' Ra=>by
  have hs:=h.sep.boxes Ra
  exact {
   arg:=by
    funext k
    rw[Xx w0n,h.sep.arg]
   nz:=fun d hd=>h.sep.nz d ((uv d).1 hd)
   apart:=fun d d' k h1 h2 h3 h4=>by
    have i1:=(uv d).1 h1;have i2:=(uv d').1 h2
    cases e1:az d W with
    |some b=>
     rw[acL e1] at h3;obtain⟨_,_,_,_,_,hx⟩:=hW d b e1;obtain⟨_,_,_,_,x5,x6,_⟩:=hx k h3
     cases e2:az d' W with
     |some b'=>rw[acL e2] at h4;exact(x6 d' b' e2 h4).symm
     |none=>rw[Xx e2] at h4;exact absurd h4 (x5 d' i2 e2)
    |none=>
     rw[Xx e1] at h3
     cases e2:az d' W with
     |some b'=>
      rw[acL e2] at h4;obtain⟨_,_,_,_,_,hx⟩:=hW d' b' e2;exact absurd h3 ((hx k h4).2.2.2.2.1 d i1 e1)
     |none=>rw[Xx e2] at h4;exact h.sep.apart d d' k i1 i2 h3 h4
   read:=fun d k hd hk=>by
    have hd:=(uv d).1 hd
    cases e1:az d W with
    |some b=>
     rw[acL e1] at hk;obtain⟨_,_,_,_,_,hx⟩:=hW d b e1;obtain⟨_,_,x3,x4,_⟩:=hx k hk;exact fun hi=>hi.elim x3 x4
    |none=>
     rw[Xx e1] at hk;exact fun hi=>hi.elim (h.sep.read d k hd hk) fun hz=>(hZ k hz).2.2.1 d hd e1 hk
   fresh:=fun d k hd hk=>by
    have hd:=(uv d).1 hd
    cases e1:az d W with
    |some b=>
     rw[acL e1] at hk;obtain⟨_,_,_,_,_,hx⟩:=hW d b e1;exact⟨(hx k hk).1,(hx k hk).2.1⟩
    |none=>
     rw[Xx e1] at hk;exact⟨mq (h.sep.fresh d k hd hk).1 hsz,(h.sep.fresh d k hd hk).2⟩
   ro:=fun k hk=>hk.elim (fun hk=>⟨mq (h.sep.ro k hk).1 hsz,(h.sep.ro k hk).2⟩) fun hz=>⟨(hZ k hz).1,(hZ k hz).2.1⟩
   qQ:=h.sep.qQ
   box:=fun p cs hp KQ=>by
    obtain⟨cs0,c1,_⟩:=Ra p cs hp;obtain⟨a1,a2,a3,a4⟩:=hs.box p cs hp KQ;refine⟨fun hi=>hi.elim a1 fun hz=>(hZ _ hz).2.2.2 p cs0 c1 KQ rfl,fun d hd hk=> ?_,a3,a4⟩;have hd:=(uv d).1 hd
    cases e1:az d W with
    |some b=>
     rw[acL e1] at hk;obtain⟨_,_,_,_,_,hx⟩:=hW d b e1;exact(hx _ hk).2.2.2.2.2.2 p cs0 c1 KQ rfl
    |none=>rw[Xx e1] at hk;exact a2 d hd hk
   spot:=fun p cs hp=>⟨(hs.spot p cs hp).1,mq (hs.spot p cs hp).2.1 hsz,(hs.spot p cs hp).2.2⟩
   soft:=fun p cs j hp KQ hj=>by
    obtain⟨cs0,c1,c2⟩:=Ra p cs hp;rw[oz (w:=w) (by rw[dm];exact cbox p cs0 c1)]
    exact h.sep.soft p cs0 j c1 KQ an}
 have Ra: ∀b cs,az b st.bx=some cs→ ∀j,j<cs.length→w'.cell? ((φ.β b).add j)=w.cell? ((φ.β b).add j):=fun p cs hp j _=>iy (by rw[dm];exact cbox p cs hp)
 cases W with
 |nil=>
  have:=h.Lu (f:=id) (g:=id) (k:=id) (φ':=φ.wr [] X Z) rfl rfl (fun e v he=> ?_) (fun e v hv he=> ?_) Ra obj (by rw[OQ];exact hsep st.bx fun b cs hb=>⟨cs,hb,rfl⟩) hf
  ·rw[Ai] at this;exact this
  ·have:=hce e v he
   have e1:Kl (xA ([]:List (Nat×OB))) e=e:=by
    cases e with
    |snap ds l z rows=>simp only[Kl];cases hd:zi ds (xA ([]:List (Nat×OB))) with
     |true=>obtain⟨x,_,hx⟩:=Lx hd;cases hx
     |false=>rfl
    |_=>rfl
   rw[e1] at this;exact this
  ·have:=Q8 e v hv he
   have e1:E2 (xA ([]:List (Nat×OB))) e=e:=by
    cases e with
    |ep ds cells=>simp only[E2];cases hd:zi ds (xA ([]:List (Nat×OB))) with
     |true=>obtain⟨x,_,hx⟩:=Lx hd;cases hx
     |false=>rfl
    |er p path i f=>cases path<;>rfl
    |_=>rfl
   rw[e1] at this;exact this
 |cons a r=>exact h.Lu (f:=Kl (xA (a::r))) (g:=E2 (xA (a::r))) (k:=nC (a::r)) rfl rfl hce Q8 Ra obj (hsep _ (jO _)) hf
end Go.T
namespace Go.T
variable {F : Nat → Prop} {A : Arg} {w0 w w' : World} {φ φ' : Fp} {st st' fR sK : TS} {tm Lo : Array Value} {C : pU}
variable {R : Type} {cf : Cf} {lp : Lp} {Q : R → Prop}
theorem agH {ob:List (Nat×OB)} {e:CE} {v:Value} (h:e9 ob w φ e v) (hg:e≠ .gone) (hb: ∀o b,az o ob=some b→rX w φ o b):v.oneCell'=true:=by
 cases e with
 |sc x=>obtain⟨rfl,h⟩:=h;cases v<;>first|rfl|cases h
 |nil z=>obtain⟨rfl,_⟩:=h;rfl
 |ref o cut=>
  obtain⟨b,h1,h2⟩:=h;have:=rX.cut (hb o b h1) h2
  cases this;rfl
 |snap ds l z rows=>have:=h.2.1;cases this;rfl
 |gone=>exact absurd rfl hg
theorem vM {Rd S:Nat→Prop} {m:Mode} {c:TC} {v:Value} (h:aB w Rd m S c v):v.oneCell'=true:=by
 cases h with
 |any _ _ _ h=>exact h.1
 |sc _ _ _ h=>cases v<;>first|rfl|cases h
 |sub=>rfl
theorem oC (b:Nat): ∀(vs:List Value) (o:Nat) (w:World),(w.setCells b o vs).os=w.os∧(w.setCells b o vs).tape=w.tape∧(w.setCells b o vs).output=w.output∧(w.setCells b o vs).heap.size=w.heap.size
 |[],_,_=>⟨rfl,rfl,rfl,rfl⟩
 |v::r,o,w=>by
  obtain⟨h1,h2,h3,h4⟩:=oC b r (o+1) (w.setCell ⟨b,o,none⟩ v);refine⟨h1,h2,h3,?_⟩;rw[World.setCells,h4];simp[World.setCell]
theorem iA (b o:Nat) (vs:List Value) (w:World) {k:Nat} (hk:k<w.heap.size) (hne:k≠b):(w.setCells b o vs).heap[k]?=w.heap[k]?:=World.heap_setCells_other w b o vs hk hne
theorem MV.setCells {b o:Nat} {vs:List Value} (h:MV F w0 w) (hb:w0.heap.size≤b∨F b):MV F w0 (w.setCells b o vs):=by
 obtain⟨h1,h2,h3,h4⟩:=oC b vs o w;refine⟨h1.trans h.os,h2.trans h.tape,h3.trans h.output,by rw[h4];exact h.size,fun k hk hF=> ?_⟩;rw[iA b o vs w (mq hk h.size) (fun e=>by subst e;rcases hb with hb|hb;omega;exact hF hb)];exact h.block k hk hF
def gl (M:Mode):List TC→List Value→List It
 |c::cs,v::vs=>(M,c,v)::gl M cs vs
 |_,_=>[]
theorem qE {M:Mode}: ∀{cs:List TC} {vs:List Value} {i:Nat} {it:It},(gl M cs vs)[i]?=some it→ ∃c v,cs[i]?=some c∧vs[i]?=some v∧it=(M,c,v)
 |[],_,_,_,h=>by simp[gl] at h
 |_::_,[],_,_,h=>by simp[gl] at h
 |c::cs,v::vs,0,it,h=>by simp only[gl,gT,aY] at h;exact⟨c,v,rfl,rfl,h.symm⟩
 |c::cs,v::vs,i+1,it,h=>by
  simp only[gl,yg] at h;obtain⟨c',v',h1,h2,h3⟩:=qE h;exact⟨c',v',by simpa using h1,by simpa using h2,h3⟩
theorem rM {M:Mode}: ∀{cs:List TC} {vs:List Value} {i:Nat} {c:TC} {v:Value},cs[i]?=some c→vs[i]?=some v→(gl M cs vs)[i]?=some (M,c,v)
 |[],_,_,_,_,h,_=>by simp at h
 |_::_,[],_,_,_,_,h=>by simp at h
 |c0::cs,v0::vs,0,c,v,h1,h2=>by
  simp only[gT,aY] at h1 h2;subst h1 h2
  rfl
 |c0::cs,v0::vs,i+1,c,v,h1,h2=>by
  simp only[gl,yg] at h1 h2 ⊢;exact rM h1 h2
theorem lF {M:Mode}: ∀{cs:List TC} {vs:List Value},cs.length=vs.length→(gl M cs vs).length=cs.length
 |[],[],_=>rfl
 |[],_::_,h=>by cases h
 |_::_,[],h=>by cases h
 |c::cs,v::vs,h=>by simp only[gl,gn];rw[lF (cs:=cs) (vs:=vs) (by simpa using h)]
theorem Dm {M:Mode}: ∀{cs cs':List TC} {vs vs':List Value},cs.length=vs.length→gl M (cs++cs') (vs++vs')=gl M cs vs++gl M cs' vs'
 |[],_,[],_,_=>rfl
 |[],_,_::_,_,h=>by cases h
 |_::_,_,[],_,h=>by cases h
 |c::cs,cs',v::vs,vs',h=>by
  simp only[Rb,gl];rw[Dm (cs:=cs) (vs:=vs) (by simpa using h)]
structure pR (w:World) (φ:Fp) (st st':TS) (eP:List It) (X:Nat→Nat→Prop) (Z:Nat→Prop):Prop where
 ok: ∀(i:Nat) (it:It),eP[i]?=some it→aB w (fun k=>φ.I k∨Z k) it.1 (X i) it.2.1 it.2.2
 src: ∀(i k:Nat),i<eP.length→X i k→ ¬Z k∧ ∃o,aT st.ob o∧ ¬aT st'.ob o∧φ.S o k
 srcZ: ∀k,Z k→ ∃o,aT st.ob o∧ ¬aT st'.ob o∧φ.S o k
 apart: ∀(i j k:Nat),i<eP.length→j<eP.length→X i k→X j k→i=j
 sub:gx st' st
theorem pR.nil (st:TS):pR w φ st st [] (fun _ _=>False) (fun _=>False):=⟨fun i it h=>by simp at h,fun i k h=>by simp at h,fun k h=>h.elim,fun i j k h=>by simp at h,gx.refl _⟩
theorem oB.parts (h:bD F A w0 φ st tm w) {eP:List It} {os:List Nat} (t:oB w φ st st' eP os): ∃X Z,pR w φ st st' eP X Z:=by
 obtain⟨I,X,hb,hn⟩:=t.aiG h
 have dom: ∀i it o,eP[i]?=some it→os[i]?=some o→o≠0→aT st.ob o∧ ¬aT st'.ob o:=fun i it o hi ho h0=>by
  rcases t.at' i it o hi ho with⟨e,_⟩|⟨hd,hd',_⟩
  ·exact absurd e h0
  ·exact⟨hd,hd'⟩
 have own_S: ∀{m v S k},Vf m v S k→S k:=fun {m v S k} hk=>by
  cases m with
  |snap=>exact hk.elim
  |top=>exact hk.1
  |deep=>exact hk
 refine⟨fun i k=> ∃(it:It) (o:Nat),eP[i]?=some it∧os[i]?=some o∧o≠0∧Vf it.1 it.2.2 (φ.S o) k,
  fun k=> ∃(i:Nat) (it:It) (o:Nat),eP[i]?=some it∧os[i]?=some o∧o≠0∧φ.S o k∧ ¬Vf it.1 it.2.2 (φ.S o) k,⟨fun i it hi=> ?_,fun i k hi hk=> ?_,fun k hk=> ?_,fun i j k hi hj hk hk'=> ?_,t.sub⟩⟩
 ·obtain⟨o,ho⟩: ∃o,os[i]?=some o:=⟨_,cw (by rw[t.len];exact(List.getElem?_eq_some_iff.1 hi).1)⟩
  rcases t.at' i it o hi ho with⟨e,hc⟩|⟨hd,hn,m',hm,hdm,hc⟩
  ·exact(hc.sW fun k hk=> .inl hk).mono fun k hk=>hk.elim
  ·have h0:=h.sep.nz o hd
   exact(hc.out hm hdm (fun k hk=> .inl hk) fun k hk hno=> .inr ⟨i,it,o,hi,ho,h0,hk,hno⟩).mono fun k hk=>⟨it,o,hi,ho,h0,hk⟩
 ·obtain⟨it,o,h1,h2,h0,hk⟩:=hk
  obtain⟨hd,hd'⟩:=dom i it o h1 h2 h0;refine⟨?_,o,hd,hd',own_S hk⟩;rintro⟨i',it',o',g1,g2,g0,g3,g4⟩;have:=h.sep.apart o o' k hd (dom i' it' o' g1 g2 g0).1 (own_S hk) g3;subst this;have:=t.inj i i' o h2 g2 h0;subst this;rw[h1] at g1
  cases g1
  exact g4 hk
 ·obtain⟨i,it,o,h1,h2,h0,hk,_⟩:=hk
  obtain⟨hd,hd'⟩:=dom i it o h1 h2 h0;exact⟨o,hd,hd',hk⟩
 ·obtain⟨it,o,h1,h2,h0,hk⟩:=hk
  obtain⟨it',o',g1,g2,g0,hk'⟩:=hk';have:=h.sep.apart o o' k (dom i it o h1 h2 h0).1 (dom j it' o' g1 g2 g0).1 (own_S hk) (own_S hk');subst this;exact t.inj i j o h2 g2 h0
theorem pR.app (h:bD F A w0 φ st tm w) {a b:List It} {Xa Xb:Nat→Nat→Prop} {Za Zb:Nat→Prop} (p:pR w φ st fR a Xa Za) (q:pR w φ fR sK b Xb Zb):
 pR w φ st sK (a++b) (fun i k=>if i<a.length then Xa i k else Xb (i-a.length) k) (fun k=>Za k∨Zb k):=by
 have cross: ∀k,(∃o,aT st.ob o∧ ¬aT fR.ob o∧φ.S o k)→(∃o,aT fR.ob o∧ ¬aT sK.ob o∧φ.S o k)→False:=fun k ⟨o,a1,a2,a3⟩ ⟨o',b1,b2,b3⟩=>by
  have:=h.sep.apart o o' k a1 (p.sub.dom b1) a3 b3;subst this;exact a2 b1
 have upa: ∀{k},(∃o,aT st.ob o∧ ¬aT fR.ob o∧φ.S o k)→ ∃o,aT st.ob o∧ ¬aT sK.ob o∧φ.S o k:=fun⟨o,a1,a2,a3⟩=>⟨o,a1,fun hd=>a2 (q.sub.dom hd),a3⟩;have upb: ∀{k},(∃o,aT fR.ob o∧ ¬aT sK.ob o∧φ.S o k)→ ∃o,aT st.ob o∧ ¬aT sK.ob o∧φ.S o k:=fun⟨o,a1,a2,a3⟩=>⟨o,p.sub.dom a1,a2,a3⟩;refine⟨fun i it hi=> ?_,fun i k hi hk=> ?_,fun k hk=> ?_,fun i j k hi hj hk hk'=> ?_,q.sub.trans p.sub⟩
 ·by_cases hl:i<a.length
  ·rw[nw hl] at hi
   simp only[aJ hl];exact(p.ok i it hi).sW fun k hk=>hk.imp id .inl
  ·rw[pP an] at hi
   simp only[aF hl];exact(q.ok _ it hi).sW fun k hk=>hk.imp id .inr
 ·by_cases hl:i<a.length
  ·simp only[aJ hl] at hk
   obtain⟨h1,h2⟩:=p.src i k hl hk;exact⟨fun hz=>hz.elim h1 fun hb=>cross k h2 (q.srcZ k hb),upa h2⟩
  ·simp only[aF hl] at hk
   obtain⟨h1,h2⟩:=q.src _ k (by simp at hi;omega) hk;exact⟨fun hz=>hz.elim (fun ha=>cross k (p.srcZ k ha) h2) h1,upb h2⟩
 ·exact hk.elim (fun h=>upa (p.srcZ k h)) fun h=>upb (q.srcZ k h)
 ·simp only[cM] at hi hj
  by_cases hl:i<a.length
  ·simp only[aJ hl] at hk
   by_cases hl':j<a.length
   ·simp only[aJ hl'] at hk';exact p.apart i j k hl hl' hk hk'
   ·simp only[aF hl'] at hk'
    exact(cross k (p.src i k hl hk).2 (q.src _ k an hk').2).elim
  ·simp only[aF hl] at hk
   by_cases hl':j<a.length
   ·simp only[aJ hl'] at hk'
    exact(cross k (p.src j k hl' hk').2 (q.src _ k an hk).2).elim
   ·simp only[aF hl'] at hk'
    have:=q.apart _ _ k an an hk hk';omega
theorem Ku {uM:TS} (M:Mode): ∀(cs:List CE) (st:TS) (vs:List Value) (ts:List TC) (st':TS) (d:Bool),bD F A w0 φ st tm w→gx st uM→vs.length=cs.length→(∀(j:Nat) (e:CE),cs[j]?=some e→ ∃v,vs[j]?=some v∧e9 uM.ob w φ e v)→
 (M= .snap∨d=true∧M= .deep)→UX cs st=some (ts,st',d)→bD F A w0 φ st' tm w∧ts.length=cs.length∧gx st' st∧ ∃os,oB w φ st st' (gl M ts vs) os
 |[],st,vs,ts,st',d,h,hs,hl,hc,hM,ho=>by
  cases ho
  exact⟨h,rfl,gx.refl _,[],by cases vs<;>exact oB.nil _⟩
 |e::r,st,vs,ts,st',d,h,hs,hl,hc,hM,ho=>by
  simp only[UX] at ho
  split at ho
  ·rename_i c fR d1 hab
   split at ho
   ·rename_i cs' sK d2 ho2
    cases ho
    cases vs with
    |nil=>cases hl
    |cons v vs=>
     obtain⟨v',hv',hok⟩:=hc 0 e rfl;simp only[gT,aY] at hv';subst hv';obtain⟨h1,UP,ht⟩:=aa0 h hs hok hab
     obtain⟨o,ht⟩:=ht M (by
      rcases hM with rfl|⟨hd,rfl⟩
      ·unfold aes;cases e<;>rfl
      ·simp only[fk] at hd
       have hd1:=hd.1;subst hd1
       cases e with
       |snap ds l z rows=>
        cases ds with
        |nil=>simp[sU] at hab
        |cons _ _=>simp[sU] at hab
       |gone=>simp[sU] at hab
       |_=>rfl)
     obtain⟨h2,FY,hs2,os,hts⟩:=Ku M r fR vs cs' _ d2 h1 (UP.trans hs) (by simpa using hl) (fun j e he=>by
      obtain⟨v',a1,a2⟩:=hc (j+1) e (by simpa using he)
      exact⟨v',by simpa using a1,a2⟩) (by
       rcases hM with hM|⟨hd,hM⟩
       ·exact .inl hM
       ·simp only[fk] at hd;exact .inr ⟨hd.2,hM⟩) ho2
     exact⟨h2,by simp[FY],hs2.trans UP,o::os,(oB.one ht UP).app h.sep.nz hts⟩
   ·cases ho
  ·cases ho
theorem Al {z:Nat}: ∀{rows:List (List TC)},(∀r∈rows,r.length=z)→ ∀{i f:Nat} {tc:TC},BE rows i f=some tc→rows.flatten[i*z+f]?=some tc∧f<z∧i<rows.length
 |[],_,i,f,tc,h=>by simp[BE] at h
 |r::rs,hw,0,f,tc,h=>by
  have hr:=hw r (.head _);simp only[BE,gT,Option.bind_some] at h
  have hf:f<z:=by rw[←hr];exact(List.getElem?_eq_some_iff.1 h).1
  refine⟨?_,hf,by simp⟩;rw[Ae,Nat.zero_mul,nB,nw an];exact h
 |r::rs,hw,i+1,f,tc,h=>by
  have hr:=hw r (.head _)
  have h':BE rs i f=some tc:=by simpa [BE] using h
  obtain⟨h1,h2,h3⟩:=Al (fun r hr=>hw r (.tail _ hr)) h';refine⟨?_,h2,by simpa using h3⟩;rw[Ae,pP (by rw[hr,uN];omega),hr,show(i+1)*z+f-z=i*z+f by rw[uN];omega];exact h1
theorem dD {z:Nat}: ∀{rows:List (List TC)},(∀r∈rows,r.length=z)→rows.flatten.length=rows.length*z
 |[],_=>by simp
 |r::rs,hw=>by
  rw[Ae,cM,dD fun r hr=>hw r (.tail _ hr),hw r (.head _),gn,uN];omega
theorem pR.row (dp:Bool) {X:Nat→Nat→Prop} {Z:Nat→Prop} {z:Nat} {rows:List (List TC)} {vs:List Value} (p:pR w φ st st' (gl (if dp then .deep else .snap) rows.flatten vs) X Z) (hz:0<z) (hw: ∀r∈rows,r.length=z)
 (hl:vs.length=rows.length*z) {ad:Addr} {c:Nat} (hc:rows.length≤c) (hcm:c≤maxLen) (hs:ad.spot=none) (hnew: ∀i k,i<rows.length*z→X i k→k≠ad.block)
 (hmem: ∀k,(φ.I k∨Z k)→w'.heap[k]?=w.heap[k]?) (hmX: ∀i k,i<rows.length*z→X i k→w'.heap[k]?=w.heap[k]?)
 (hcell: ∀(j:Nat) (v:Value),vs[j]?=some v→w'.cell? (ad.add j)=some v) (hall: ∀j,j<c*z→(∃x,w'.cell? ⟨ad.block,ad.off+j,none⟩=some x)∧w'.frozen? ⟨ad.block,ad.off+j,none⟩=false) (Xf:1<z→ ∀i,w'.frozen? ⟨ad.block,i,none⟩=false):
 aB w' (fun k=>φ.I k∨Z k) (OB.m ⟨dp,z,rows⟩) (fun k=>k=ad.block∨ ∃i,i<rows.length*z∧X i k) (.sub z rows) (.slice (some ad) rows.length c):=by
 have hfl:=dD hw
 have hlen:(gl (if dp then Mode.deep else .snap) rows.flatten vs).length=rows.length*z:=by rw[lF (by rw[hfl,hl]),hfl]
 have inj: ∀{i f i' f':Nat},f<z→f'<z→i*z+f=i'*z+f'→i=i'∧f=f':=fun {i f i' f'} h1 h2 e=>by
  have e1:(i*z+f)/z=i:=by rw[Nat.mul_comm,Nat.mul_add_div hz,Nat.div_eq_of_lt h1,xz]
  have e2:(i'*z+f')/z=i':=by rw[Nat.mul_comm,Nat.mul_add_div hz,Nat.div_eq_of_lt h2,xz]
  have:i=i':=by rw[←e1,e,e2]
  subst this;exact⟨rfl,by omega⟩
 refine .sub _ _ z rows (some ad) c (fun i f=>vs.getD (i*z+f) undef) (fun i f k=>f<z∧i<rows.length∧dp=true∧X (i*z+f) k) ⟨hc,hcm,hz,hw,fun _=>⟨ad,rfl⟩,?_,?_,?_,fun _ h1z ad' e i=>(by cases e;exact Xf h1z i),?_⟩ ?_
 ·intro ad' e i f tc ht
  cases e
  obtain⟨h1,h2,h3⟩:=Al hw ht
  have hlt:i*z+f<vs.length:=by rw[hl,←hfl];exact(List.getElem?_eq_some_iff.1 h1).1
  rw[hcell _ _ (cw hlt)];simp[List.getD,cw hlt]
 ·intro hm
  exfalso
  revert hm
  unfold OB.m
  split<;>simp
 ·intro _
  refine⟨fun e=>(by cases e),fun ad' e=> ?_⟩
  cases e
  exact⟨.inl rfl,hs,hall⟩
 ·intro hm i f k hk
  obtain⟨h1,h2,h3,h4⟩:=hk;have hi:i*z+f<rows.length*z:=mq (Nat.add_lt_add_left h1 _) (by rw[←Bw];exact qx _ h2);refine⟨.inr ⟨_,hi,h4⟩,fun ad' e=>(by cases e;exact hnew _ k hi h4),fun i' f' hk'=> ?_⟩;obtain⟨g1,g2,g3,g4⟩:=hk';have hi':i'*z+f'<rows.length*z:=mq (Nat.add_lt_add_left g1 _) (by rw[←Bw];exact qx _ g2);exact inj g1 h1 (p.apart _ _ k (by rw[hlen];exact hi') (by rw[hlen];exact hi) g4 h4)
 ·intro i f tc ht
  obtain⟨h1,h2,h3⟩:=Al hw ht
  have hlt:i*z+f<vs.length:=by rw[hl,←hfl];exact(List.getElem?_eq_some_iff.1 h1).1
  have hv:vs[i*z+f]?=some (vs.getD (i*z+f) undef):=by simp[List.getD,cw hlt]
  have:=p.ok _ _ (rM h1 hv);simp only at this
  cases dp with
  |true=>
   simp only[if_true] at this;refine(aB.move this (fun k hk=>⟨hk,hmem k hk⟩) fun _ k hk=>hmX _ k (by rw[←hl];exact hlt) hk).mono fun k hk=>⟨h2,h3,rfl,hk⟩
  |false=>
   simp only[MM,if_false] at this;exact(aB.move this (fun k hk=>⟨hk,hmem k hk⟩) fun hm=>absurd rfl hm).uy fun k hk=>hk
end Go.T
namespace Go.T
variable {F : Nat → Prop} {A : Arg} {w0 w w' : World} {φ φ' : Fp} {st st' fR sK : TS} {tm Lo : Array Value} {C : pU}
variable {R : Type} {cf : Cf} {lp : Lp} {Q : R → Prop}
theorem bD.anl (h:bD F A w0 φ st tm w) (g:pV w w') {e:CE} {v:Value} (he:e9 st.ob w φ e v):e9 st.ob w' φ e v:=
 he.stay (fun k hk=>g.block k (h.sep.ro k hk).1) (fun d k hd hk=>g.block k (h.sep.lt h.frm.size hd hk)) fun o ho ad n c hv i v hc=>g.cell hc
theorem wO (w:World) (arr:Array Value) (t:TypeId) (j:Nat):(w.alloc (.cells arr t)).cell? ⟨w.heap.size,j,none⟩=arr[j]?:=by
 unfold World.cell?;simp only[heap_alloc_new]
 rfl
theorem nE (w:World) (arr:Array Value) (t:TypeId) (j:Nat):(w.alloc (.cells arr t)).frozen? ⟨w.heap.size,j,none⟩=false:=by
 unfold World.frozen?;simp only[heap_alloc_new];simp
theorem add_lit (b o j:Nat):(⟨b,o,none⟩:Addr).add j=⟨b,o+j,none⟩:=zF j rfl
theorem aiH (h:bD F A w0 φ st tm w) {d:Nat} (hw:DJ d=true) {cs:List CE} {arr:Array Value} {t:TypeId} (hc:AOk st.ob w φ cs arr):
 bD F A w0 (φ.box d ⟨w.heap.size,0,none⟩) (OI d cs st) tm (w.alloc (.cells arr t)):=by
 have g:=pV.alloc w (.cells arr t);refine(h.MW g).OI hw rfl dh (fun o ho hS=> ?_) (fun hI=> ?_) (.inl h.frm.size) (fun b' cs' hb' _ e=> ?_) (fun j e he=> ?_) fun j hj=> ?_
 ·have:=(h.sep.fresh o _ ho hS).1;simp at this
 ·have:=(h.sep.ro _ hI).1;simp at this
 ·have:=(h.sep.spot b' cs' hb').2.1;rw[e] at this;simp at this
 ·obtain⟨x,h1,h2,h3⟩:=hc.2 j e he
  exact⟨x,by rw[add_lit,wO,nB];exact h1,h2,h.anl g h3⟩
 ·rw[add_lit];exact nE _ _ _ _
theorem aiI (h0:bD F A w0 φ st tm w) (h:bD F A w0 φ st' tm w) {dp:Bool} {z:Nat} {rows:List (List TC)} {vs:List Value} {X:Nat→Nat→Prop} {Z G:Nat→Prop} {d:Nat}
 (p:pR w φ st st' (gl (if dp then .deep else .snap) rows.flatten vs) X Z) (hz:0<z) (zp: ∀r∈rows,r.length=z) (hl:vs.length=rows.length*z) {ad:Addr} {c:Nat} (hc:rows.length≤c) (hcm:c≤maxLen) (hs:ad.spot=none)
 (hf:MV F w0 w') (hsz:w.heap.size≤w'.heap.size) (hw: ∀k,k<w.heap.size→ ¬G k→w'.heap[k]?=w.heap[k]?) (hG: ∀k,G k→ ∃o,aT st.ob o∧ ¬aT st'.ob o∧φ.S o k)
 (hnZ: ∀k,Z k→ ¬G k∧k≠ad.block) (hnX: ∀i k,i<rows.length*z→X i k→ ¬G k∧k≠ad.block) (hb:(w.heap.size≤ad.block∧ad.block<w'.heap.size)∨ ∃o,aT st.ob o∧ ¬aT st'.ob o∧φ.S o ad.block)
 (hcell: ∀(j:Nat) (v:Value),vs[j]?=some v→w'.cell? (ad.add j)=some v) (hall: ∀j,j<c*z→(∃x,w'.cell? ⟨ad.block,ad.off+j,none⟩=some x)∧w'.frozen? ⟨ad.block,ad.off+j,none⟩=false) (Xf:1<z→ ∀i,w'.frozen? ⟨ad.block,i,none⟩=false) (hd:d<tm.size):
 Rel F A w0 (Br d ⟨dp,z,rows⟩ st') (tm.setIfInBounds d (.slice (some ad) rows.length c)) w':=by
 have kI: ∀{k},(∃o,aT st.ob o∧ ¬aT st'.ob o∧φ.S o k)→ ¬φ.I k:=fun⟨o,a1,a2,a3⟩=>h0.sep.read o _ a1 a3
 have kS: ∀{k},(∃o,aT st.ob o∧ ¬aT st'.ob o∧φ.S o k)→ ∀o',aT st'.ob o'→ ¬φ.S o' k:=fun⟨o,a1,a2,a3⟩ o' ho' hk=>by
  have:=h0.sep.apart o o' _ a1 (p.sub.dom ho') a3 hk;subst this;exact a2 ho'
 have kF: ∀{k},(∃o,aT st.ob o∧ ¬aT st'.ob o∧φ.S o k)→k<w.heap.size∧(w0.heap.size≤k∨F k):=fun⟨o,a1,a2,a3⟩=>h0.sep.fresh o _ a1 a3
 have kB: ∀{k},(∃o,aT st.ob o∧ ¬aT st'.ob o∧φ.S o k)→ ∀b cs,az b st'.bx=some cs→(φ.β b).block≠k:=fun {k} ⟨o,a1,a2,a3⟩ b cs hb e=>by
  obtain⟨cs0,c0,_⟩:=p.sub.bx b cs hb
  cases KQ:DJ b with
  |true=>exact(h0.sep.box b cs0 c0 KQ).2.1 o a1 (by rw[e];exact a3)
  |false=>
   have h1:=h0.sep.qQ _ ((h0.sep.spot b cs0 c0).2.2 KQ);rw[e] at h1;rcases (h0.sep.fresh o k a1 a3).2 with h3|h3
   ·omega
   ·exact h1.2 h3
 have h1:=h.wrote (w':=w') [] (fun _ _=>False) Z G hf hsz hw (fun k hk=>(kF (hG k hk)).2) (fun k hk=>kI (hG k hk)) (fun k o hk ho _=>kS (hG k hk) o ho) (fun b cs hb hk=>kB (hG _ hk) b cs hb rfl)
  (fun o b' hb'=>by simp[az] at hb')
  (fun k hk=>⟨mq (kF (p.srcZ k hk)).1 hsz,(kF (p.srcZ k hk)).2.elim .inl fun hF=> .inr (.inl hF),fun o ho _=>kS (p.srcZ k hk) o ho,fun b cs hb _=>kB (p.srcZ k hk) b cs hb⟩)
 have hlen:(gl (if dp then Mode.deep else .snap) rows.flatten vs).length=rows.length*z:=by rw[lF (by rw[dD zp,hl]),dD zp]
 have hrow:=p.row (w':=w') dp hz zp hl hc hcm hs (fun i k hi hk=>(hnX i k hi hk).2)
  (fun k hk=>by
    rcases hk with hk|hk
    ·exact hw k (h0.sep.ro k hk).1 fun hg=>kI (hG k hg) hk
    ·exact hw k (kF (p.srcZ k hk)).1 (hnZ k hk).1)
  (fun i k hi hk=>hw k (kF (p.src i k (by rw[hlen];exact hi) hk).2).1 (hnX i k hi hk).1) hcell hall Xf
 have hbI: ¬φ.I ad.block:=fun hI=>by
  rcases hb with⟨hb,_⟩|hb
  ·have:=(h0.sep.ro _ hI).1;omega
  ·exact kI hb hI
 have h2:=h1.IQ (o:=xu d 0 0) (b:=⟨dp,z,rows⟩) (by unfold xu;omega) hrow (fun k hk=>by
  rcases hk with rfl|⟨i,hi,hk⟩
  ·rcases hb with⟨b1,b2⟩|hb
   ·exact⟨b2,.inl (uO h0.frm.size b1)⟩
   ·exact⟨mq (kF hb).1 hsz,(kF hb).2⟩
  ·have:=kF (p.src i k (by rw[hlen];exact hi) hk).2
   exact⟨mq this.1 hsz,this.2⟩)
  (fun k hk hI=>by
    rcases hk with rfl|⟨i,hi,hk⟩
    ·rcases hI with hI|hI
     ·exact hbI hI
     ·exact(hnZ _ hI).2 rfl
    ·have hsr:=p.src i k (by rw[hlen];exact hi) hk
     rcases hI with hI|hI
     ·exact kI hsr.2 hI
     ·exact hsr.1 hI)
  (fun k o hk _ ho hS=>by
    have hS:φ.S o k:=hS;have ho:aT st'.ob o:=ho;rcases hk with rfl|⟨i,hi,hk⟩
    ·rcases hb with⟨b1,_⟩|hb
     ·have:=(h.sep.fresh o _ ho hS).1;omega
     ·exact kS hb o ho hS
    ·exact kS (p.src i k (by rw[hlen];exact hi) hk).2 o ho hS)
  (fun b cs hb' KQ hk=>by
    have hb':az b st'.bx=some cs:=hb';rcases hk with e|⟨i,hi,hk⟩
    ·rcases hb with⟨b1,_⟩|hb
     ·have:=(h.sep.spot b cs hb').2.1
      have e:(φ.β b).block=ad.block:=e;omega
     ·exact kB hb b cs hb' e
    ·exact kB (p.src i _ (by rw[hlen];exact hi) hk).2 b cs hb' rfl)
 have h3:=h2.Xw (d:=d) (e:=one (.ref (xu d 0 0) none)) (v:= .slice (some ad) rows.length c) hd (aaP rfl ⟨⟨dp,z,rows⟩,by
  show az _ (rW _ _ _)=_
  exact pJ,by simp[Fp.add]⟩)
 exact⟨_,h3⟩
theorem agI (h:bD F A w0 φ st tm w) {dp:Bool} {z d:Nat} (hz:0<z) (hd:d<tm.size):Rel F A w0 (Br d ⟨dp,z,[]⟩ st) (tm.setIfInBounds d (.slice none 0 0)) w:=by
 have h2:=h.IQ (o:=xu d 0 0) (b:=⟨dp,z,[]⟩) (X:=OF) (v:= .slice none 0 0) (by unfold xu;omega) (Fe hz) (fun k hk=>hk.elim) (fun k hk=>hk.elim) (fun k o hk=>hk.elim) (fun b cs _ _ hk=>hk)
 exact⟨_,h2.Xw (d:=d) (e:=one (.ref (xu d 0 0) none)) (v:= .slice none 0 0) hd (aaP rfl ⟨⟨dp,z,[]⟩,by
  show az _ (rW _ _ _)=_
  exact pJ,by simp[Fp.add]⟩)⟩
theorem aB.parts (h:bD F A w0 φ st tm w) {o:Nat} (ho:aT st.ob o) {m M:Mode} {z:Nat} {rows:List (List TC)} {v:Value} (hr:aB w φ.I m (φ.S o) (.sub z rows) v) (hm:m≠ .snap) (hM:M= .snap∨M= .deep∧m= .deep):
 ∃vals X Z,vals.length=rows.length*z∧pR w φ st (qU o st) (gl M rows.flatten vals) X Z∧ ∀ad n c,v= .slice (some ad) n c→(∀(j:Nat) (x:Value),vals[j]?=some x→w.cell? (ad.add j)=some x)∧(∀i k,X i k→k≠ad.block)∧ ∀k,Z k→k≠ad.block:=by
 cases hr with
 |sub _ _ _ _ Ad c u T k hn=>
  have hz:=k.z0;have zp:=k.width;have hsub:=gx.kill st o;have hfl:=dD zp
  have at_of: ∀{p:Nat} {tc:TC},rows.flatten[p]?=some tc→BE rows (p/z) (p % z)=some tc:=fun {p tc} hp=>by
   have hlt:p<rows.length*z:=by rw[←hfl];exact(List.getElem?_eq_some_iff.1 hp).1
   have hi:p/z<rows.length:=Nat.div_lt_of_lt_mul (by rw[Nat.mul_comm];exact hlt);have hrl:=zp _ (DM hi)
   have hf:p % z<(rows[p/z]).length:=by rw[hrl];exact Nat.mod_lt _ hz
   have h1:BE rows (p/z) (p % z)=some (rows[p/z][p % z]):=by simp[BE,cw hi,cw hf]
   have h2:=(Al zp h1).1;rw[MP p z] at h2;rw[h1,←h2,hp]
  have uv:aT st.ob o∧ ¬aT (qU o st).ob o:=⟨ho,fun hd=>(nh.1 hd).1 rfl⟩
  let vals:List Value:=(List.range (rows.length*z)).map fun p=>u (p/z) (p % z)
  have hvl:vals.length=rows.length*z:=by simp[vals]
  have hval: ∀{p:Nat} {x:Value},vals[p]?=some x→p<rows.length*z∧x=u (p/z) (p % z):=fun {p x} hp=>by
   have hlt:p<rows.length*z:=by rw[←hvl];exact(List.getElem?_eq_some_iff.1 hp).1
   refine⟨hlt,?_⟩;simp[vals,hlt] at hp;exact hp.symm
  have hcl:(gl M rows.flatten vals).length=rows.length*z:=by rw[lF (by rw[hfl,hvl]),hfl]
  have hmem: ∀ad n c',Value.slice Ad rows.length c= .slice (some ad) n c'→ ∀(j:Nat) (x:Value),vals[j]?=some x→w.cell? (ad.add j)=some x:=fun ad n c' e j x hx=>by
   cases e
   obtain⟨hlt,rfl⟩:=hval hx;obtain⟨tc,htc⟩: ∃tc,rows.flatten[j]?=some tc:=⟨_,cw (by rw[hfl];exact hlt)⟩;have:=k.cell ad rfl _ _ tc (at_of htc);rw[MP j z] at this;exact this
  by_cases aay:M= .deep
  ·subst aay
   have hmd:m= .deep:=by
    rcases hM with e|⟨_,e⟩
    ·cases e
    ·exact e
   subst hmd;refine⟨vals,fun p b=>p<rows.length*z∧T (p/z) (p % z) b,fun _=>False,hvl,⟨fun i it hi=> ?_,fun i b hi hb=> ?_,fun b hb=>hb.elim,fun i j b hi hj hb hb'=> ?_,hsub⟩,fun ad n c' e=>⟨hmem ad n c' e,fun i b hb=> ?_,fun b hb=>hb.elim⟩⟩
   ·obtain⟨tc,x,h1,h2,rfl⟩:=qE hi
    obtain⟨hlt,rfl⟩:=hval h2;exact((hn _ _ tc (at_of h1)).sW fun b hb=> .inl hb).mono fun b hb=>⟨hlt,hb⟩
   ·exact⟨id,o,uv.1,uv.2,(k.sO rfl _ _ b hb.2).1⟩
   ·obtain⟨e1,e2⟩:=(k.sO rfl _ _ b hb.2).2.2 _ _ hb'.2
    rw[←MP i z,←MP j z,e1,e2]
   ·cases e
    exact(k.sO rfl _ _ b hb.2).2.1 ad rfl
  ·have hMs:M= .snap:=hM.elim id fun⟨e,_⟩=>absurd e aay
   subst hMs;refine⟨vals,fun _ _=>False,fun b=>m= .deep∧ ∃i f,T i f b,hvl,⟨fun i it hi=> ?_,fun i b hi hb=>hb.elim,fun b hb=> ?_,fun i j b hi hj hb=>hb.elim,hsub⟩,fun ad n c' e=>⟨hmem ad n c' e,fun i b hb=>hb.elim,fun b hb=> ?_⟩⟩
   ·obtain⟨tc,x,h1,h2,rfl⟩:=qE hi
    obtain⟨hlt,rfl⟩:=hval h2;exact(hn _ _ tc (at_of h1)).freeze (fun b hb=> .inl hb) fun hx b hb=> .inr ⟨zC hx,_,_,hb⟩
   ·obtain⟨hmd,i,f,hb⟩:=hb
    exact⟨o,uv.1,uv.2,(k.sO hmd _ _ b hb).1⟩
   ·cases e
    obtain⟨hmd,i,f,hb⟩:=hb;exact(k.sO hmd _ _ b hb).2.1 ad rfl
end Go.T
namespace Go.T
variable {F : Nat → Prop} {A : Arg} {w0 w w' : World} {φ φ' : Fp} {st st' fR sK : TS} {tm Lo : Array Value} {C : pU}
variable {R : Type} {cf : Cf} {lp : Lp} {Q : R → Prop}
def Wr (st:TS) (φ:Fp) (l:List Nat) (k:Nat):Prop:=(∃b cs,2*b+1∈l∧az b st.bx=some cs∧DJ b=true∧k=(φ.β b).block)∨ ∃o,2*o∈l∧aT st.ob o∧φ.S o k
def Did (C:pU) (F:Nat→Prop) (A:Arg) (w0:World) (φ:Fp) (st:TS) (o:Oper) (a:Act) (w:World) (K:TS→Ev R) (cf:Cf) (lp:Lp) (Q:R→Prop):Prop:=
 ∃nx v w' st',(execOp a.eval o).run C.P w= .ok nx w'∧(nx= .value v∨nx= .skip∧v=undef)∧Rel F A w0 st' (a.put o.dst v).tmps w'∧(K st').holds cf lp Q∧w.heap.size≤w'.heap.size∧
  ∀k,k<w.heap.size→ ¬Wr st φ (writes C st o) k→w'.heap[k]?=w.heap[k]?
theorem DX {i:nT} (h:Dk i=true):known i=true∧ ∀e,i.ti≠ .ptr e:=by
 unfold Dk at h;unfold known
 split at h<;>first|cases h|skip
 rename_i h1 h2;exact⟨by split<;>first|rfl|(rename_i e;exact absurd e h1),fun e he=>h2 e he⟩
theorem afX (hT:iY C) {a:Act} (h:bD F A w0 φ st a.tmps w) {o:Oper} {K:TS→Ev R} (hd: ∀d,o.dst=some d→d<a.tmps.size) (hk:(ZM C st o K).holds cf lp Q):Did C F A w0 φ st o a w K cf lp Q:=by
 unfold ZM at hk
 cases nX:o.dst with
 |none=>rw[nX] at hk;exact hk.elim
 |some d=>
  rw[nX] at hk;obtain⟨v,e,h1,h2,h3,_⟩:=acG hT h hk;exact⟨_,v,w,_,h1,.inl rfl,⟨φ,by rw[nX];exact h.Xw (hd d nX) h2⟩,h3,de _,fun _ _ _=>rfl⟩
theorem aiJ (hT:iY C) {a:Act} (h:bD F A w0 φ st a.tmps w) {o:Oper} {t:TypeId} (ho:o.op= .alloc t) {K:TS→Ev R} (hd: ∀d,o.dst=some d→d<a.tmps.size) (hk:(sV C st o K).holds cf lp Q):Did C F A w0 φ st o a w K cf lp Q:=by
 unfold sV at hk;rw[ho] at hk;simp only at hk
 split at hk
 ·rename_i d nX hp
  split at hk
  ·rename_i hw
   obtain⟨hkn,hnp⟩:=DX hp;obtain⟨i,z,h1,h2,h3,h4,h5⟩:=aaW (w:=w) (φ:=φ) hT hkn hnp (ob:=st.ob)
   have hn:=(aiH h hw (t:=t) h4).Xw (d:=d) (e:= .bp d 0) (v:= .pointer (some ⟨w.heap.size,0,none⟩)) (hd d nX) (by
    show _=Value.pointer (some (((φ.box d ⟨w.heap.size,0,none⟩).β d).add 0))
    rw[Ak,Addr.add_zero'])
   refine⟨.value (.pointer (some ⟨w.heap.size,0,none⟩)),_,_,_,?_,.inl rfl,⟨_,by rw[nX];exact hn⟩,hk,by simp,fun k hk _=>(pV.alloc w _).block k hk⟩;unfold execOp;rw[ho];simp[Instr.alloc,zeroValue,typeInfo,h1,h3,newVar,newRow]
  ·exact hk.elim
 ·exact hk.elim
theorem anm (hT:iY C) {a:Act} (h:bD F A w0 φ st a.tmps w) {o:Oper} {t:TypeId} {x:Operand} (ho:o.op= .box t x) {K:TS→Ev R} (hd: ∀d,o.dst=some d→d<a.tmps.size) (hk:(sV C st o K).holds cf lp Q):Did C F A w0 φ st o a w K cf lp Q:=by
 unfold sV at hk;rw[ho] at hk;simp only at hk
 split at hk
 ·rename_i d cs nX hc
  split at hk
  ·rename_i hw
   have hcs:=xH (gv hT h t x) hc
   have hn:=(aiH h hw (t:=t) (arr:=(a.eval x).cells) hcs).Xw (d:=d) (e:= .bp d 0) (v:= .pointer (some ⟨w.heap.size,0,none⟩)) (hd d nX) (by
    show _=Value.pointer (some (((φ.box d ⟨w.heap.size,0,none⟩).β d).add 0))
    rw[Ak,Addr.add_zero'])
   refine⟨.value (.pointer (some ⟨w.heap.size,0,none⟩)),_,_,_,?_,.inl rfl,⟨_,by rw[nX];exact hn⟩,hk,by simp,fun k hk _=>(pV.alloc w _).block k hk⟩;unfold execOp;rw[ho];simp[Instr.box,newVar,newRow]
  ·exact hk.elim
 ·exact hk.elim
theorem Nb {P:Program} {tt:TypeId→nT} {t:TypeId} (h:Kr P tt t) {ad:Addr} (hs:ad.spot=none) {v:Value} (hv:v.cells.size=(tt t).size) (h1: ∀x∈v.cells.toList,x.oneCell'=true)
 (hc: ∀j,j<v.cells.size→(w.cell? (ad.add j)).isSome=true∧w.frozen? (ad.add j)=false):(Instr.storeAt t (.pointer (some ad)) v).run P w= .ok () (w.setCells ad.block ad.off v.cells.toList):=by
 obtain⟨i,z,g1,g2,_⟩:=h.info;have v8: ∀j,ad.add j=⟨ad.block,ad.off+j,none⟩:=fun j=>zF j hs;have hst:=run_storeCells_cells (P:=P) ad.block ad.off v.cells.toList 0 w (fun j hj=>by rw[xz,←v8];exact(hc j (by simpa using hj)).1) (fun j hj=>by rw[xz,←v8];exact(hc j (by simpa using hj)).2) h1
 have had:(⟨ad.block,ad.off,none⟩:Addr)=ad:=by cases ad;simp_all
 rw[had,xz] at hst;simp only[Instr.storeAt,Instr.sureAddr,storeVar,sizeOf,typeInfo,Sem.run_bind,Sem.run_pure,Result.andThen];simp[g1,g2,hv,hst]
theorem KZ: ∀{cs:List CE},UB cs=false→ ∀e∈cs,e≠ .gone
 |[],_,e,he=>by cases he
 |c::r,h,e,he=>by
  cases c with
  |gone=>cases h
  |_=>
   rcases gj.1 he with rfl|he
   ·simp
   ·exact KZ (cs:=r) h e he
theorem Ks.one {cs:List CE} {v:Value} (h:Ks st.ob w φ cs v) (hb: ∀o b,az o st.ob=some b→rX w φ o b) (hg:UB cs=false): ∀x∈v.cells.toList,x.oneCell'=true:=by
 intro x hx;obtain⟨j,hj,rfl⟩:=List.mem_iff_getElem.1 hx
 have hj':j<cs.length:=by rw[←h.1];simpa using hj
 obtain⟨y,h1,_,h3⟩:=h.2 j _ (cw hj')
 have hjv:j<v.cells.size:=by simpa using hj
 rw[zf hjv] at h1;simp only[aY] at h1;rw[Array.getElem_toList,h1];exact agH h3 (KZ hg _ (DM hj')) hb
theorem afY {α:Type} {old cs:List α} {off j:Nat} {e:α} (h:(old.take off++cs++old.drop (off+cs.length))[j]?=some e) (hle:off+cs.length≤old.length):
 (off≤j∧j<off+cs.length∧cs[j-off]?=some e)∨((j<off∨off+cs.length≤j)∧old[j]?=some e):=by
 have hto:(old.take off).length=off:=by rw[fu];omega
 rw[Ac] at h
 by_cases h1:j<off
 ·rw[nw an,DL,aJ h1] at h
  exact .inr ⟨.inl h1,h⟩
 ·rw[pP an,hto] at h
  by_cases h2:j<off+cs.length
  ·rw[nw an] at h
   exact .inl ⟨by omega,h2,h⟩
  ·rw[pP an,uw,show off+cs.length+(j-off-cs.length)=j by omega] at h
   exact .inr ⟨.inr an,h⟩
theorem Ly {α:Type} {old cs:List α} {off:Nat} (hle:off+cs.length≤old.length):(old.take off++cs++old.drop (off+cs.length)).length=old.length:=by
 simp only[cM,fu,jd];omega
theorem acM {a:Act} (hT:iY C) (h:bD F A w0 φ st a.tmps w) {o:Oper} {t:TypeId} {p x:Operand} (ho:o.op= .store t p x) (nX:o.dst=none) {cs:List CE} (hkn:known (C.tt t)=true) (hcs:Ks st.ob w φ cs (a.eval x))
 (hsz:cs.length=(C.tt t).size) {b off:Nat} (hp:xq C st 0 p= .bp b off) {st':TS} (hs:U0 b off cs st=some st') {K:TS→Ev R} (hk:(K st').holds cf lp Q):Did C F A w0 φ st o a w K cf lp Q:=by
 unfold U0 at hs
 split at hs
 ·rename_i old hb
  split at hs
  ·rename_i hwg hle
   cases hs
   have hle:=wI hle;simp only[fk,F0] at hwg;obtain⟨hw,hg⟩:=hwg;have hpv:=gv hT h 0 p;rw[hp] at hpv;have hpv:a.eval p= .pointer (some ((φ.β b).add off)):=hpv;have zu:=(h.sep.spot b old hb).1 hw;have v8: ∀j,(φ.β b).add j=⟨(φ.β b).block,(φ.β b).off+j,none⟩:=fun j=>zF j zu;obtain⟨bx1,bx2,bx3,bx4⟩:=h.sep.box b old hb hw;have ahO:(a.eval x).cells.size=cs.length:=hcs.1
   have hrun:=Nb (w:=w) (hT t hkn) (ad:=(φ.β b).add off) (I1 off zu) (v:=a.eval x) (by rw[ahO,hsz]) (hcs.one h.obj hg) (fun j hj=>by
    rw[Addr.add_add]
    have hj:off+j<old.length:=by rw[ahO] at hj;omega
    obtain⟨v,c1,_⟩:=h.box b old hb (off+j) _ (cw hj)
    exact⟨by rw[c1];rfl,h.sep.soft b old (off+j) hb hw hj⟩)
   rw[dm,v8 off] at hrun;simp only at hrun;have MI: ∀k,k<w.heap.size→k≠(φ.β b).block→(w.setCells (φ.β b).block ((φ.β b).off+off) (a.eval x).cells.toList).heap[k]?=w.heap[k]?:=fun k hk hne=>iA _ _ _ _ hk hne;have hlt:(φ.β b).block<w.heap.size:=(h.sep.spot b old hb).2.1
   have hnew:=h.OH (w':=w.setCells (φ.β b).block ((φ.β b).off+off) (a.eval x).cells.toList) hb hw (Ly hle) (h.frm.setCells bx3) (by rw[(oC _ _ _ _).2.2.2];exact de _) MI
    (fun j hj=>by rw[World.frozen?_setCells];exact h.sep.soft b old j hb hw (by rw[Ly hle] at hj;exact hj))
    (fun j e he=>by
      rcases afY he hle with⟨l1,l2,l3⟩|⟨l1,l2⟩
      ·obtain⟨y,y1,y2,y3⟩:=hcs.2 _ e l3
       have hin:=World.cell?_setCells_in (φ.β b).block (a.eval x).cells.toList ((φ.β b).off+off) w (fun j' hj'=>by
        have hj':j'<cs.length:=by rw[←ahO];simpa using hj'
        obtain⟨v,c1,_⟩:=h.box b old hb (off+j') _ (cw an);rw[v8] at c1
        rw[show(φ.β b).off+off+j'=(φ.β b).off+(off+j') by omega,c1];rfl) (j-off) (by rw[Ab,ahO];omega)
       refine⟨y,?_,y2,y3⟩;rw[v8,show(φ.β b).off+j=(φ.β b).off+off+(j-off) by omega,hin]
       have hjv:j-off<(a.eval x).cells.size:=by rw[ahO];omega
       rw[zf hjv] at y1;rw[Array.getElem_toList,←y1]
      ·obtain⟨v,c1,c2,c3⟩:=h.box b old hb j e l2
       refine⟨v,?_,c2,c3⟩;rw[World.cell?_setCells_out]
       ·exact c1
       ·intro _ _
        rw[v8,Ab,ahO];simp only
        omega)
   refine⟨.skip,undef,_,_,?_,.inr ⟨rfl,rfl⟩,⟨φ,by rw[nX];exact hnew⟩,hk,by rw[(oC _ _ _ _).2.2.2];exact de _,fun k hk hnw=> ?_⟩
   ·unfold execOp
    rw[ho];simp only[Sem.run_bind,hpv,v8,hrun,Result.andThen]
    rfl
   ·refine MI k hk fun e=>hnw (.inl ⟨b,old,?_,hb,hw,e⟩)
    unfold writes;rw[ho];simp only[hp];exact .head _
  ·cases hs
 ·cases hs
end Go.T
namespace Go.T
variable {F : Nat → Prop} {A : Arg} {w0 w w' : World} {φ φ' : Fp} {st st' fR sK : TS} {tm Lo : Array Value} {C : pU}
variable {R : Type} {cf : Cf} {lp : Lp} {Q : R → Prop}
def va (rows:List (List TC)) (i f:Nat) (cs:List TC):List (List TC):=match rows[i]? with
 |some r=>rows.set i (r.take f++cs++r.drop (f+cs.length))
 |none=>rows
attribute [local semireducible] setRow in
theorem xL (rows:List (List TC)) (i:Int) (f:Nat) (cs:List TC):setRow rows i f cs=va rows i.toNat f cs:=rfl
theorem nF (rows:List (List TC)) (i f:Nat) (cs:List TC):(va rows i f cs).length=rows.length:=by
 unfold va;split<;>simp
theorem Ff {rows:List (List TC)} {i f:Nat} {cs row:List TC} (hrow:rows[i]?=some row) (hf:f+cs.length≤row.length) {i' f':Nat} {tc:TC} (h:BE (va rows i f cs) i' f'=some tc):
 (i'=i∧f≤f'∧f'<f+cs.length∧cs[f'-f]?=some tc)∨((i'≠i∨f'<f∨f+cs.length≤f')∧BE rows i' f'=some tc):=by
 unfold va at h;simp only[hrow] at h
 by_cases hi:i'=i
 ·subst hi
  have hlt:=(List.getElem?_eq_some_iff.1 hrow).1;simp only[BE,List.getElem?_set_self hlt,Option.bind_some] at h;rcases afY h hf with⟨a,b,c⟩|⟨a,b⟩
  ·exact .inl ⟨rfl,a,b,c⟩
  ·exact .inr ⟨.inr a,by simp[BE,hrow,b]⟩
 ·simp only[BE,List.getElem?_set_ne (Ne.symm hi)] at h
  exact .inr ⟨.inl hi,h⟩
theorem Nc {z:Nat} {rows:List (List TC)} (hw: ∀r∈rows,r.length=z) {i f:Nat} {cs row:List TC} (hrow:rows[i]?=some row) (hf:f+cs.length≤row.length): ∀r∈va rows i f cs,r.length=z:=by
 intro r hr;unfold va at hr;simp only[hrow] at hr;rcases List.mem_or_eq_of_mem_set hr with hr|rfl
 ·exact hw r hr
 ·rw[Ly hf];exact hw row (iV hrow)
theorem aB.mono' {w:World} {Rd S S':Nat→Prop} {m:Mode} {t:TC} {v:Value} (h:aB w Rd m S t v) (hS:m≠ .snap→ ∀b,S b→S' b):aB w Rd m S' t v:=by
 by_cases hm:m= .snap
 ·subst hm;exact h.uy fun _ h=>h
 ·exact h.mono (hS hm)
theorem aB.agJ {w w':World} {Rd S:Nat→Prop} {t:TC} {v:Value} (h:aB w Rd .deep S t v) (hS: ∀b,S b→w'.heap[b]?=w.heap[b]?):aB w' Rd .deep S t v:=
 (((h.I6 rfl:aB w OF .deep S t v).move (R':=OF) (fun _ h=>h.elim) fun _=>hS).I6 rfl:aB w' Rd .deep S t v)
theorem aB.put {Rd S:Nat→Prop} {m:Mode} {z n c:Nat} {rows:List (List TC)} {ad:Addr} (h:aB w Rd m S (.sub z rows) (.slice (some ad) n c)) (hm:m≠ .snap) {i f:Nat} {ts row:List TC} (hrow:rows[i]?=some row) (hf:f+ts.length≤row.length)
 {vs:List Value} (hl:vs.length=ts.length) (h1: ∀v∈vs,v.oneCell'=true) {X:Nat→Nat→Prop} (hX: ∀(j:Nat) (t:TC) (v:Value),ts[j]?=some t→vs[j]?=some v→aB w Rd m.nx (X j) t v)
 (hXd:m= .deep→ ∀j k,j<ts.length→X j k→ ¬S k∧ ∀j',j'<ts.length→X j' k→j'=j) (hRd: ∀k,Rd k→k<w.heap.size∧k≠ad.block) (hS: ∀k,S k→k<w.heap.size) (hXs: ∀j k,j<ts.length→X j k→k<w.heap.size):
 ad.spot=none∧S ad.block∧(∀j,j<vs.length→(w.cell? (ad.add (i*z+f+j))).isSome=true∧w.frozen? (ad.add (i*z+f+j))=false)∧
 aB (w.setCells ad.block (ad.off+(i*z+f)) vs) Rd m (fun k=>S k∨(m= .deep∧ ∃j,j<ts.length∧X j k)) (.sub z (va rows i f ts)) (.slice (some ad) n c):=by
 cases h with
 |sub _ _ _ _ _ _ u T k hn=>
  have hlt:=(List.getElem?_eq_some_iff.1 hrow).1;have hrl:=k.width row (iV hrow);obtain⟨hSb,zu,hall⟩:=(k.own hm).2 ad rfl;have v8: ∀j,ad.add j=⟨ad.block,ad.off+j,none⟩:=fun j=>zF j zu
  have inb: ∀j,j<ts.length→i*z+f+j<c*z:=fun j hj=>by
   have:i*z+f+j<(i+1)*z:=by rw[uN];omega
   exact mq this (qx _ (by have:=k.len;omega))
  have there: ∀j,j<vs.length→(w.cell? (ad.add (i*z+f+j))).isSome=true∧w.frozen? (ad.add (i*z+f+j))=false:=fun j hj=>by
   obtain⟨⟨x,hx⟩,hfz⟩:=hall (i*z+f+j) (inb j an);rw[v8];exact⟨by rw[hx];rfl,hfz⟩
  have MI: ∀b,b<w.heap.size→b≠ad.block→(w.setCells ad.block (ad.off+(i*z+f)) vs).heap[b]?=w.heap[b]?:=fun b hb hne=>iA _ _ _ _ hb hne;have hXb: ∀j b,j<ts.length→m= .deep→X j b→b≠ad.block:=fun j b hj hmd hb e=>(hXd hmd j b hj hb).1 (by rw[e];exact hSb)
  have hin: ∀j (hj:j<vs.length),(w.setCells ad.block (ad.off+(i*z+f)) vs).cell? (ad.add (i*z+f+j))=some vs[j]:=fun j hj=>by
   have:=World.cell?_setCells_in ad.block vs (ad.off+(i*z+f)) w (fun j' hj'=>by
    have:=(there j' hj').1;rw[v8] at this
    rw[show ad.off+(i*z+f)+j'=ad.off+(i*z+f+j') by omega];exact this) j hj
   rw[v8,show ad.off+(i*z+f+j)=ad.off+(i*z+f)+j by omega];exact this
  have hout: ∀p,(p<i*z+f∨i*z+f+vs.length≤p)→(w.setCells ad.block (ad.off+(i*z+f)) vs).cell? (ad.add p)=w.cell? (ad.add p):=fun p hp=>by
   refine World.cell?_setCells_out _ _ _ _ _ fun _ _=> ?_;rw[v8];simp only;omega
  refine⟨zu,hSb,there,?_⟩
  let inr:Nat→Nat→Prop:=fun i' f'=>i'=i∧f≤f'∧f'<f+ts.length
  have dec: ∀i' f',Decidable (inr i' f'):=fun _ _=>inferInstanceAs (Decidable (_∧_∧_))
  have key:=aB.sub (w:=w.setCells ad.block (ad.off+(i*z+f)) vs) (R:=Rd) m (fun b=>S b∨(m= .deep∧ ∃j,j<ts.length∧X j b)) z (va rows i f ts) (some ad) c
   (fun i' f'=>if i'=i∧f≤f'∧f'<f+ts.length then vs.getD (f'-f) undef else u i' f') (fun i' f' b=>if i'=i∧f≤f'∧f'<f+ts.length then m= .deep∧X (f'-f) b else T i' f' b) ?_ ?_
  ·rw[nF] at key;exact key
  ·refine⟨by rw[nF];exact k.len,k.cap,k.z0,Nc k.width hrow hf,fun _=>⟨ad,rfl⟩,?_,fun e=>absurd e hm,fun _=>⟨fun e=>(by cases e),?_⟩,fun hm h1z ad' e i=>(by cases e;rw[World.frozen?_setCells];exact k.soft hm h1z ad rfl i),?_⟩
   ·intro ad' e i' f' tc ht
    cases e
    rcases Ff hrow hf ht with⟨rfl,a,b,hc⟩|⟨hn',hc⟩
    ·rw[aJ ⟨rfl,a,b⟩]
     have hj:f'-f<vs.length:=by omega
     have:=hin (f'-f) hj;rw[show i'*z+f+(f'-f)=i'*z+f' by omega] at this;rw[this];simp[List.getD,cw hj]
    ·rw[aF an]
     rw[hout]
     ·exact k.cell ad rfl i' f' tc hc
     ·obtain⟨_,hf',_⟩:=Al k.width hc
      by_cases hi:i'=i
      ·subst hi;omega
      ·rcases Nat.lt_or_gt_of_ne hi with hi|hi
       ·left
        have:i'*z+z≤i*z:=by rw[←Bw];exact qx _ hi
        omega
       ·right
        have:i*z+z≤i'*z:=by rw[←Bw];exact qx _ hi
        omega
   ·intro ad' e
    cases e
    refine⟨.inl hSb,zu,fun j hj=> ?_⟩;obtain⟨⟨x,hx⟩,hfz⟩:=hall j hj;refine⟨?_,by rw[World.frozen?_setCells];exact hfz⟩;have:=World.isSome_setCells ad.block vs (ad.off+(i*z+f)) w ⟨ad.block,ad.off+j,none⟩ (by rw[hx];rfl);exact Option.isSome_iff_exists.1 this
   ·intro hmd i' f' b hb
    by_cases hr:i'=i∧f≤f'∧f'<f+ts.length
    ·rw[aJ hr] at hb
     have hj:f'-f<ts.length:=by omega
     refine⟨.inr ⟨hmd,_,hj,hb.2⟩,fun ad' e=>(by cases e;exact hXb _ b hj hmd hb.2),fun i2 f2 hb2=> ?_⟩
     by_cases Xo:i2=i∧f≤f2∧f2<f+ts.length
     ·rw[aJ Xo] at hb2
      have:=(hXd hmd _ b hj hb.2).2 _ an hb2.2;omega
     ·rw[aF Xo] at hb2
      exact absurd (k.sO hmd i2 f2 b hb2).1 (hXd hmd _ b hj hb.2).1
    ·rw[aF hr] at hb
     obtain⟨d1,d2,d3⟩:=k.sO hmd i' f' b hb;refine⟨.inl d1,d2,fun i2 f2 hb2=> ?_⟩
     by_cases Xo:i2=i∧f≤f2∧f2<f+ts.length
     ·rw[aJ Xo] at hb2
      exact absurd d1 (hXd hmd _ b an hb2.2).1
     ·rw[aF Xo] at hb2
      exact d3 i2 f2 hb2
  ·intro i' f' tc ht
   rcases Ff hrow hf ht with⟨rfl,a,b',hc⟩|⟨hn',hc⟩
   ·rw[aJ ⟨rfl,a,b'⟩]
    have hj:f'-f<vs.length:=by omega
    have hx:=hX (f'-f) tc vs[f'-f] hc (cw hj)
    have hv:vs.getD (f'-f) undef=vs[f'-f]:=by simp[List.getD,cw hj]
    rw[hv];refine(aB.move hx (fun b hb=>⟨hb,MI b (hRd b hb).1 (hRd b hb).2⟩) fun hnx b hb=>MI b (hXs _ b an hb) (hXb _ b an (zC hnx) hb)).mono' fun hnx b hb=> ?_;rw[aJ ⟨rfl,a,b'⟩];exact⟨zC hnx,hb⟩
   ·rw[aF an]
    refine(aB.move (hn i' f' tc hc) (fun b hb=>⟨hb,MI b (hRd b hb).1 (hRd b hb).2⟩) fun hnx b hb=> ?_).mono fun b hb=>by rw[aF an];exact hb
    obtain⟨d1,d2,_⟩:=k.sO (zC hnx) i' f' b hb;exact MI b (hS b d1) (d2 ad rfl)
theorem aB.inner {Rd S:Nat→Prop} {z n c:Nat} {rows:List (List TC)} {ad:Addr} (h:aB w Rd .deep S (.sub z rows) (.slice (some ad) n c)) {i f:Nat} {tc:TC} (ht:BE rows i f=some tc):
 ∃V1 T0,w.cell? (ad.add (i*z+f))=some V1∧aB w Rd .deep T0 tc V1∧(∀k,T0 k→S k∧k≠ad.block)∧S ad.block∧
  ∀(w':World) (tc':TC) (T1:Nat→Prop),aB w' Rd .deep T1 tc' V1→(∀k,S k→ ¬T0 k→w'.heap[k]?=w.heap[k]?)→(∀k,T1 k→T0 k∨ ¬S k)→
   aB w' Rd .deep (fun k=>(S k∧ ¬T0 k)∨T1 k) (.sub z (va rows i f [tc'])) (.slice (some ad) n c):=by
 cases h with
 |sub _ _ _ _ _ _ u T k hn=>
  obtain⟨row,hrow,hfr⟩: ∃row,rows[i]?=some row∧row[f]?=some tc:=by
   unfold BE at ht
   cases hr:rows[i]? with
   |none=>rw[hr] at ht;cases ht
   |some row=>rw[hr] at ht;exact⟨row,rfl,ht⟩
  have hf:f+1≤row.length:=(List.getElem?_eq_some_iff.1 hfr).1;obtain⟨hSb,zu,hall⟩:=(k.own dh).2 ad rfl;have hT0: ∀b,T i f b→S b∧b≠ad.block:=fun b hb=>⟨(k.sO rfl i f b hb).1,(k.sO rfl i f b hb).2.1 ad rfl⟩;refine⟨u i f,T i f,k.cell ad rfl i f tc ht,hn i f tc ht,hT0,hSb,fun w' tc' T1 h1 hsame hT1=> ?_⟩;have Xn:w'.heap[ad.block]?=w.heap[ad.block]?:=hsame _ hSb fun hb=>(hT0 _ hb).2 rfl;have key:=aB.sub (w:=w') (R:=Rd) .deep (fun b=>(S b∧ ¬T i f b)∨T1 b) z (va rows i f [tc']) (some ad) c u (fun i' f' b=>if i'=i∧f'=f then T1 b else T i' f' b) ?_ ?_
  ·rw[nF] at key;exact key
  ·refine⟨by rw[nF];exact k.len,k.cap,k.z0,Nc k.width hrow hf,fun _=>⟨ad,rfl⟩,?_,fun e=>(by cases e),fun _=>⟨fun e=>(by cases e),?_⟩,fun hm h1z ad' e i=>(by cases e;rw[oz (w:=w) (a:=⟨ad.block,i,none⟩) Xn];exact k.soft dh h1z ad rfl i),?_⟩
   ·intro ad' e i' f' t' ht'
    cases e
    rw[iy (w:=w) (by rw[dm];exact Xn)];rcases Ff hrow hf ht' with⟨rfl,a,b,hc⟩|⟨_,hc⟩
    ·have:f'=f:=by simp at b;omega
     subst this;exact k.cell ad rfl _ _ tc ht
    ·exact k.cell ad rfl i' f' t' hc
   ·intro ad' e
    cases e
    refine⟨.inl ⟨hSb,fun hb=>(hT0 _ hb).2 rfl⟩,zu,fun j hj=> ?_⟩;obtain⟨⟨x,hx⟩,hfz⟩:=hall j hj;exact⟨⟨x,by rw[iy (w:=w) (by exact Xn)];exact hx⟩,by rw[oz (w:=w) (by exact Xn)];exact hfz⟩
   ·intro _ i' f' b hb
    by_cases hr:i'=i∧f'=f
    ·rw[aJ hr] at hb
     have hne:b≠ad.block:=fun e=>by
      subst e;rcases hT1 _ hb with h|h
      ·exact(hT0 _ h).2 rfl
      ·exact h hSb
     refine⟨.inr hb,fun ad' e=>(by cases e;exact hne),fun i2 f2 hb2=> ?_⟩
     by_cases Xo:i2=i∧f2=f
     ·exact⟨Xo.1.trans hr.1.symm,Xo.2.trans hr.2.symm⟩
     ·rw[aF Xo] at hb2
      rcases hT1 _ hb with h|h
      ·have:=(k.sO rfl i2 f2 b hb2).2.2 i f h
       exact absurd ⟨this.1.symm,this.2.symm⟩ Xo
      ·exact absurd (k.sO rfl i2 f2 b hb2).1 h
    ·rw[aF hr] at hb
     obtain⟨d1,d2,d3⟩:=k.sO rfl i' f' b hb;refine⟨.inl ⟨d1,fun hb0=>hr (by have:=d3 i f hb0;exact⟨this.1.symm,this.2.symm⟩)⟩,d2,fun i2 f2 hb2=> ?_⟩
     by_cases Xo:i2=i∧f2=f
     ·rw[aJ Xo] at hb2
      rcases hT1 _ hb2 with h|h
      ·have:=d3 i f h
       exact absurd ⟨this.1.symm,this.2.symm⟩ hr
      ·exact absurd d1 h
     ·rw[aF Xo] at hb2
      exact d3 i2 f2 hb2
  ·intro i' f' t' ht'
   rcases Ff hrow hf ht' with⟨rfl,a,b,hc⟩|⟨hn',hc⟩
   ·have:f'=f:=by simp at b;omega
    subst this;simp at hc;subst hc
    exact h1.mono fun b hb=>by rw[aJ ⟨rfl,rfl⟩];exact hb
   ·have hr: ¬(i'=i∧f'=f):=by simp at hn';omega
    refine(aB.agJ (hn i' f' t' hc) fun b hb=> ?_).mono fun b hb=>by rw[aF hr];exact hb
    obtain⟨d1,d2,d3⟩:=k.sO rfl i' f' b hb;exact hsame b d1 fun hb0=>hr (by have:=d3 i f hb0;exact⟨this.1.symm,this.2.symm⟩)
end Go.T
namespace Go.T
variable {F : Nat → Prop} {A : Arg} {w0 w w' : World} {φ φ' : Fp} {st st' fR sK : TS} {tm Lo : Array Value} {C : pU}
variable {R : Type} {cf : Cf} {lp : Lp} {Q : R → Prop}
structure xw (F:Nat→Prop) (w0 w:World) (φ:Fp) (st:TS) (k:Nat):Prop where
 lt:k<w.heap.size
 new:w0.heap.size≤k∨F k
 I: ¬φ.I k
 S: ∀o,aT st.ob o→ ¬φ.S o k
 B: ∀b cs,az b st.bx=some cs→(φ.β b).block≠k
theorem bD.rY (h:bD F A w0 φ st tm w) {o k:Nat} (ho:aT st.ob o) (hk:φ.S o k) {b:Nat} {cs:List CE} (hb:az b st.bx=some cs):(φ.β b).block≠k:=fun e=>by
 subst e
 cases KQ:DJ b with
 |true=>exact(h.sep.box b cs hb KQ).2.1 o ho hk
 |false=>
  have h1:=h.sep.qQ _ ((h.sep.spot b cs hb).2.2 KQ);rcases (h.sep.fresh o _ ho hk).2 with h3|h3
  ·omega
  ·exact h1.2 h3
theorem bD.free (h:bD F A w0 φ st tm w) (hs:gx st' st) {k:Nat} (hk: ∃o,aT st.ob o∧ ¬aT st'.ob o∧φ.S o k):xw F w0 w φ st' k:=by
 obtain⟨o,a1,a2,a3⟩:=hk
 exact⟨(h.sep.fresh o k a1 a3).1,(h.sep.fresh o k a1 a3).2,h.sep.read o k a1 a3,fun o' ho' hk=>by
  have:=h.sep.apart o o' k a1 (hs.dom ho') a3 hk
  subst this;exact a2 ho',fun b cs hb=>by
  obtain⟨cs0,c0,_⟩:=hs.bx b cs hb
  exact h.rY a1 a3 c0⟩
theorem acN (h:bD F A w0 φ st tm w) (h1:bD F A w0 φ fR tm w) {eP:List It} {X:Nat→Nat→Prop} {Zp:Nat→Prop} (p:pR w φ st fR eP X Zp) {r:Nat} {B b':OB} (hr:az r fR.ob=some B) (hz:b'.z=B.z) (hl:b'.rows.length=B.rows.length)
 {Zt Xr:Nat→Prop} {gb off:Nat} {vs:List Value} (hg:φ.S r gb) (hXr: ∀k,Xr k→ ¬Zt k∧(φ.S r k∨ ∃j,j<eP.length∧X j k)) (hZt: ∀k,Zt k→Zp k∨φ.S r k)
 (hc:aB (w.setCells gb off vs) (fun k=>φ.I k∨Zt k) b'.m Xr (.sub b'.z b'.rows) (φ.V r)):Rel F A w0 (yJ [(r,b')] fR) tm (w.setCells gb off vs):=by
 have hin:aT fR.ob r:=⟨_,hr⟩;have hsize:=(oC gb vs off w).2.2.2
 have lookW: ∀{o b},az o [(r,b')]=some b→o=r∧b=b':=fun {o b} ho=>by
  simp only[az] at ho
  cases hb:Nat.beq r o with
  |true=>rw[hb] at ho;cases ho;exact⟨(kD hb).symm,rfl⟩
  |false=>rw[hb] at ho;cases ho
 have neW: ∀{o},az o [(r,b')]=none→o≠r:=fun {o} ho e=>by subst e;simp[az] at ho
 have frS: ∀{k},φ.S r k→k<w.heap.size∧(w0.heap.size≤k∨F k)∧ ¬φ.I k∧(∀d,aT fR.ob d→az d [(r,b')]=none→ ¬φ.S d k)∧ ∀b cs,az b fR.bx=some cs→(φ.β b).block≠k:=fun {k} hk=>
  ⟨(h1.sep.fresh r k hin hk).1,(h1.sep.fresh r k hin hk).2,h1.sep.read r k hin hk,fun d hd hn hk'=>neW hn (h1.sep.apart d r k hd hin hk' hk),fun b cs hb=>h1.rY hin hk hb⟩
 refine⟨_,h1.wrote (w':=w.setCells gb off vs) [(r,b')] (fun _ k=>Xr k) Zt (fun k=>k=gb) (h1.frm.setCells (frS hg).2.1) (by rw[hsize];exact de _) (fun k hk hn=>iA _ _ _ _ hk hn)
  (fun k e=>by subst e;exact(frS hg).2.1) (fun k e=>by subst e;exact(frS hg).2.2.1) (fun k o e ho hn=>by subst e;exact(frS hg).2.2.2.1 o ho hn) (fun b cs hb e=>(frS hg).2.2.2.2 b cs hb e) (fun o b ho=> ?_) (fun k hk=> ?_)⟩
 ·obtain⟨rfl,rfl⟩:=lookW ho
  refine⟨B,hr,hz,hl,hc,fun k hk=> ?_⟩;obtain⟨x1,x2⟩:=hXr k hk;rcases x2 with x2|⟨j,hj,x2⟩
  ·obtain⟨f1,f2,f3,f4,f5⟩:=frS x2
   exact⟨by rw[hsize];exact f1,f2,f3,x1,f4,fun d b hb _=>(lookW hb).1,fun b cs hb _=>f5 b cs hb⟩
  ·have fr:=h.free p.sub (p.src j k hj x2).2
   exact⟨by rw[hsize];exact fr.lt,fr.new,fr.I,x1,fun d hd _=>fr.S d hd,fun d b hb _=>(lookW hb).1,fun b cs hb _=>fr.B b cs hb⟩
 ·rcases hZt k hk with hz|hz
  ·have fr:=h.free p.sub (p.srcZ k hz)
   exact⟨by rw[hsize];exact fr.lt,fr.new.elim .inl fun hF=> .inr (.inl hF),fun d hd _=>fr.S d hd,fun b cs hb _=>fr.B b cs hb⟩
  ·obtain⟨f1,f2,f3,f4,f5⟩:=frS hz
   exact⟨by rw[hsize];exact f1,f2.elim .inl fun hF=> .inr (.inl hF),f4,fun b cs hb _=>f5 b cs hb⟩
theorem LA {a:Act} (hT:iY C) (h:bD F A w0 φ st a.tmps w) {o:Oper} {t:TypeId} {q x:Operand} (ho:o.op= .store t q x) (nX:o.dst=none) {cs:List CE} (hkn:known (C.tt t)=true) (hcs:Ks st.ob w φ cs (a.eval x))
 (hsz:cs.length=(C.tt t).size) {r:Nat} {path:Option (Int×Nat)} {i:Int} {f:Nat} (hq:xq C st 0 q= .er r path i f) {K:TS→Ev R} (hk:(MR r path i f cs st K).holds cf lp Q):Did C F A w0 φ st o a w K cf lp Q:=by
 have hqv:=gv hT h 0 q;rw[hq] at hqv;obtain⟨b,hb,hi,ad,n,c,hV,amN⟩:=hqv;unfold MR at hk
 split at hk
 ·rename_i ts fR d1 hab
  split at hk
  ·rename_i d z rows IJ
   have vlen:(a.eval x).cells.toList.length=cs.length:=by simpa using hcs.1
   have hce: ∀(j:Nat) (e:CE),cs[j]?=some e→ ∃v,(a.eval x).cells.toList[j]?=some v∧e9 st.ob w φ e v:=fun j e he=>by
    obtain⟨y,y1,_,y3⟩:=hcs.2 j e he;exact⟨y,by simpa using y1,y3⟩
   have fin: ∀{ad':Addr} {b':OB},a.eval q= .pointer (some ad')→ad'.spot=none→(∀j,j<(a.eval x).cells.size→(w.cell? (ad'.add j)).isSome=true∧w.frozen? (ad'.add j)=false)→(∀y∈(a.eval x).cells.toList,y.oneCell'=true)→φ.S r ad'.block→
    Rel F A w0 (yJ [(r,b')] fR) a.tmps (w.setCells ad'.block ad'.off (a.eval x).cells.toList)→(K (yJ [(r,b')] fR)).holds cf lp Q→Did C F A w0 φ st o a w K cf lp Q:=fun {ad' b'} hv hs hc h1 hS Bn hk=>by
    have hrun:=Nb (w:=w) (hT t hkn) hs (v:=a.eval x) (by rw[hcs.1,hsz]) h1 hc;refine⟨.skip,undef,_,_,?_,.inr ⟨rfl,rfl⟩,by rw[nX];exact Bn,hk,by rw[(oC _ _ _ _).2.2.2];exact de _,fun k hk hnw=> ?_⟩
    ·unfold execOp
     rw[ho];simp only[Sem.run_bind,hv,hrun,Result.andThen]
     rfl
    ·refine iA _ _ _ _ hk fun e=>hnw (.inr ⟨r,?_,⟨b,hb⟩,by rw[e];exact hS⟩)
     unfold writes;rw[ho];simp only[hq];exact .head _
   have one: ∀{M:Mode} {X:Nat→Nat→Prop} {Z:Nat→Prop},ts.length=cs.length→pR w φ st fR (gl M ts (a.eval x).cells.toList) X Z→ ∀y∈(a.eval x).cells.toList,y.oneCell'=true:=fun {M X Z} hl p y hy=>by
    obtain⟨j,hj,rfl⟩:=List.mem_iff_getElem.1 hy;exact vM (p.ok j _ (rM (cw an) (cw hj)))
   cases path with
   |none=>
    simp only at hk;obtain⟨row,hrow,hk⟩:=hk;obtain⟨_,hrow⟩:=vL hrow;simp only at hk
    split at hk
    ·rename_i hle
     have hle:=wI hle
     obtain⟨h1,hl,hsub,os,tk⟩:=Ku (if d&&d1 then .deep else .snap) cs st _ ts fR d1 h (gx.refl _) vlen hce (by
      cases hd:d&&d1 with
      |true=>simp only[fk] at hd;exact .inr ⟨hd.2,rfl⟩
      |false=>exact .inl rfl) hab
     obtain⟨X,Zp,p⟩:=tk.parts h;have:=hsub.ob r _ IJ;rw[hb] at this
     cases this
     have hO:=h1.obj r _ IJ;unfold rX at hO;rw[hV] at hO;have hin:aT fR.ob r:=⟨_,IJ⟩;have hlen:(gl (if(d&&d1)=true then Mode.deep else .snap) ts (a.eval x).cells.toList).length=ts.length:=lF an;have itm: ∀(j:Nat) (tc:TC) (v:Value),ts[j]?=some tc→(a.eval x).cells.toList[j]?=some v→aB w (fun k=>φ.I k∨Zp k) (if(d&&d1)=true then Mode.deep else .snap) (X j) tc v:=fun j tc v e1 e2=>p.ok j _ (rM e1 e2);have Xe:a.eval q= .pointer (some (ad.add (i.toNat*z+f))):=amN
     obtain⟨Zt,Sr,g1,g2,g3,g4,g5⟩: ∃Zt Sr:Nat→Prop,aB w (fun k=>φ.I k∨Zt k) (OB.m ⟨d&&d1,z,setRow rows i f ts⟩) Sr (.sub z rows) (.slice (some ad) n c)∧(∀k,Sr k→φ.S r k∧ ¬Zt k)∧(∀k,Zt k→(Zp k∨φ.S r k)∧k≠ad.block)∧
      (∀(j:Nat) (tc:TC) (v:Value),ts[j]?=some tc→(a.eval x).cells.toList[j]?=some v→aB w (fun k=>φ.I k∨Zt k) (OB.m ⟨d&&d1,z,setRow rows i f ts⟩).nx (X j) tc v)∧((d&&d1)=true→ ∀k,Zt k→Zp k):=by
      have adS:φ.S r ad.block:=by
       cases hO with
       |sub _ _ _ _ _ _ u T k hn=>exact(k.own (by unfold OB.m;split<;>simp)).2 ad rfl|>.1
      have zpn: ∀k,Zp k→k≠ad.block:=fun k hk e=>(h.free p.sub (p.srcZ k hk)).S r hin (by rw[e];exact adS)
      cases hd:d&&d1 with
      |true=>
       rw[hd] at itm
       have hdd:d=true:=by simp only[fk] at hd;exact hd.1
       subst hdd;refine⟨Zp,φ.S r,hO.sW fun k hk=> .inl hk,fun k hk=>⟨hk,fun hz=>(h.free p.sub (p.srcZ k hz)).S r hin hk⟩,fun k hk=>⟨.inl hk,zpn k hk⟩,itm,fun _ k hk=>hk⟩
      |false=>
       rw[hd] at itm;refine⟨fun k=>Zp k∨(φ.S r k∧ ¬Vf .top (.slice (some ad) n c) (φ.S r) k),Vf .top (.slice (some ad) n c) (φ.S r),?_,fun k hk=>⟨hk.1,fun hz=> ?_⟩,fun k hk=> ?_,fun j tc v e1 e2=> ?_,fun e=>by cases e⟩
       ·exact hO.out (m:= .top) (by unfold OB.m;split<;>simp) (fun e=>by cases e) (fun k hk=> .inl hk) fun k hk hn=> .inr (.inr ⟨hk,hn⟩)
       ·rcases hz with hz|hz
        ·exact(h.free p.sub (p.srcZ k hz)).S r hin hk.1
        ·exact hz.2 hk
       ·rcases hk with hk|hk
        ·exact⟨.inl hk,zpn k hk⟩
        ·exact⟨.inr hk.1,fun e=>hk.2 ⟨hk.1,ad,n,c,rfl,e⟩⟩
       ·exact(itm j tc v e1 e2).uy (S':=X j) fun k hk=>hk.elim .inl fun h=> .inr (.inl h)
     obtain⟨ps,pS,pt,pc⟩:=g1.put (by unfold OB.m;split<;>simp) hrow hle (vs:=(a.eval x).cells.toList) an (one hl p) g4 (fun hmd j k hj hk=>by
      obtain⟨s1,s2⟩:=p.src j k (by rw[hlen];exact hj) hk
      exact⟨fun hS=>(h.free p.sub s2).S r hin (g2 k hS).1,fun j' hj' hk'=>p.apart _ _ k (by rw[hlen];exact hj') (by rw[hlen];exact hj) hk' hk⟩)
      (fun k hk=>by
        rcases hk with hk|hk
        ·refine⟨(h.sep.ro k hk).1,fun e=> ?_⟩
         have adS:φ.S r ad.block:=by
          cases hO with
          |sub _ _ _ _ _ _ u T k hn=>exact(k.own (by unfold OB.m;split<;>simp)).2 ad rfl|>.1
         exact h1.sep.read r _ hin adS (by rw[←e];exact hk)
        ·refine⟨?_,(g3 k hk).2⟩
         rcases (g3 k hk).1 with hz|hz
         ·exact(h.free p.sub (p.srcZ k hz)).lt
         ·exact(h1.sep.fresh r k hin hz).1)
      (fun k hk=>(h1.sep.fresh r k hin (g2 k hk).1).1) (fun j k hj hk=>(h.free p.sub (p.src j k (by rw[hlen];exact hj) hk).2).lt)
     refine fin Xe (I1 _ ps) (fun j hj=>by rw[Addr.add_add];exact pt j (by simpa using hj)) (one hl p) (by rw[dm];exact(g2 _ pS).1) ?_ hk;rw[dm,zF _ ps];refine acN h h1 p IJ (b':=⟨d&&d1,z,setRow rows i f ts⟩) rfl (by simp only[xL,nF]) (g2 _ pS).1 (Zt:=Zt) (Xr:=fun k=>Sr k∨((OB.m ⟨d&&d1,z,setRow rows i f ts⟩)= .deep∧ ∃j,j<ts.length∧X j k)) (fun k hk=> ?_) (fun k hk=>(g3 k hk).1) ?_
     ·rcases hk with hk|⟨hmd,j,hj,hk⟩
      ·exact⟨(g2 k hk).2,.inl (g2 k hk).1⟩
      ·refine⟨fun hz=> ?_,.inr ⟨j,by rw[hlen];exact hj,hk⟩⟩
       have hdd:(d&&d1)=true:=by
        unfold OB.m at hmd
        cases hd:d&&d1 with
        |true=>rfl
        |false=>simp[hd] at hmd
       exact(p.src j k (by rw[hlen];exact hj) hk).1 (g5 hdd k hz)
     ·show aB _ _ (OB.m ⟨d&&d1,z,setRow rows i f ts⟩) _ (.sub z (setRow rows i f ts)) _
      rw[hV,xL];exact pc
    ·exact hk.elim
   |some pq=>
    obtain⟨i0,f0⟩:=pq;simp only at hk
    split at hk
    ·obtain⟨row0,ako,hk⟩:=hk
     obtain⟨_,ako⟩:=vL ako;simp only at hk
     split at hk
     ·rename_i z1 u6 hf0
      obtain⟨row,hrow,hk⟩:=hk;obtain⟨_,hrow⟩:=vL hrow;simp only at hk
      split at hk
      ·rename_i hle
       have hle:=wI hle;obtain⟨h1,hl,hsub,os,tk⟩:=Ku .deep cs st _ ts fR true h (gx.refl _) vlen hce (.inr ⟨rfl,rfl⟩) hab;obtain⟨X,Zp,p⟩:=tk.parts h;have:=hsub.ob r _ IJ;rw[hb] at this
       cases this
       have hO:=h1.obj r _ IJ;unfold rX at hO;rw[hV] at hO;have hin:aT fR.ob r:=⟨_,IJ⟩;have hlen:(gl Mode.deep ts (a.eval x).cells.toList).length=ts.length:=lF an;obtain⟨_,z1',rows1',ht1,ad1,n1,c1,hcell,hpv⟩:=amN;have ht0:BE rows i0.toNat f0=some (.sub z1 u6):=zG ako hf0;rw[ht0] at ht1
       cases ht1
       obtain⟨V1,T0,v1,v2,v3,v4,v5⟩:=aB.inner (hO.sW (R':=fun k=>φ.I k∨Zp k) fun k hk=> .inl hk:aB w (fun k=>φ.I k∨Zp k) .deep (φ.S r) (.sub z rows) (.slice (some ad) n c)) ht0
       have:V1= .slice (some ad1) n1 c1:=by have hh:=v1.symm.trans hcell;simpa using hh
       subst this;have XS: ∀j k,j<ts.length→X j k→ ¬φ.S r k:=fun j k hj hk=>(h.free p.sub (p.src j k (by rw[hlen];exact hj) hk).2).S r hin
       have ad1S:T0 ad1.block:=by
        cases v2 with
        |sub _ _ _ _ _ _ u T k hn=>exact(k.own dh).2 ad1 rfl|>.1
       obtain⟨ps,pS,pt,pc⟩:=v2.put dh hrow hle (vs:=(a.eval x).cells.toList) an (one hl p) (X:=X) (fun j tc v e1 e2=>p.ok j _ (rM e1 e2)) (fun _ j k hj hk=>
        ⟨fun hS=>XS j k hj hk (v3 k hS).1,fun j' hj' hk'=>p.apart _ _ k (by rw[hlen];exact hj') (by rw[hlen];exact hj) hk' hk⟩)
        (fun k hk=>by
          rcases hk with hk|hk
          ·exact⟨(h.sep.ro k hk).1,fun e=>h1.sep.read r _ hin (v3 _ ad1S).1 (by rw[←e];exact hk)⟩
          ·have fr:=h.free p.sub (p.srcZ k hk)
           exact⟨fr.lt,fun e=>fr.S r hin (by rw[e];exact(v3 _ ad1S).1)⟩)
        (fun k hk=>(h1.sep.fresh r k hin (v3 k hk).1).1) (fun j k hj hk=>(h.free p.sub (p.src j k (by rw[hlen];exact hj) hk).2).lt)
       have Xe:a.eval q= .pointer (some (ad1.add (i.toNat*z1+f))):=hpv;refine fin Xe (I1 _ ps) (fun j hj=>by rw[Addr.add_add];exact pt j (by simpa using hj)) (one hl p) (by rw[dm];exact(v3 _ ad1S).1) ?_ hk;rw[dm,zF _ ps]
       have hnew:=v5 _ _ _ pc (fun k hk hn=>iA _ _ _ _ (h1.sep.fresh r k hin hk).1 fun e=>hn (by rw[e];exact ad1S)) (fun k hk=>by
        rcases hk with hk|⟨_,j,hj,hk⟩
        ·exact .inl hk
        ·exact .inr (XS j k hj hk))
       refine acN h h1 p IJ (b':=⟨true,z,setRow rows i0 f0 [.sub z1 (setRow u6 i f ts)]⟩) rfl (by simp only[xL,nF]) (v3 _ ad1S).1 (Zt:=Zp) (Xr:=fun k=>(φ.S r k∧ ¬T0 k)∨(T0 k∨(Mode.deep= .deep∧ ∃j,j<ts.length∧X j k))) (fun k hk=> ?_) (fun k hk=> .inl hk) ?_
       ·rcases hk with hk|hk|⟨_,j,hj,hk⟩
        ·exact⟨fun hz=>(h.free p.sub (p.srcZ k hz)).S r hin hk.1,.inl hk.1⟩
        ·exact⟨fun hz=>(h.free p.sub (p.srcZ k hz)).S r hin (v3 k hk).1,.inl (v3 k hk).1⟩
        ·exact⟨(p.src j k (by rw[hlen];exact hj) hk).1,.inr ⟨j,by rw[hlen];exact hj,hk⟩⟩
       ·show aB _ _ .deep _ (.sub z (setRow rows i0 f0 [.sub z1 (setRow u6 i f ts)])) _
        rw[hV,xL,xL];exact hnew
      ·exact hk.elim
     ·exact hk.elim
    ·exact hk.elim
  ·exact hk.elim
 ·exact hk.elim
theorem aiK {a:Act} (hT:iY C) (h:bD F A w0 φ st a.tmps w) {o:Oper} {t:TypeId} {q x:Operand} (ho:o.op= .store t q x) {K:TS→Ev R} (hk:(sV C st o K).holds cf lp Q):Did C F A w0 φ st o a w K cf lp Q:=by
 unfold sV at hk;rw[ho] at hk;simp only at hk
 split at hk
 ·rename_i cs nX hkn hc
  have hcs:=xH (gv hT h t x) hc
  split at hk
  ·rename_i b off hsz hp
   split at hk
   ·rename_i st' hs
    exact acM hT h ho nX hkn hcs (kD hsz) hp hs hk
   ·exact hk.elim
  ·rename_i r i f hsz hp
   split at hk
   ·have hqv:=gv hT h 0 q
    rw[hp] at hqv;obtain⟨b,hb,_⟩:=hqv;obtain⟨h',hce⟩:=h.DO hb
    have ard:Ks (DO r st).ob w (φ.aa3 r) (cs.map (UZ r)) (a.eval x):=by
     refine⟨by rw[ct];exact hcs.1,fun j e he=> ?_⟩;rw[mm] at he
     cases hj:cs[j]? with
     |none=>rw[hj] at he;cases he
     |some e0=>
      rw[hj] at he;simp only[pQ,aY] at he;subst he;obtain⟨y,y1,y2,y3⟩:=hcs.2 j e0 hj;exact⟨y,y1,y2,hce _ _ y3⟩
    have hp':xq C (DO r st) 0 q= .er r none i f:=by
     cases q with
     |tmp n=>
      have hp:st.get n= .er r none i f:=hp;show(DO r st).get n=_;unfold T.DO;rw[hb];simp only;rw[get_map _ _ _ rfl,hp]
      rfl
     |_=>exact hp
    obtain⟨nx,v,w',st',d1,d2,d3,d4,d5,d6⟩:=LA hT h' ho nX hkn ard (by rw[ct];exact kD hsz) hp' hk;refine⟨nx,v,w',st',d1,d2,d3,d4,d5,fun k hk hnw=>d6 k hk fun hw=>hnw ?_⟩
    have e1:writes C st o=[2*r]:=by unfold writes;rw[ho];simp only[hp]
    have e2:writes C (DO r st) o=[2*r]:=by unfold writes;rw[ho];simp only[hp']
    rw[e1];rw[e2] at hw;rcases hw with⟨b',cs',hm,_⟩|⟨o',hm,_,hS⟩
    ·simp only[qw] at hm;omega
    ·simp only[qw] at hm
     have:o'=r:=by omega
     subst this;exact .inr ⟨o',.head _,⟨b,hb⟩,hS.1⟩
   ·exact LA hT h ho nX hkn hcs (kD hsz) hp hk
  ·rename_i r path i f hn hsz hp
   exact LA hT h ho nX hkn hcs (kD hsz) hp hk
  ·exact hk.elim
 ·exact hk.elim
end Go.T
namespace Go.T
variable {F : Nat → Prop} {A : Arg} {w0 w w' : World} {φ φ' : Fp} {st st' fR sK : TS} {tm Lo : Array Value} {C : pU}
variable {R : Type} {cf : Cf} {lp : Lp} {Q : R → Prop}
theorem Nd (h0:bD F A w0 φ st tm w) (h:bD F A w0 φ st' tm w) {dp:Bool} {z:Nat} {rows:List (List TC)} {vs:List Value} {X:Nat→Nat→Prop} {Z:Nat→Prop} {d:Nat}
 (p:pR w φ st st' (gl (if dp then .deep else .snap) rows.flatten vs) X Z) (hz:0<z) (zp: ∀r∈rows,r.length=z) (hl:vs.length=rows.length*z) {c:Nat} (hc:rows.length≤c) (hcm:c≤maxLen)
 (g:pV w w') (hlt:w.heap.size<w'.heap.size) (hcell: ∀(j:Nat) (v:Value),vs[j]?=some v→w'.cell? ⟨w.heap.size,j,none⟩=some v)
 (hall: ∀j,j<c*z→(∃x,w'.cell? ⟨w.heap.size,j,none⟩=some x)∧w'.frozen? ⟨w.heap.size,j,none⟩=false) (Xf:1<z→ ∀i,w'.frozen? ⟨w.heap.size,i,none⟩=false) (hd:d<tm.size):
 Rel F A w0 (Br d ⟨dp,z,rows⟩ st') (tm.setIfInBounds d (.slice (some ⟨w.heap.size,0,none⟩) rows.length c)) w':=by
 have hlen:(gl (if dp then Mode.deep else .snap) rows.flatten vs).length=rows.length*z:=by rw[lF (by rw[dD zp,hl]),dD zp]
 exact aiI h0 h p hz zp hl (ad:=⟨w.heap.size,0,none⟩) hc hcm rfl (h.frm.MW g) g.size (fun k hk _=>g.block k hk) (G:=fun _=>False) (fun k hk=>hk.elim)
  (fun k hk=>⟨id,fun e=>by have:=(h0.free p.sub (p.srcZ k hk)).lt;rw[e] at this;simp at this⟩)
  (fun i k hi hk=>⟨id,fun e=>by have:=(h0.free p.sub (p.src i k (by rw[hlen];exact hi) hk).2).lt;rw[e] at this;simp at this⟩)
  (.inl ⟨de _,hlt⟩) (fun j v hj=>by rw[add_lit,nB];exact hcell j v hj) (fun j hj=>by simp only[nB];exact hall j hj) Xf hd
theorem afZ {z:Nat}: ∀(ps:List (Nat×Value)) (n:Nat) (cs:Array Value),(∀(j:Nat) p,ps[j]?=some p→p.1=n+j∧p.2.cells.size=z)→(n+ps.length)*z≤cs.size→
 ∃cs',Instr.fill (fun i=>some (i*z,z)) cs ps=some cs'∧cs'.size=cs.size∧(∀j,j<n*z→cs'[j]?=cs[j]?)∧ ∀j,j<ps.length*z→cs'[n*z+j]?=(ps.flatMap fun p=>p.2.cells.toList)[j]?
 |[],n,cs,_,_=>⟨cs,rfl,rfl,fun _ _=>rfl,fun j hj=>by simp at hj⟩
 |(i,v)::r,n,cs,hp,hle=>by
  obtain⟨h1,h2⟩:=hp 0 _ rfl;simp only[xz] at h1 h2;subst h1;simp only[gn] at hle
  have asE:i*z+z≤cs.size:=by
   have:(i+1)*z≤(i+(r.length+1))*z:=qx _ an;rw[uN] at this;omega
  obtain⟨g1,g2⟩:=OR (i*z) v.cells.toList 0 cs (by simp[h2];omega)
  obtain⟨cs',k1,k2,k3,k4⟩:=afZ r (i+1) (v.cells.zipIdx.foldl (fun(cs:Array Value) (p:Value×Nat)=>cs.setIfInBounds (i*z+p.2) p.1) cs) (fun j p hj=>by
   obtain⟨a,b⟩:=hp (j+1) p (by simpa using hj)
   exact⟨by omega,b⟩) (by
   have e1:v.cells.zipIdx.foldl (fun(cs:Array Value) (p:Value×Nat)=>cs.setIfInBounds (i*z+p.2) p.1) cs=(v.cells.toList.zipIdx 0).foldl (fun(cs:Array Value) (p:Value×Nat)=>cs.setIfInBounds (i*z+p.2) p.1) cs:=by
    rw[←Array.foldl_toList,Array.toList_zipIdx]
   rw[e1,g1]
   have:i+1+r.length=i+(r.length+1):=by omega
   rw[this];exact hle)
  have e1:v.cells.zipIdx.foldl (fun(cs:Array Value) (p:Value×Nat)=>cs.setIfInBounds (i*z+p.2) p.1) cs=(v.cells.toList.zipIdx 0).foldl (fun(cs:Array Value) (p:Value×Nat)=>cs.setIfInBounds (i*z+p.2) p.1) cs:=by
   rw[←Array.foldl_toList,Array.toList_zipIdx]
  refine⟨cs',?_,by rw[k2,e1,g1],fun j hj=> ?_,fun j hj=> ?_⟩
  ·unfold Instr.fill
   simp only[h2,ne_eq,not_true_eq_false,decide_false,IL,decide_eq_true_eq];rw[aF an];exact k1
  ·rw[k3 j (by rw[uN];omega),e1,g2 j,aF an]
  ·rw[List.flatMap_cons]
   by_cases hjz:j<z
   ·rw[k3 _ (by rw[uN];omega),e1,g2,aJ (by simp[h2];omega),nw (by simp[h2];omega)]
    simp
   ·rw[pP (by simp[h2];omega)]
    have:=k4 (j-z) (by simp only[gn,uN] at hj;omega);rw[show(i+1)*z+(j-z)=i*z+j by rw[uN];omega] at this;rw[this];simp[h2]
theorem Vg {P:Program} {t e:TypeId} {i:TypeInfo} {zv:Value} (ht:P.underlying t=some (.slice e)) (hi:P.info? e=some i) (hz:i.zero=some zv) (parts:Array (Nat×Value)) {len:Nat}
 (hp: ∀(j:Nat) p,parts.toList[j]?=some p→p.1=j∧p.2.cells.size=i.size) (hl:parts.size=len) (hle:len*i.size≤16777216):
 ∃cells,(Instr.buildSlice t len parts).run P w= .ok (.slice (some ⟨w.heap.size,0,none⟩) len len) (w.alloc (.cells cells e))∧cells.size=len*i.size∧ ∀j,j<len*i.size→cells[j]?=(parts.toList.flatMap fun p=>p.2.cells.toList)[j]?:=by
 have apK: ¬(len*i.size>16777216):=by omega
 obtain⟨cs',k1,k2,_,k4⟩:=afZ (z:=i.size) parts.toList 0 ((Array.range (len*i.size)).map ((if len*i.size=0 then #[] else zv.cells)[· % (if len*i.size=0 then #[] else zv.cells).size]!)) (fun j p hj=>by rw[nB];exact hp j p hj) (by simp[hl]);refine⟨cs',?_,by rw[k2];simp,fun j hj=> ?_⟩
 ·unfold Instr.buildSlice
  by_cases h0:len*i.size=0
  ·have hr: ∀f:Nat→Value,(Array.range 0).map f= #[]:=fun f=>Array.eq_empty_of_size_eq_zero dh
   simp only[h0,if_true,hr] at k1;simp[run_underlying ht,sizeOf,typeInfo,hi,apK,h0,hr,k1,newRow]
  ·simp only[h0,if_false] at k1
   simp[run_underlying ht,sizeOf,typeInfo,zeroValue,hi,hz,apK,h0,k1,newRow]
 ·have:=k4 j (by rw[Ab,hl];exact hj)
  simpa using this
theorem ZY (hT:iY C) {a:Act} {ty:TypeId} (M:Mode): ∀(l:List (Nat×Operand)) (n:Nat) (st:TS) (rs:List (List TC)) (st':TS) (dp:Bool),bD F A w0 φ st a.tmps w→(M= .snap∨dp=true∧M= .deep)→rowsOf C st ty l n=some (rs,st',dp)→
 bD F A w0 φ st' a.tmps w∧rs.length=l.length∧(∀r∈rs,r.length=(C.tt ty).size)∧(∀(j:Nat) p,l[j]?=some p→p.1=n+j∧(a.eval p.2).cells.size=(C.tt ty).size)∧
  ∃X Z,pR w φ st st' (gl M rs.flatten (l.flatMap fun p=>(a.eval p.2).cells.toList)) X Z
 |[],n,st,rs,st',dp,h,hM,hr=>by
  cases hr
  exact⟨h,rfl,fun r hr=>(by cases hr),fun j p hj=>by simp at hj,_,_,pR.nil _⟩
 |(i,x)::l,n,st,rs,st',dp,h,hM,hr=>by
  simp only[rowsOf] at hr
  split at hr
  ·rename_i cs hin hcs
   have hin:=kD hin;have hok:=xH (gv hT h ty x) hcs
   split at hr
   ·rename_i cs' fR d1 hsz hab
    have hsz:=kD hsz
    split at hr
    ·rename_i rs2 sK d2 Xo
     cases hr
     have vlen:(a.eval x).cells.toList.length=cs.length:=by simpa using hok.1
     obtain⟨h1,Q9,UP,os,tk⟩:=Ku M cs st (a.eval x).cells.toList cs' fR d1 h (gx.refl _) vlen (fun j e he=>by
      obtain⟨y,y1,_,y3⟩:=hok.2 j e he
      exact⟨y,by simpa using y1,y3⟩) (by
      rcases hM with hM|⟨hd,hM⟩
      ·exact .inl hM
      ·simp only[fk] at hd;exact .inr ⟨hd.1,hM⟩) hab
     obtain⟨X1,Z1,p1⟩:=tk.parts h
     obtain⟨h2,FY,Xp,hp2,X2,Z2,p2⟩:=ZY hT M l (n+1) fR rs2 _ d2 h1 (by
      rcases hM with hM|⟨hd,hM⟩
      ·exact .inl hM
      ·simp only[fk] at hd;exact .inr ⟨hd.2,hM⟩) Xo
     have key:=p1.app h p2;rw[←Dm an] at key;refine⟨h2,by simp[FY],fun r hr=> ?_,fun j p hj=> ?_,_,_,key⟩
     ·rcases gj.1 hr with rfl|hr
      ·rw[Q9,hsz]
      ·exact Xp r hr
     ·cases j with
      |zero=>simp only[gT,aY] at hj;subst hj;exact⟨hin,by rw[hok.1,hsz]⟩
      |succ j=>
       obtain⟨a1,a2⟩:=hp2 j p (by simpa using hj);exact⟨by omega,a2⟩
    ·cases hr
   ·cases hr
  ·cases hr
theorem Xy (hT:iY C) {a:Act} (h:bD F A w0 φ st a.tmps w) {o:Oper} {t:TypeId} {n:Nat} {ps:Array (Nat×Operand)} (ho:o.op= .buildSlice t n ps) {K:TS→Ev R} (hd: ∀d,o.dst=some d→d<a.tmps.size) (hk:(sV C st o K).holds cf lp Q):
 Did C F A w0 φ st o a w K cf lp Q:=by
 unfold sV at hk;rw[ho] at hk;simp only at hk
 split at hk
 ·rename_i d e nX he
  split at hk
  ·rename_i rs st' dp hb hr
   simp only[fk] at hb;obtain⟨⟨hn,hle⟩,hpl⟩:=hb;have hn:=kD hn;have hle:=wI hle;obtain⟨hkn,hnp⟩:=DX hpl;obtain⟨i,zv,g1,g2,g3,_⟩:=aaW (w:=w) (φ:=φ) hT hkn hnp (ob:=st.ob);obtain⟨h1,hl,hw,hp,X,Z,p⟩:=ZY hT (if dp then .deep else .snap) ps.toList 0 st rs st' dp h (by cases dp<;>simp) hr
   have OE:rs.length=n:=by rw[hl,hn];simp
   obtain⟨cells,c1,c2,c3⟩:=Vg (w:=w) (zY hT he).1 g1 g3 (ps.map fun(i,x)=>(i,a.eval x)) (len:=n) (fun j q hj=>by
    rw[Array.toList_map,mm] at hj
    cases hq:ps.toList[j]? with
    |none=>rw[hq] at hj;cases hj
    |some r=>
     rw[hq] at hj;simp only[pQ,aY] at hj;subst hj;obtain⟨a1,a2⟩:=hp j r hq
     exact⟨by rw[a1,nB],by rw[g2];exact a2⟩) (by simp[hn]) (by rw[g2];exact hle)
   have hvl:(ps.toList.flatMap fun p=>(a.eval p.2).cells.toList).length=rs.length*(C.tt e).size:=by
    have: ∀(l:List (Nat×Operand)),(∀p∈l,(a.eval p.2).cells.size=(C.tt e).size)→(l.flatMap fun p=>(a.eval p.2).cells.toList).length=l.length*(C.tt e).size:=by
     intro l
     induction l with
     |nil=>intro _;simp
     |cons x r ih=>
      intro hx;rw[List.flatMap_cons,cM,ih fun p hp=>hx p (.tail _ hp),Ab,hx x (.head _),gn,uN];omega
    rw[this _ fun p hp'=> ?_,hl];obtain⟨j,hj,rfl⟩:=List.mem_iff_getElem.1 hp';exact(hp j _ (cw hj)).2
   have hfm:((ps.map fun(i,x)=>(i,a.eval x)).toList.flatMap fun p=>p.2.cells.toList)=ps.toList.flatMap fun p=>(a.eval p.2).cells.toList:=by
    rw[Array.toList_map,List.flatMap_map]
   have Bn:=Nd (w':=w.alloc (.cells cells e)) (d:=d) h h1 p (hT e hkn).pos hw hvl (c:=n) an (by
    have hpos:=(hT e hkn).pos;have:n≤n*(C.tt e).size:=Nat.le_mul_of_pos_right n hpos
    simp only[maxLen];omega) (pV.alloc w _) dh (fun j v hj=>by
    rw[wO,c3 j (by
     have:=(List.getElem?_eq_some_iff.1 hj).1;rw[hvl,OE] at this
     rw[g2];exact this),hfm]
    exact hj) (fun j hj=>⟨⟨cells[j]'(by rw[c2,g2];exact hj),by rw[wO];exact zf _⟩,nE _ _ _ _⟩) (fun _ i=>nE _ _ _ _) (hd d nX)
   rw[OE] at Bn;refine⟨.value _,_,_,_,?_,.inl rfl,by rw[nX];exact Bn,hk,by simp,fun k hk _=>(pV.alloc w _).block k hk⟩;unfold execOp;rw[ho];simp only[Sem.run_bind,c1,Result.andThen]
   rfl
  ·exact hk.elim
 ·exact hk.elim
theorem UF {z:Nat} {rows:List (List TC)} (hz:0<z) (zp: ∀r∈rows,r.length=z) {p:Nat} {tc:TC} (hp:rows.flatten[p]?=some tc):BE rows (p/z) (p % z)=some tc:=by
 have hfl:=dD zp
 have hlt:p<rows.length*z:=by rw[←hfl];exact(List.getElem?_eq_some_iff.1 hp).1
 have hi:p/z<rows.length:=Nat.div_lt_of_lt_mul (by rw[Nat.mul_comm];exact hlt);have hrl:=zp _ (DM hi)
 have hf:p % z<(rows[p/z]).length:=by rw[hrl];exact Nat.mod_lt _ hz
 have h1:BE rows (p/z) (p % z)=some (rows[p/z][p % z]):=by simp[BE,cw hi,cw hf]
 have h2:=(Al zp h1).1;rw[MP p z] at h2;rw[h1,←h2,hp]
theorem aiL {Rd S:Nat→Prop} {m:Mode} {c:TC} (h:aew c=true):aB w Rd m S c (akM c):=by
 cases c with
 |any=>cases h
 |sc v=>cases v<;>first|exact .sc _ _ _ trivial|cases h
 |sub z rows=>cases rows with
  |nil=>exact Fe (wI h)
  |cons _ _=>cases h
attribute [local semireducible] bO nv uE fits in
theorem aa5 (hT:iY C) {a:Act} (h:bD F A w0 φ st a.tmps w) {o:Oper} {t:TypeId} {l c:Operand} (ho:o.op= .makeSlice t l c) {K:TS→Ev R} (hd: ∀d,o.dst=some d→d<a.tmps.size) (hk:(sV C st o K).holds cf lp Q):
 Did C F A w0 φ st o a w K cf lp Q:=by
 unfold sV at hk;rw[ho] at hk;simp only at hk
 split at hk
 ·rename_i d e n n' nX he hl hc
  have hk2:(match(Dk (C.tt e)&&bO n n'&&nv 0 n&&fits (uE n) (C.tt e).bytes) with|true=>K (Br d ⟨true,(C.tt e).size,List.replicate (uE n) (C.tt e).zero⟩ st)|false=> .fail:Ev R).holds cf lp Q:=hk;clear hk
  split at hk2
  ·rename_i hb
   simp only[fk] at hb;obtain⟨⟨⟨hpl,hnn⟩,h0⟩,hf⟩:=hb
   have hnn:n=n':=by simpa [bO] using hnn
   subst hnn
   have h0:0≤n:=by simpa [nv] using h0
   have hf:n.toNat*(C.tt e).bytes≤140737488355328∧n.toNat≤140737488355328:=by simpa [fits,uE] using hf
   obtain⟨hkn,hnp⟩:=DX hpl;obtain⟨i,zv,g1,g2,g2b,g3,g4⟩:=(hT e hkn).info;obtain⟨z1,z2,z3,_⟩:=g4 hnp;obtain⟨kl,hkl⟩:=DV (gv hT h 3 l) hl;obtain⟨kc,hkc⟩:=DV (gv hT h 3 c) hc;have hpos:=(hT e hkn).pos
   have hzs:zv.cells.size=(C.tt e).size:=by rw[←Ab,z1];simpa using z2
   have hby:(i.bytes:Int)*n≤281474976710656:=by
    have h1:=hf.1
    have e1:(i.bytes:Int)*n=((n.toNat*(C.tt e).bytes:Nat):Int):=by rw[g2b,Int.natCast_mul,Int.toNat_of_nonneg h0,Int.mul_comm]
    rw[e1];omega
   have hrun:=run_make (P:=C.P) w t e i zv (zY hT he).1 g1 g3 kl kc n n h0 (Int.le_refl _) hby an
   have hw: ∀r∈List.replicate (uE n) (C.tt e).zero,r.length=(C.tt e).size:=fun r hr=>by rw[List.eq_of_mem_replicate hr];exact z2
   have hlen:(List.replicate (uE n) (C.tt e).zero).length=n.toNat:=by simp[uE]
   have hvl:(madeCells zv.cells (n.toNat*i.size)).toList.length=(List.replicate (uE n) (C.tt e).zero).length*(C.tt e).size:=by rw[hlen];simp[madeCells,g2]
   have hval: ∀{j:Nat} {v:Value},(madeCells zv.cells (n.toNat*i.size)).toList[j]?=some v→zv.cells[j % (C.tt e).size]?=some v:=fun {j v} hj=>by
    have hlt:j<n.toNat*i.size:=by have:=(List.getElem?_eq_some_iff.1 hj).1;simpa [madeCells] using this
    simp[madeCells,hlt] at hj;have hm:j % zv.cells.size<zv.cells.size:=Nat.mod_lt _ (by rw[hzs];exact hpos);rw[getElem!_pos zv.cells _ hm] at hj;rw[←hj,←hzs,zf hm]
   have p:pR w φ st st (gl (if true=true then .deep else .snap) (List.replicate (uE n) (C.tt e).zero).flatten (madeCells zv.cells (n.toNat*i.size)).toList) (fun _ _=>False) (fun _=>False):=by
    refine⟨fun j it hj=> ?_,fun _ _ _ hk=>hk.elim,fun _ hk=>hk.elim,fun _ _ _ _ _ hk=>hk.elim,gx.refl _⟩;obtain⟨tc,v,h1,h2,rfl⟩:=qE hj;have hat:=UF hpos hw h1
    have UQ:(C.tt e).zero[j % (C.tt e).size]?=some tc:=by
     unfold BE at hat
     cases hrow:(List.replicate (uE n) (C.tt e).zero)[j/(C.tt e).size]? with
     |none=>rw[hrow] at hat;cases hat
     |some row=>
      rw[hrow] at hat;rw[List.eq_of_mem_replicate (iV hrow)] at hat;exact hat
    have hv:=hval h2;rw[←UR,z1,mm,UQ] at hv;simp only[pQ,aY] at hv;subst hv;exact aiL (List.all_eq_true.1 z3 tc (iV UQ))
   have Bn:=Nd (w':=w.alloc (.cells (madeCells zv.cells (n.toNat*i.size)) e)) (d:=d) h h p hpos hw hvl (c:=n.toNat) (by rw[hlen];exact de _) (by simp only[maxLen];omega) (pV.alloc w _) dh (fun j v hj=>by
    rw[wO];simpa using hj) (fun j hj=>⟨⟨_,by rw[wO];exact zf (by rw[size_madeCells,g2];exact hj)⟩,nE _ _ _ _⟩) (fun _ i=>nE _ _ _ _) (hd d nX)
   rw[hlen] at Bn;refine⟨.value _,_,_,_,?_,.inl rfl,by rw[nX];exact Bn,hk2,by simp,fun k hk _=>(pV.alloc w _).block k hk⟩;unfold execOp;rw[ho];simp only[hkl,hkc,Sem.run_bind,hrun,Result.andThen]
   rfl
  ·exact hk2.elim
 ·exact hk.elim
end Go.T
namespace Go.T
variable {F : Nat → Prop} {A : Arg} {w0 w w' : World} {φ φ' : Fp} {st st' sta fR sK : TS} {tm Lo : Array Value} {C : pU}
variable {R : Type} {cf : Cf} {lp : Lp} {Q : R → Prop}
theorem Z0 (w:World) (arr:Array Value) (t:TypeId) (fr:Nat×Nat) (j:Nat):(w.alloc (.cells arr t fr)).cell? ⟨w.heap.size,j,none⟩=arr[j]?:=by
 unfold World.cell?;simp only[heap_alloc_new]
 rfl
theorem acO (w:World) (arr:Array Value) (t:TypeId) (fr:Nat×Nat) (j:Nat) (h:j<fr.1):(w.alloc (.cells arr t fr)).frozen? ⟨w.heap.size,j,none⟩=false:=by
 unfold World.frozen?;simp only[heap_alloc_new];obtain⟨a,b⟩:=fr;simp only at h ⊢;simp;omega
attribute [local semireducible] KU in
theorem Vh (s:ByteArray):KU s=s.data.toList.map fun b=>[TC.sc (.int .u8 b.toNat)]:=rfl
theorem aeL (s:ByteArray):(KU s).flatten=s.data.toList.map fun b=>TC.sc (.int .u8 b.toNat):=by
 rw[Vh]
 induction s.data.toList with
 |nil=>rfl
 |cons b r ih=>simp only[List.map_cons,Ae,ih];rfl
theorem tM (s:ByteArray):(KU s).length=s.size:=by rw[Vh,ct,Ab];rfl
theorem Rk (s:ByteArray): ∀r∈KU s,r.length=1:=fun r hr=>by
 rw[Vh] at hr;obtain⟨_,_,rfl⟩:=List.mem_map.1 hr
 rfl
theorem Z3 (s:ByteArray) (M:Mode) (st:TS):pR w φ st st (gl M (KU s).flatten (byteCells s)) (fun _ _=>False) (fun _=>False):=by
 refine⟨fun j it hj=> ?_,fun _ _ _ hk=>hk.elim,fun _ hk=>hk.elim,fun _ _ _ _ _ hk=>hk.elim,gx.refl _⟩;obtain⟨tc,v,h1,h2,rfl⟩:=qE hj;rw[aeL,mm] at h1;unfold byteCells at h2;rw[mm] at h2
 cases hb:s.data.toList[j]? with
 |none=>rw[hb] at h1;cases h1
 |some b=>
  rw[hb] at h1 h2;simp only[pQ,aY] at h1 h2;subst h1 h2;exact .sc _ _ _ trivial
attribute [local semireducible] fits in
theorem af0 {n b:Nat} (h:fits n b=true):n*b≤140737488355328∧n≤140737488355328:=yh h
theorem aiM (hT:iY C) {a:Act} (h:bD F A w0 φ st a.tmps w) {o:Oper} {src dst:TypeId} {x:Operand} (ho:o.op= .convert src dst x) {K:TS→Ev R} (hd: ∀d,o.dst=some d→d<a.tmps.size) (hk:(sV C st o K).holds cf lp Q):Did C F A w0 φ st o a w K cf lp Q:=by
 have OG:=hk;unfold sV at hk;rw[ho] at hk;simp only at hk
 split at hk
 ·rename_i et hdt hst
  split at hk
  ·rename_i d s nX hu hs
   have hv:=aaQ (gv hT h src x) hs;have hrun:=run_bytes_of_string (P:=C.P) w src dst et s (Vb hT hst) (Vc hT hdt).1 (aaX hT hu);have hge:=grownCap_ge w s.size 0 et
   have hsz:(bytesRow s (grownCap w s.size 0 et)).size=grownCap w s.size 0 et:=by
    have:s.data.size=s.size:=rfl;simp[bytesRow,this];omega
   have hk2:(match fits s.size 1 with|true=>K (Br d ⟨true,1,KU s⟩ st)|false=> .fail:Ev R).holds cf lp Q:=hk;clear hk
   split at hk2
   ·rename_i hfit
    have hbig:s.size≤maxLen:=by
     have:s.size*1≤140737488355328∧s.size≤140737488355328:=af0 hfit;simp only[maxLen];omega
    have Bn:=Nd (w':=w.drew.alloc (.cells (bytesRow s (grownCap w s.size 0 et)) et ((bytesRow s (grownCap w s.size 0 et)).size,(bytesRow s (grownCap w s.size 0 et)).size+1))) (d:=d) (dp:=true) (z:=1) h h (Z3 s _ st)
     Nat.one_pos (Rk s) (by rw[byteCells_length,tM,Nat.mul_one]) (c:=grownCap w s.size 0 et) (by rw[tM];exact hge) (grownCap_le_maxLen w s.size 0 et hbig) ((pV.drew w).trans (pV.alloc _ _)) dh
     (fun j v hj=>by
       have hj0:=hj
       have hjl:j<s.size:=by have:=(List.getElem?_eq_some_iff.1 hj).1;rwa [byteCells_length] at this
       show(w.drew.alloc _).cell? ⟨w.drew.heap.size,j,none⟩=_;rw[Z0];unfold bytesRow;rw[Array.getElem?_append_left (by rw[Array.size_map];exact hjl)];unfold byteCells at hj0
       simpa using hj0)
     (fun j hj=>by
       rw[Nat.mul_one] at hj;show(∃x,(w.drew.alloc _).cell? ⟨w.drew.heap.size,j,none⟩=_)∧(w.drew.alloc _).frozen? ⟨w.drew.heap.size,j,none⟩=_
       exact⟨⟨_,by rw[Z0];exact zf (by rw[hsz];exact hj)⟩,acO _ _ _ _ _ (by simp only[hsz];exact hj)⟩) (fun h1z=>absurd h1z an) (hd d nX)
    rw[tM] at Bn;refine⟨.value _,_,_,_,?_,.inl rfl,by rw[nX];exact Bn,hk2,by simp,fun k hk _=>((pV.drew w).trans (pV.alloc _ _)).block k hk⟩;unfold execOp;rw[ho];simp only[hv,Sem.run_bind,hrun,Result.andThen]
    rfl
   ·exact hk2.elim
  ·exact hk.elim
 ·exact afX hT h hd hk
theorem Vi {Rd S:Nat→Prop} {m:Mode} {z:Nat} {rows:List (List TC)} {v:Value} (hr:aB w Rd m S (.sub z rows) v) {tx e':TypeId} (hk:C.P.underlying tx=some (.slice e')) {size:Nat} (hsz:size=z) {vs:List Value} (hl:vs.length=rows.length*z)
 (hcell: ∀ad n c,v= .slice (some ad) n c→ ∀(j:Nat) (x:Value),vs[j]?=some x→w.cell? (ad.add j)=some x) (h1: ∀x∈vs,x.oneCell'=true):Src C.P size tx v rows.length vs w:=by
 subst hsz
 cases hr with
 |sub _ _ _ _ Ad c u T k hn=>
  cases Ad with
  |none=>
   have hne:rows=[]:=Classical.byContradiction fun hne=>by obtain⟨ad,h⟩:=k.addr hne;cases h
   subst hne;have:vs=[]:=DK (by simpa using hl);subst this;exact Src.ofNil w hk c
  |some ad=>exact Src.ofSlice w hk ad _ c vs hl (hcell ad _ _ rfl) h1
theorem aB.vals {Rd S:Nat→Prop} {m:Mode} {z:Nat} {rows:List (List TC)} {v:Value} (hr:aB w Rd m S (.sub z rows) v): ∃vals:List Value,vals.length=rows.length*z∧(∀r∈rows,r.length=z)∧0<z∧
 (∀ad n c,v= .slice (some ad) n c→ ∀(j:Nat) (x:Value),vals[j]?=some x→w.cell? (ad.add j)=some x)∧ ∀(p:Nat) (tc:TC) (x:Value),rows.flatten[p]?=some tc→vals[p]?=some x→ ∃T,aB w Rd m.nx T tc x:=by
 cases hr with
 |sub _ _ _ _ Ad c u T k hn=>
  have hz:=k.z0;have hfl:=dD k.width;refine⟨(List.range (rows.length*z)).map fun p=>u (p/z) (p % z),by simp,k.width,hz,?_,fun p tc x h1 h2=> ?_⟩
  ·intro ad n c' e j x hx
   cases e
   have hlt:j<rows.length*z:=by have:=(List.getElem?_eq_some_iff.1 hx).1;simpa using this
   simp[hlt] at hx;subst hx;obtain⟨tc,htc⟩: ∃tc,rows.flatten[j]?=some tc:=⟨_,cw (by rw[hfl];exact hlt)⟩;have:=k.cell ad rfl _ _ tc (UF hz k.width htc);rw[MP j z] at this;exact this
  ·have hlt:p<rows.length*z:=by have:=(List.getElem?_eq_some_iff.1 h2).1;simpa using this
   simp[hlt] at h2;subst h2;exact⟨_,hn _ _ tc (UF hz k.width h1)⟩
theorem Z4 (hT:iY C) {t t' ty e:TypeId} {P:Program} (hP:P=C.P) (ht:P.underlying t=some (.slice e)) (hpl:Dk (C.tt e)=true) (h0:bD F A w0 φ st tm w) (h1:bD F A w0 φ fR tm w) {d:Nat} (hd:d<tm.size) {dp:Bool} {z:Nat} (hz:z=(C.tt e).size)
 {rows bJ:List (List TC)} {Kg FZ:List Value} {X1 X2:Nat→Nat→Prop} {Z1 Z2:Nat→Prop} (p1:pR w φ st sta (gl (if dp then .deep else .snap) rows.flatten Kg) X1 Z1) (p2:pR w φ sta fR (gl (if dp then .deep else .snap) bJ.flatten FZ) X2 Z2)
 (hw1: ∀r∈rows,r.length=z) (Xp: ∀r∈bJ,r.length=z) (Q9:Kg.length=rows.length*z) (FY:FZ.length=bJ.length*z) {Ad:Option Addr} {c:Nat} (hc:rows.length≤c) (hcm:c≤maxLen) {x:Value} (hs:Src P z t' x bJ.length FZ w)
 (hA:(Ad=none∧rows=[]∧c=0)∨ ∃ad,Ad=some ad∧ad.spot=none∧(∃o,aT st.ob o∧ ¬aT sta.ob o∧φ.S o ad.block)∧(∀(j:Nat) (v:Value),Kg[j]?=some v→w.cell? (ad.add j)=some v)∧
   (∀j,j<c*z→(∃x,w.cell? ⟨ad.block,ad.off+j,none⟩=some x)∧w.frozen? ⟨ad.block,ad.off+j,none⟩=false)∧(∀i k,X1 i k→k≠ad.block)∧(∀k,Z1 k→k≠ad.block)∧(1<z→ ∀i,w.frozen? ⟨ad.block,i,none⟩=false))
 (hf:fits (rows.length+bJ.length) (C.tt e).bytes=true):
 ∃v w',(Builtin.append_ #[t,t'] ty #[.slice Ad rows.length c,x]).run P w= .ok v w'∧Rel F A w0 (Br d ⟨dp,z,rows++bJ⟩ fR) (tm.setIfInBounds d v) w'∧w.heap.size≤w'.heap.size∧ ∀k,k<w.heap.size→(∀ad,Ad=some ad→k≠ad.block)→w'.heap[k]?=w.heap[k]?:=by
 subst hP;obtain⟨hf1,hf2⟩:=af0 hf;obtain⟨hkn,hnp⟩:=DX hpl;obtain⟨i,zv,g1,g2,g2b,g3,g4⟩:=(hT e hkn).info;obtain⟨z1,z2,z3,_⟩:=g4 hnp;have hpos:=(hT e hkn).pos
 have hzs:zv.cells.size=(C.tt e).size:=by rw[←Ab,z1];simpa using z2
 have UQ:0<z:=by omega
 have isz:i.size=z:=by rw[g2,hz]
 have p:=p1.app h0 p2;have aov:=dD hw1;have apL:=dD Xp;rw[←Dm (by rw[aov,Q9]),←ZI] at p;have apM: ∀r∈rows++bJ,r.length=z:=fun r hr=>(List.mem_append.1 hr).elim (hw1 r) (Xp r)
 have aow:(Kg++FZ).length=(rows++bJ).length*z:=by rw[cM,cM,uN,Q9,FY]
 have hs':Src C.P i.size t' x bJ.length FZ w:=by rw[isz];exact hs
 have big:rows.length+bJ.length≤maxLen:=by simp only[maxLen];omega
 have grow:c<rows.length+bJ.length→(∃olds:List Value,olds=Kg∧(Builtin.firstCells i.size rows.length (.slice Ad rows.length c)).run C.P w.drew= .ok olds.toArray w.drew)→
  ∃v w',(Builtin.append_ #[t,t'] ty #[.slice Ad rows.length c,x]).run C.P w= .ok v w'∧Rel F A w0 (Br d ⟨dp,z,rows++bJ⟩ fR) (tm.setIfInBounds d v) w'∧w.heap.size≤w'.heap.size∧ ∀k,k<w.heap.size→(∀ad,Ad=some ad→k≠ad.block)→w'.heap[k]?=w.heap[k]?:=fun hg ⟨olds,ho,hfc⟩=>by
  rw[ho] at hfc;have hr:=run_append_grow_src (P:=C.P) w t t' ty e i zv ht g1 g3 Ad rows.length c Kg hfc x bJ.length FZ hs' hg (by simp only[maxLen] at big;omega) (growslice_fits hg (by rw[g2b];exact hf1));have hge:=grownCap_ge w (rows.length+bJ.length) c e;have hgm:=grownCap_le_maxLen w (rows.length+bJ.length) c e big
  have hsize:((Kg++FZ).toArray++Builtin.zeroCells zv.cells (grownCap w (rows.length+bJ.length) c e-(rows.length+bJ.length))).size=grownCap w (rows.length+bJ.length) c e*z:=by
   rw[Array.size_append,size_zeroCells,List.size_toArray,aow,hzs,←hz,cM,←uN]
   congr 1;omega
  have Bn:=Nd (w':=w.drew.alloc (.cells ((Kg++FZ).toArray++Builtin.zeroCells zv.cells (grownCap w (rows.length+bJ.length) c e-(rows.length+bJ.length))) e)) (d:=d) h0 h1 p UQ apM aow
   (c:=grownCap w (rows.length+bJ.length) c e) (by rw[cM];exact hge) hgm ((pV.drew w).trans (pV.alloc _ _)) dh
   (fun j v hj=>by
     have hlt:=(List.getElem?_eq_some_iff.1 hj).1;have e1:=wO w.drew ((Kg++FZ).toArray++Builtin.zeroCells zv.cells (grownCap w (rows.length+bJ.length) c e-(rows.length+bJ.length))) e j;refine e1.trans ?_;rw[Array.getElem?_append_left (by simpa using hlt)]
     simpa using hj)
   (fun j hj=>⟨⟨_,(wO w.drew _ e j).trans (zf (by rw[hsize];exact hj))⟩,nE w.drew _ e j⟩) (fun _ i=>nE w.drew _ e i) hd
  rw[cM] at Bn;exact⟨_,_,hr,Bn,by simp,fun k hk _=>((pV.drew w).trans (pV.alloc _ _)).block k hk⟩
 rcases hA with⟨rfl,rfl,rfl⟩|⟨ad,rfl,zu,hob,hcell,hall,hX1,hZ1,Xf⟩
 ·by_cases hn:bJ.length=0
  ·have hr0:bJ=[]:=DK hn
   subst hr0;have hv0:FZ=[]:=DK (by simpa using FY);subst hv0;exact⟨_,w,run_append_nothing w t t' ty e i ht g1 none _ _ (de _) x hs',agI h1 UQ hd,de _,fun _ _ _=>rfl⟩
  ·refine grow fj ⟨_,rfl,?_⟩
   have hv0:Kg=[]:=DK (by simpa using Q9);subst hv0;exact run_firstCells_none w.drew i.size 0 0 0
 ·have hX2: ∀i k,i<bJ.length*z→X2 i k→k≠ad.block:=fun i k hi hk e=>by
   subst e;obtain⟨o,o1,o2,o3⟩:=hob;obtain⟨o',q1,q2,q3⟩:=(p2.src i _ (by rw[lF (by rw[apL,FY]),apL];exact hi) hk).2;have:=h0.sep.apart o o' _ o1 (p1.sub.dom q1) o3 q3;subst this;exact o2 q1
  have hZ2: ∀k,Z2 k→k≠ad.block:=fun k hk e=>by
   subst e;obtain⟨o,o1,o2,o3⟩:=hob;obtain⟨o',q1,q2,q3⟩:=p2.srcZ _ hk;have:=h0.sep.apart o o' _ o1 (p1.sub.dom q1) o3 q3;subst this;exact o2 q1
  by_cases hroom:rows.length+bJ.length≤c
  ·have inb: ∀j,j<FZ.length→rows.length*z+j<c*z:=fun j hj=>by
    have:rows.length*z+bJ.length*z≤c*z:=by rw[←uN];exact qx _ hroom
    omega
   have had:(⟨ad.block,ad.off,none⟩:Addr)=ad:=by cases ad;simp_all
   have hr:=run_append_room_src (P:=C.P) w t t' ty e i ht g1 ad.block ad.off rows.length c x bJ.length FZ hs' hroom
    (fun j hj=>by obtain⟨⟨y,hy⟩,_⟩:=hall _ (inb j hj);rw[isz,ny,hy];rfl) (fun j hj=>by obtain⟨_,hy⟩:=hall _ (inb j hj);rw[isz,ny];exact hy)
   rw[had,isz] at hr
   have aox: ∃o,aT st.ob o∧ ¬aT fR.ob o∧φ.S o ad.block:=let ⟨o,o1,o2,o3⟩:=hob;⟨o,o1,fun hd=>o2 (p2.sub.dom hd),o3⟩
   have fr:=h0.free p.sub aox;obtain⟨s1,s2,s3,s4⟩:=oC ad.block FZ (ad.off+rows.length*z) w
   have apO: ∀j,j<c*z→(∃x,(w.setCells ad.block (ad.off+rows.length*z) FZ).cell? ⟨ad.block,ad.off+j,none⟩=some x)∧(w.setCells ad.block (ad.off+rows.length*z) FZ).frozen? ⟨ad.block,ad.off+j,none⟩=false:=fun j hj=>by
    obtain⟨⟨y,hy⟩,hz⟩:=hall j hj;exact⟨Option.isSome_iff_exists.1 (World.isSome_setCells _ _ _ w _ (by rw[hy];rfl)),by rw[World.frozen?_setCells];exact hz⟩
   have hcl: ∀{i k:Nat},i<(rows++bJ).length*z→(if i<(gl (if dp=true then Mode.deep else .snap) rows.flatten Kg).length then X1 i k else X2 (i-(gl (if dp=true then Mode.deep else .snap) rows.flatten Kg).length) k)→k≠ad.block:=fun {i k} hi hk=>by
    rw[lF (by rw[aov,Q9]),aov] at hk
    by_cases hlt:i<rows.length*z
    ·rw[aJ hlt] at hk;exact hX1 i k hk
    ·rw[aF hlt] at hk;exact hX2 _ k (by rw[cM,uN] at hi;omega) hk
   have Bn:=aiI (w':=w.setCells ad.block (ad.off+rows.length*z) FZ) (d:=d) h0 h1 p UQ apM aow (ad:=ad) (c:=c) (by rw[cM];exact hroom) hcm zu (h0.frm.setCells fr.new) (by rw[s4];exact de _)
    (G:=fun k=>k=ad.block) (fun k hk hn=>iA _ _ _ _ hk hn) (fun k hk=>by subst hk;exact aox) (fun k hk=>by
      have:k≠ad.block:=hk.elim (hZ1 k) (hZ2 k)
      exact⟨this,this⟩) (fun i k hi hk=>⟨hcl hi hk,hcl hi hk⟩) (.inr aox) (fun j v hj=>by
      rw[zF j zu]
      by_cases hlt:j<rows.length*z
      ·rw[World.cell?_setCells_out _ _ _ _ _ (fun _ _=>by simp only;omega),←zF j zu]
       rw[nw an] at hj;exact hcell j v hj
      ·rw[pP an,Q9] at hj
       have apP:=(List.getElem?_eq_some_iff.1 hj).1
       have:=World.cell?_setCells_in ad.block FZ (ad.off+rows.length*z) w (fun j' hj'=>by
        obtain⟨⟨y,hy⟩,_⟩:=hall _ (inb j' hj');rw[ny,hy];rfl) (j-rows.length*z) apP
       rw[show ad.off+rows.length*z+(j-rows.length*z)=ad.off+j by omega] at this;rw[this];rw[cw apP] at hj
       exact hj) apO (fun h1z i=>by rw[World.frozen?_setCells];exact Xf h1z i) hd
   rw[cM] at Bn;exact⟨_,_,hr,Bn,by rw[s4];exact de _,fun k hk hn=>iA _ _ _ _ hk (hn ad rfl)⟩
  ·refine grow an ⟨Kg,rfl,?_⟩
   exact run_firstCells_some w.drew i.size rows.length ad rows.length c Kg (by rw[isz];exact Q9) (by simpa using hcell)
end Go.T
namespace Go.T
structure I8 where
 tc:TC
 val:Value
 own:Nat→Prop
def I8.ok (w:World) (t:I8):Prop:=aB w (fun _=>False) .deep t.own t.tc t.val
def I8.apart (a b:I8):Prop:= ∀k,a.own k→ ¬b.own k
theorem I8.aeM {a b:I8} (h:I8.apart a b):I8.apart b a:=fun k hb ha=>h k ha hb
def aa6 (w:World) (b off:Nat) (L:List Value):Prop:= ∀k y,L[k]?=some y→w.cell? ⟨b,off+k,none⟩=some y
def amz (w:World) (b off n:Nat):Prop:= ∀j,j<n→w.frozen? ⟨b,off+j,none⟩=false
theorem aB.noR {w:World} {R R' S:Nat→Prop} {c:TC} {v:Value} (h:aB w R .deep S c v):aB w R' .deep S c v:=by
 generalize hm:Mode.deep=m at h
 induction h with
 |any _ _ _ h=>exact .any _ _ _ h
 |sc _ _ _ h=>exact .sc _ _ _ h
 |sub m S z rows A c u T h hn ih=>
  subst hm;exact .sub _ _ z rows A c u T {h with read:=fun hm=>by cases hm} fun i f tc ht=>ih i f tc ht rfl
structure vN (w:World) (S:Nat→Prop) (z:Nat) (rows:List (List TC)) (v:Value) (A:Option Addr) (c:Nat) (eP:List I8):Prop where
 val:v= .slice A rows.length c
 le:rows.length≤c
 cap:c≤maxLen
 z0:0<z
 width: ∀r∈rows,r.length=z
 tcs:rows.flatten=eP.map (·.tc)
 ok: ∀t∈eP,t.ok w
 sO:eP.Pairwise I8.apart
 sub: ∀t∈eP,∀k,t.own k→S k∧ ∀ad,A=some ad→k≠ad.block
 none:A=none→c=0
 row: ∀ad,A=some ad→S ad.block∧ad.spot= .none∧(∃sp,aa6 w ad.block ad.off (eP.map (·.val)++sp)∧(eP.map (·.val)++sp).length=c*z)∧amz w ad.block ad.off (c*z)∧(1<z→ ∀i,w.frozen? ⟨ad.block,i,.none⟩=false)
theorem aB.opened {w:World} {R S:Nat→Prop} {z:Nat} {rows:List (List TC)} {v:Value} (h:aB w R .deep S (.sub z rows) v): ∃A c eP,vN w S z rows v A c eP:=by
 cases h with
 |sub _ _ _ _ A c u T k hn=>
  have hz:=k.z0;have hfl:=dD k.width;have hat: ∀p tc,rows.flatten[p]?=some tc→BE rows (p/z) (p % z)=some tc:=fun p tc h=>UF hz k.width h;refine⟨A,c,(List.range (rows.length*z)).map fun p=>⟨rows.flatten.getD p default,u (p/z) (p % z),T (p/z) (p % z)⟩,rfl,k.len,k.cap,hz,k.width,?_,?_,?_,?_,(k.own dh).1,?_⟩
  ·apply List.ext_getElem
   ·simp[hfl]
   ·intro p h1 h2
    simp only[List.getElem_map,List.getElem_range,wG,cw h1];rfl
  ·intro t ht
   obtain⟨p,hp,rfl⟩:=List.mem_map.1 ht;have hp:=List.mem_range.1 hp
   have hs:rows.flatten[p]?=some (rows.flatten.getD p default):=by
    rw[wG,cw an];rfl
   exact(hn _ _ _ (hat p _ hs)).noR
  ·rw[List.pairwise_map]
   refine(List.nodup_range (n:=rows.length*z)).imp_of_mem ?_;intro a b ha hb hab k' h1 h2;have:=(k.sO rfl _ _ _ h1).2.2 _ _ h2
   apply hab
   rw[←MP a z,←MP b z,this.1,this.2]
  ·intro t ht k' hk
   obtain⟨p,hp,rfl⟩:=List.mem_map.1 ht;exact⟨(k.sO rfl _ _ _ hk).1,(k.sO rfl _ _ _ hk).2.1⟩
  ·intro ad ha
   obtain⟨hS,hs,hc⟩:=(k.own dh).2 ad ha;refine⟨hS,hs,⟨(List.range (c*z-rows.length*z)).map fun j=>(w.cell? ⟨ad.block,ad.off+(rows.length*z+j),.none⟩).getD default,?_,?_⟩,fun j hj=>(hc j hj).2,fun h1 i=>k.soft dh h1 ad ha i⟩
   ·intro j y hj
    by_cases hl:j<rows.length*z
    ·rw[nw (by simpa using hl)] at hj
     simp[hl] at hj;subst hj
     have hs2:rows.flatten[j]?=some (rows.flatten.getD j default):=by
      rw[wG,cw an];rfl
     have:=k.cell ad ha _ _ _ (hat j _ hs2);rw[MP j z] at this;obtain⟨b0,o0,s0⟩:=ad
     cases hs
     rwa [Addr.add_lit] at this
    ·rw[pP (by simpa using hl)] at hj
     have hlt:=(List.getElem?_eq_some_iff.1 hj).1;simp at hj hlt
     obtain⟨q1,rfl⟩:=by simpa [hlt] using hj
     obtain⟨x,hx⟩:=(hc j an).1;rw[show rows.length*z+(j-rows.length*z)=j by omega,hx];rfl
   ·have:=qx z k.len
    simp;omega
theorem vN.rep {w:World} {S:Nat→Prop} {z:Nat} {rows:List (List TC)} {v:Value} {A:Option Addr} {c:Nat} {eP:List I8} (h:vN w S z rows v A c eP) {R:Nat→Prop}:aB w R .deep S (.sub z rows) v:=by
 rw[h.val];have hfl:=dD h.width
 have hil:eP.length=rows.length*z:=by have:=congrArg List.length h.tcs;rw[hfl,ct] at this;exact this.symm
 have Bt: ∀{i f:Nat} {tc:TC},BE rows i f=some tc→ ∃t,eP[i*z+f]?=some t∧t.tc=tc∧f<z∧i<rows.length:=fun {i f tc} ht=>by
  obtain⟨h1,h2,h3⟩:=Al h.width ht;rw[h.tcs,mm] at h1
  cases hq:eP[i*z+f]? with
  |none=>rw[hq] at h1;cases h1
  |some t=>rw[hq] at h1;exact⟨t,rfl,by simpa using h1,h2,h3⟩
 have arf: ∀{i f i' f':Nat},f<z→f'<z→i*z+f=i'*z+f'→i=i'∧f=f':=fun {i f i' f'} h1 h2 e=>by
  have e1:(i*z+f)/z=i:=by rw[Nat.mul_comm,Nat.mul_add_div h.z0,Nat.div_eq_of_lt h1,xz]
  have e2:(i'*z+f')/z=i':=by rw[Nat.mul_comm,Nat.mul_add_div h.z0,Nat.div_eq_of_lt h2,xz]
  have:i=i':=by rw[←e1,e,e2]
  subst this;exact⟨rfl,by omega⟩
 refine .sub _ _ z rows A c (fun i f=>(eP[i*z+f]?.map (·.val)).getD default) (fun i f k=>f<z∧ ∃t,eP[i*z+f]?=some t∧t.own k) ⟨h.le,h.cap,h.z0,h.width,?_,?_,fun hm=>(by cases hm),fun _=>⟨h.none,?_⟩,?_,?_⟩ ?_
 ·intro hne
  cases hA:A with
  |none=>
   have h1:=h.none hA;have h2:=h.le;rw[h1] at h2;exact absurd (DK an) hne
  |some ad=>exact⟨ad,rfl⟩
 ·intro ad ha i f tc ht
  obtain⟨t,h1,rfl,h2,h3⟩:=Bt ht;obtain⟨_,hs,⟨sp,hr,_⟩,_⟩:=h.row ad ha;have:=hr (i*z+f) t.val (by rw[nw (by rw[ct];exact(List.getElem?_eq_some_iff.1 h1).1),mm,h1];rfl);obtain⟨b0,o0,s0⟩:=ad
  cases hs
  rw[Addr.add_lit,h1];exact this
 ·intro ad ha
  obtain⟨hS,hs,⟨sp,hr,hl⟩,hf,_⟩:=h.row ad ha;refine⟨hS,hs,fun j hj=>⟨⟨_,hr j _ (cw (by rw[hl];exact hj))⟩,hf j hj⟩⟩
 ·intro _ h1 ad ha i
  exact(h.row ad ha).2.2.2.2 h1 i
 ·rintro _ i f k ⟨hf,t,ht,hk⟩
  have hm:=iV ht;refine⟨(h.sub t hm k hk).1,(h.sub t hm k hk).2,fun i' f'=> ?_⟩;rintro⟨hf',t',ht',hk'⟩
  by_cases e:i*z+f=i'*z+f'
  ·have:=arf hf hf' e
   exact⟨this.1.symm,this.2.symm⟩
  ·have hp:=List.pairwise_iff_getElem.1 h.sO
   obtain⟨l1,e1⟩:=List.getElem?_eq_some_iff.1 ht;obtain⟨l2,e2⟩:=List.getElem?_eq_some_iff.1 ht';rcases Nat.lt_or_gt_of_ne e with hlt|hlt
   ·exact absurd hk' (by have:=hp _ _ l1 l2 hlt;rw[e1,e2] at this;exact this k hk)
   ·exact absurd hk (by have:=hp _ _ l2 l1 hlt;rw[e1,e2] at this;exact this k hk')
 ·intro i f tc ht
  obtain⟨t,h1,rfl,h2,h3⟩:=Bt ht;have:=h.ok t (iV h1)
  have e:(eP[i*z+f]?.map (·.val)).getD default=t.val:=by rw[h1];rfl
  show aB w R .deep _ t.tc ((eP[i*z+f]?.map (·.val)).getD default);rw[e];exact aB.mono (aB.noR this) fun k hk=>⟨h2,t,h1,hk⟩
theorem aa6.put {w:World} {b off:Nat} {L us:List Value} (h:aa6 w b off L) {p:Nat} (hp:p+us.length≤L.length):aa6 (w.setCells b (off+p) us) b off (L.take p++us++L.drop (p+us.length)):=by
 intro k y hk
 have hs: ∀j,j<us.length→(w.cell? ⟨b,off+p+j,none⟩).isSome=true:=fun j hj=>by
  rw[ny,h (p+j) _ (cw an)];rfl
 by_cases h1:k<p
 ·rw[Ac,nw (by rw[fu];omega),DL,aJ h1] at hk
  rw[World.cell?_setCells_out b us _ _ _ (fun _ _=> .inl (by show off+k<off+p;omega))];exact h k y hk
 ·by_cases h2:k<p+us.length
  ·rw[Ac,pP (by rw[fu];omega),nw (by rw[fu];omega),fu,Nat.min_eq_left an] at hk
   have hl:k-p<us.length:=by omega
   have:=World.cell?_setCells_in b us (off+p) w hs (k-p) hl;rw[show off+p+(k-p)=off+k by omega] at this;rw[this,←hk,cw hl]
  ·rw[pP (by rw[cM,fu];omega),uw,cM,fu,Nat.min_eq_left an] at hk
   rw[World.cell?_setCells_out b us _ _ _ (fun _ _=> .inr (by show off+p+us.length≤off+k;omega))];exact h k y (by rw[←hk];congr 1;omega)
theorem acP {w:World} {b o:Nat} {y:Value} (h:w.cell? ⟨b,o,none⟩=some y): ∃t k,w.shape? b=some (t,k)∧k≠0:=by
 unfold World.cell? at h;unfold World.shape?
 split at h
 ·rename_i c e fr hh
  rw[hh];refine⟨e,c.size,rfl,?_⟩;have:c[o]?=some y:=h;have:=(Array.getElem?_eq_some_iff.1 this).1;omega
 ·cases h
theorem MX {w:World} {a:Addr} {y:Value} (h:w.cell? a=some y):a.block<w.heap.size:=by
 unfold World.cell? at h
 split at h
 ·rename_i hh;exact(Array.getElem?_eq_some_iff.1 hh).1
 ·cases h
end Go.T
namespace Go.T
variable {F : Nat → Prop} {A : Arg} {w0 w w' : World} {φ φ' φ1 : Fp} {st st' sta fR : TS} {tm Lo : Array Value} {C : pU}
theorem Fg {z:Nat}: ∀{rows:List (List TC)},(∀r∈rows,r.length=z)→ ∀i,(rows.take i).flatten=rows.flatten.take (i*z)
 |[],_,i=>by simp
 |r::rs,hw,0=>by simp
 |r::rs,hw,i+1=>by
  have hr:=hw r (.head _);rw[List.take_succ_cons,Ae,Ae,Fg (fun r hr=>hw r (.tail _ hr)) i,Bw,List.take_append,hr];rw[MO (by omega:r.length≤i*z+z),show i*z+z-z=i*z by omega]
theorem Fh {z:Nat}: ∀{rows:List (List TC)},(∀r∈rows,r.length=z)→ ∀i,(rows.drop i).flatten=rows.flatten.drop (i*z)
 |[],_,i=>by simp
 |r::rs,hw,0=>by simp
 |r::rs,hw,i+1=>by
  have hr:=hw r (.head _);rw[List.drop_succ_cons,Ae,Fh (fun r hr=>hw r (.tail _ hr)) i,Bw,List.drop_append,hr];rw[Rc (by omega:r.length≤i*z+z),xy,show i*z+z-z=i*z by omega]
def I8.out (t:I8):I8:=⟨.any,t.val,fun _=>False⟩
theorem Rl {z:Nat}: ∀n,(List.replicate n (List.replicate z TC.any)).flatten=List.replicate (n*z) TC.any
 |0=>by simp
 |n+1=>by
  rw[List.replicate_succ,Ae,Rl n,Bw,Nat.add_comm,List.replicate_append_replicate]
theorem akZ (l:List I8):(l.map I8.out).map (·.tc)=List.replicate l.length .any:=by
 induction l with
 |nil=>rfl
 |cons a l ih=>rw[List.map_cons,List.map_cons,ih,gn,List.replicate_succ];rfl
theorem aiN (l:List I8):(l.map I8.out).map (·.val)=l.map (·.val):=by
 rw[List.map_map];rfl
attribute [local semireducible] kV aE in
theorem vN.move {S:Nat→Prop} {z:Nat} {rows:List (List TC)} {v:Value} {Ad:Option Addr} {c:Nat} {eP:List I8} (o:vN w S z rows v Ad c eP) {l h:Int} (h0:0≤l) (h1:l≤h) (h2:h≤rows.length):
 ∃apQ itm:List I8,vN w (fun k=>S k∧ ¬ ∃t∈itm,t.own k) z (kV z rows l h) v Ad c apQ∧(kV z rows l h).length=rows.length∧(aE rows l h).flatten=itm.map (·.tc)∧itm.map (·.val)=((eP.map (·.val)).take (h.toNat*z)).drop (l.toNat*z)∧
  (∀t∈itm,t.ok w∧ ∀k,t.own k→S k∧ ∀ad,Ad=some ad→k≠ad.block)∧itm.Pairwise I8.apart∧(∀r∈aE rows l h,r.length=z):=by
 obtain⟨a,ha⟩: ∃a,a=l.toNat:=⟨_,rfl⟩;obtain⟨b,hb⟩: ∃b,b=h.toNat:=⟨_,rfl⟩
 have hab:a≤b:=by omega
 have hbn:b≤rows.length:=by omega
 have lt:=o.width
 have li:eP.length=rows.length*z:=by
  have:=congrArg List.length o.tcs;rw[dD o.width,ct] at this;exact this.symm
 have e1:=qx z hab;have e2:=qx z hbn;obtain⟨i1,hi1⟩: ∃i1,i1=eP.take (a*z):=⟨_,rfl⟩;obtain⟨i2,hi2⟩: ∃i2,i2=(eP.take (b*z)).drop (a*z):=⟨_,rfl⟩;obtain⟨i3,hi3⟩: ∃i3,i3=eP.drop (b*z):=⟨_,rfl⟩
 have hsplit:eP=i1++i2++i3:=by
  rw[hi1,hi2,hi3];have q1:=MN (b*z) eP;have q2:=MN (a*z) (eP.take (b*z));rw[List.take_take,Nat.min_eq_left e1] at q2;rw[q2,q1]
 have l1:i1.length=a*z:=by rw[hi1,fu];omega
 have l2:i2.length=(b-a)*z:=by rw[hi2,jd,fu,Nat.sub_mul];omega
 have hd:=o.sO;rw[hsplit] at hd;obtain⟨d12,d3,d123⟩:=List.pairwise_append.1 hd;obtain⟨d1,d2,dc⟩:=List.pairwise_append.1 d12
 have m1: ∀t∈i1,t∈eP:=fun t ht=>by rw[hsplit];exact mo _ (mo _ ht)
 have m2: ∀t∈i2,t∈eP:=fun t ht=>by rw[hsplit];exact mo _ (r9 _ ht)
 have m3: ∀t∈i3,t∈eP:=fun t ht=>by rw[hsplit];exact r9 _ ht
 have hv:(i1++i2.map I8.out++i3).map (·.val)=eP.map (·.val):=by
  rw[hsplit];simp only[ux,aiN]
 have hlen:(kV z rows l h).length=rows.length:=by
  unfold kV;rw[←ha,←hb];simp only[cM,fu,List.length_replicate,jd];omega
 have hfl:(kV z rows l h).flatten=(i1++i2.map I8.out++i3).map (·.tc):=by
  unfold kV;rw[←ha,←hb,ZI,ZI,Fg lt,Fh lt,Rl,ux,ux,akZ,l2,o.tcs,hi1,hi3,IM,DN]
 have anyA: ∀t∈i2.map I8.out,∀k,¬t.own k:=fun t ht k hk=>by
  obtain⟨t0,_,rfl⟩:=List.mem_map.1 ht;exact hk
 refine⟨i1++i2.map I8.out++i3,i2,⟨?_,by rw[hlen];exact o.le,o.cap,o.z0,fun r hr=> ?_,hfl,fun t ht=> ?_,?_,fun t ht k hk=> ?_,o.none,fun ad e=> ?_⟩,hlen,?_,?_,fun t ht=>⟨o.ok t (m2 t ht),fun k hk=>o.sub t (m2 t ht) k hk⟩,d2,fun r hr=> ?_⟩
 ·rw[hlen];exact o.val
 ·unfold kV at hr
  rcases List.mem_append.1 hr with hr|hr
  ·rcases List.mem_append.1 hr with hr|hr
   ·exact lt r (Bv hr)
   ·rw[List.eq_of_mem_replicate hr,List.length_replicate]
  ·exact lt r (zg hr)
 ·rcases List.mem_append.1 ht with ht|ht
  ·rcases List.mem_append.1 ht with ht|ht
   ·exact o.ok t (m1 t ht)
   ·obtain⟨t0,h0,rfl⟩:=List.mem_map.1 ht
    have:=o.ok t0 (m2 t0 h0);exact .any _ _ _ ⟨vM this,aB.cells this⟩
  ·exact o.ok t (m3 t ht)
 ·refine List.pairwise_append.2 ⟨List.pairwise_append.2 ⟨d1,?_,fun x hx y hy k _ hk=>anyA y hy k hk⟩,d3,fun x hx y hy=> ?_⟩
  ·rw[List.pairwise_map]
   exact d2.imp fun _ k hk=>hk.elim
  ·rcases List.mem_append.1 hx with hx|hx
   ·exact d123 x (mo _ hx) y hy
   ·exact fun k hk=>(anyA x hx k hk).elim
 ·rcases List.mem_append.1 ht with ht|ht
  ·rcases List.mem_append.1 ht with ht|ht
   ·exact⟨⟨(o.sub t (m1 t ht) k hk).1,fun⟨t',ht',hk'⟩=>dc t ht t' ht' k hk hk'⟩,(o.sub t (m1 t ht) k hk).2⟩
   ·exact(anyA t ht k hk).elim
  ·exact⟨⟨(o.sub t (m3 t ht) k hk).1,fun⟨t',ht',hk'⟩=>d123 t' (r9 _ ht') t ht k hk' hk⟩,(o.sub t (m3 t ht) k hk).2⟩
 ·obtain⟨r1,r2,r3,r4⟩:=o.row ad e
  refine⟨⟨r1,fun⟨t,ht,hk⟩=>(o.sub t (m2 t ht) _ hk).2 ad e rfl⟩,r2,?_,r4⟩;rw[hv];exact r3
 ·unfold aE
  rw[←ha,←hb,Fh (fun r hr=>lt r (Bv hr)),Fg lt,o.tcs,hi2,DN,IM]
 ·rw[←ha,←hb,hi2,DN,IM]
 ·unfold aE at hr
  exact lt r (Bv (zg hr))
theorem bD.apf (h:bD F A w0 φ st tm w) {o g:Nat} {z:Nat} {rows:List (List TC)} (hb:az o st.ob=some ⟨true,z,rows⟩) {l hh:Int} (h0:0≤l) (h1:l≤hh) (h2:hh≤rows.length) (hg:g≠0) (hgo:g≠o):
 ∃φ2,bD F A w0 φ2 (Lr g o ⟨true,z,rows⟩ l hh st) tm w∧φ2.β=φ.β∧(∀d,d≠g→φ2.V d=φ.V d)∧(∀d k,d≠g→φ2.S d k→φ.S d k)∧
  ∃vs X,vs.length=(aE rows l hh).length*z∧(∀r∈aE rows l hh,r.length=z)∧(∀vX,F3 z rows.length l hh (φ.V o) vX→ ∀ad n c,vX= .slice (some ad) n c→ ∀(j:Nat) (x:Value),vs[j]?=some x→w.cell? (ad.add j)=some x)∧
   ∀sta:TS,aT sta.ob g→pR w φ2 sta (T.qU g sta) (gl .deep (aE rows l hh).flatten vs) X (fun _=>False):=by
 have hin:aT st.ob o:=⟨_,hb⟩;have hO:aB w φ.I .deep (φ.S o) (.sub z rows) (φ.V o):=h.obj o _ hb;obtain⟨Ad,c,eP,op⟩:=hO.opened;obtain⟨apQ,itm,op',e1,e2,e3,e4,e5,e6⟩:=op.move h0 h1 h2;have hS: ∀t∈itm,∀k,t.own k→φ.S o k:=fun t ht k hk=>((e4 t ht).2 k hk).1
 have w1:=h.yI (w':=w) (b':=⟨true,z,kV z rows l hh⟩) (X:=fun k=>φ.S o k∧ ¬ ∃t∈itm,t.own k) hb rfl e1 op'.rep h.frm (de _) (fun _ _ _=>rfl)
  (fun k hk=>h.sep.fresh o k hin hk.1) (fun k hk=>h.sep.read o k hin hk.1) (fun k d hk hne hd hs=>hne (h.sep.apart d o k hd hin hs hk.1)) (fun b cs Ra hw hk=>(h.sep.box b cs Ra hw).2.1 o hin hk.1)
 have uv: ∀d,aT (T.yI o ⟨true,z,kV z rows l hh⟩ st).ob d→aT st.ob d:=fun d hd=>by
  have:aT (rW o ⟨true,z,kV z rows l hh⟩ st.ob) d:=hd;rw[mu] at this;exact this.elim (fun e=>e▸hin) id
 have w2:=w1.IQ (o:=g) (b:=⟨true,1,[]⟩) (X:=fun k=> ∃t∈itm,t.own k) (v:= .slice none 0 0) hg (Fe (Nat.lt_succ_self 0)) (fun k ⟨t,ht,hk⟩=>h.sep.fresh o k hin (hS t ht k hk)) (fun k ⟨t,ht,hk⟩=>h.sep.read o k hin (hS t ht k hk))
  (fun k d ⟨t,ht,hk⟩ hne hd hs=>by
    by_cases e:d=o
    ·subst e
     have hs:(if d=d then φ.S d k∧ ¬ ∃t∈itm,t.own k else φ.S d k):=hs;rw[aJ rfl] at hs;exact hs.2 ⟨t,ht,hk⟩
    ·rw[zk e] at hs
     exact e (h.sep.apart d o k (uv d hd) hin hs (hS t ht k hk)))
  (fun b cs Ra hw ⟨t,ht,hk⟩=>by
    obtain⟨cs0,hc0,_⟩:=jO _ b cs Ra
    exact(h.sep.box b cs0 hc0 hw).2.1 o hin (hS t ht _ hk))
 have lits:eP.length=rows.length*z:=by
  have:=congrArg List.length op.tcs;rw[dD op.width,ct] at this;exact this.symm
 have litm:itm.length=(aE rows l hh).length*z:=by
  have:=congrArg List.length e2;rw[dD e6,ct] at this;exact this.symm
 refine⟨_,w2,rfl,fun d hd=> ?_,fun d k hd hs=> ?_,itm.map (·.val),fun i k=> ∃t,itm[i]?=some t∧t.own k,by rw[ct];exact litm,e6,fun vX hc ad n c' ev j x hj=> ?_,fun sta hgd=>⟨fun i it hi=> ?_,fun i k hi hk=>⟨id,g,hgd,fun hd=>(nh.1 hd).1 rfl,?_⟩,fun k hk=>hk.elim,fun i j k hi hj hk hk'=> ?_,gx.kill sta g⟩⟩
 ·show(if d=g then _ else if d=o then φ.V o else φ.V d)=φ.V d
  rw[aF hd]
  split
  ·subst_vars;rfl
  ·rfl
 ·rw[zk hd] at hs
  by_cases e:d=o
  ·subst e
   have hs:(if d=d then φ.S d k∧ ¬ ∃t∈itm,t.own k else φ.S d k):=hs;rw[aJ rfl] at hs;exact hs.1
  ·rw[zk e] at hs;exact hs
 ·obtain⟨c1,c2,c3,A0,A',c0,f1,f2,f3,f4,f5⟩:=hc
  rw[op.val] at f1
  cases f1
  rw[ev] at f2
  cases f2
  obtain⟨ad0,hA⟩: ∃ad0,Ad=some ad0:=by
   cases hA:Ad with
   |none=>have:=f4 hA;cases this
   |some ad0=>exact⟨ad0,rfl⟩
  obtain⟨_,hsp,⟨sp,hr,hrl⟩,_⟩:=op.row ad0 hA;rw[e3] at hj;have hjl:=(List.getElem?_eq_some_iff.1 hj).1;rw[jd,fu,ct,lits] at hjl;rw[uw,DL] at hj
  split at hj
  ·have hbz:hh.toNat*z≤rows.length*z:=qx z an
   have hx:=hr _ x (by rw[nw (by rw[ct,lits];exact mq eg hbz)];exact hj);have hle:=op.le;have hz:=op.z0
   have hne:c≠l.toNat:=fun e=>by
    have:hh.toNat≤l.toNat:=by omega
    have:=qx z this;omega
   have:=f3 hne;rw[hA] at this;simp only[pQ,aY] at this;obtain⟨b0,o0,s0⟩:=ad0
   cases hsp
   rw[this,Addr.add_add,Addr.add_lit];rw[←ny] at hx;rw[show o0+(l.toNat*z+j)=o0+l.toNat*z+j by omega];exact hx
  ·cases hj
 ·obtain⟨tc,v,t1,t2,rfl⟩:=qE hi
  rw[e2,mm] at t1;rw[mm] at t2
  cases hq:itm[i]? with
  |none=>rw[hq] at t1;cases t1
  |some t=>
   rw[hq] at t1 t2;simp only[pQ,aY] at t1 t2;subst t1 t2;exact aB.mono (aB.noR (e4 t (iV hq)).1) fun k hk=>⟨t,rfl,hk⟩
 ·obtain⟨t,ht,hk⟩:=hk
  show(if g=g then ∃t∈itm,t.own k else _);rw[aJ rfl];exact⟨t,iV ht,hk⟩
 ·obtain⟨t,ht,hk⟩:=hk
  obtain⟨t',ht',hk'⟩:=hk';obtain⟨l1,q1⟩:=List.getElem?_eq_some_iff.1 ht;obtain⟨l2,q2⟩:=List.getElem?_eq_some_iff.1 ht';have hp:=List.pairwise_iff_getElem.1 e5;rcases Nat.lt_trichotomy i j with hlt|rfl|hlt
  ·exact absurd hk' (by have:=hp _ _ l1 l2 hlt;rw[q1,q2] at this;exact this k hk)
  ·rfl
  ·exact absurd hk (by have:=hp _ _ l2 l1 hlt;rw[q1,q2] at this;exact this k hk')
end Go.T
namespace Go.T
variable {F : Nat → Prop} {A : Arg} {w0 w w' : World} {φ φ' : Fp} {st st' sta fR sK : TS} {tm Lo : Array Value} {C : pU}
variable {R : Type} {cf : Cf} {lp : Lp} {Q : R → Prop}
theorem Z5 {e:TypeId} {z:Nat} (h:OJ C e z=true):Dk (C.tt e)=true∧z=(C.tt e).size:=by
 unfold OJ at h
 split at h
 ·exact⟨by assumption,kD h⟩
 ·cases h
attribute [local semireducible] bT in
theorem Vj {rows:List (List TC)} (h:bT rows=true): ∀(p:Nat) (tc:TC),rows.flatten[p]?=some tc→ ∃v,tc= .sc v:=fun p tc hp=>by
 have hm:=iV hp;obtain⟨r,hr,hc⟩:=List.mem_flatten.1 hm;have h1:=List.all_eq_true.1 h r hr;have h2:=List.all_eq_true.1 h1 tc hc
 cases tc with
 |any=>cases h2
 |sc v=>exact⟨v,rfl⟩
 |sub z rows=>cases h2
structure ann (w:World) (φ:Fp) (st sta:TS) (dp:Bool) (z:Nat) (rows:List (List TC)) (vS:Value) (M:Mode) (Kg:List Value) (X1:Nat→Nat→Prop) (Z1:Nat→Prop) (Ad:Option Addr) (c:Nat):Prop where
 val:vS= .slice Ad rows.length c
 parts:pR w φ st sta (gl M rows.flatten Kg) X1 Z1
 width: ∀r∈rows,r.length=z
 len:Kg.length=rows.length*z
 le:rows.length≤c
 max:c≤maxLen
 at':(Ad=none∧rows=[]∧c=0)∨ ∃ad,Ad=some ad∧ad.spot=none∧(∃o,aT st.ob o∧ ¬aT sta.ob o∧φ.S o ad.block)∧(∀(j:Nat) (v:Value),Kg[j]?=some v→w.cell? (ad.add j)=some v)∧
    (∀j,j<c*z→(∃x,w.cell? ⟨ad.block,ad.off+j,none⟩=some x)∧w.frozen? ⟨ad.block,ad.off+j,none⟩=false)∧(∀i k,X1 i k→k≠ad.block)∧(∀k,Z1 k→k≠ad.block)∧(1<z→ ∀i,w.frozen? ⟨ad.block,i,none⟩=false)
theorem Nf (h:bD F A w0 φ st tm w) {cs:CE} {vS:Value} (hc:e9 st.ob w φ cs vS) {o:Option Nat} {z:Nat} {dp:Bool} {rows:List (List TC)} (hb:Dl st cs=some (o,z,dp,rows)) {M:Mode} (hM:M= .snap∨M= .deep∧dp=true):
 0<z∧bD F A w0 φ (sg o st) tm w∧ ∃Kg X1 Z1 Ad c,ann w φ st (sg o st) dp z rows vS M Kg X1 Z1 Ad c:=by
 unfold Dl at hb
 split at hb
 ·cases hb
  obtain⟨rfl,hz⟩:=hc;exact⟨hz,h,[],_,_,none,0,rfl,pR.nil _,fun r hr=>(by cases hr),by simp,de _,F1 _,.inl ⟨rfl,rfl,rfl⟩⟩
 ·rename_i o' cut
  cases hl:az o' st.ob with
  |none=>rw[hl] at hb;cases hb
  |some b=>
   obtain⟨d0,z0,uC⟩:=b;rw[hl] at hb
   cases hb
   obtain⟨b0,e0,zV⟩:=hc;rw[hl] at e0
   cases e0
   have hr:=rX.cut (h.obj o' _ hl) zV
   have hm:OB.m ⟨dp,z,uC⟩≠ .snap:=by unfold OB.m;split<;>simp
   obtain⟨Kg,X1,Z1,l1,p1,a1⟩:=aB.parts h ⟨_,hl⟩ hr hm (M:=M) (hM.imp id fun⟨e1,e2⟩=>⟨e1,by rw[e2];rfl⟩);obtain⟨_,_,zp,hz,_⟩:=hr.vals;refine⟨hz,h.qU o',Kg,X1,Z1,?_⟩
   cases hr with
   |sub _ _ _ _ Ad c u T k hn=>
    refine⟨Ad,c,rfl,p1,zp,l1,k.len,k.cap,?_⟩
    cases Ad with
    |none=>
     have hne:acg cut uC=[]:=Classical.byContradiction fun hne=>by obtain⟨ad,h⟩:=k.addr hne;cases h
     exact .inl ⟨rfl,hne,(k.own hm).1 rfl⟩
    |some ad=>
     obtain⟨hS,hs,hall⟩:=(k.own hm).2 ad rfl;obtain⟨q1,q2,q3⟩:=a1 ad _ _ rfl;exact .inr ⟨ad,rfl,hs,⟨o',⟨_,hl⟩,fun hd=>(nh.1 hd).1 rfl,hS⟩,q1,hall,q2,q3,fun h1z=>k.soft hm h1z ad rfl⟩
 ·cases hb
theorem ak0 (h:bD F A w0 φ st tm w) {uM:TS} (hsub:gx st uM) {cx:CE} {vX:Value} (hc:e9 uM.ob w φ cx vX) {tx e':TypeId} (hk:C.P.underlying tx=some (.slice e')) {z:Nat} {rows:List (List TC)} {fR:TS} {d1:Bool} (hab:sU cx st=some (.sub z rows,fR,d1))
 {M:Mode} (hM:M= .snap∨M= .deep∧d1=true):bD F A w0 φ fR tm w∧ ∃FZ X2 Z2,pR w φ st fR (gl M rows.flatten FZ) X2 Z2∧(∀r∈rows,r.length=z)∧FZ.length=rows.length*z∧Src C.P z tx vX rows.length FZ w:=by
 unfold sU at hab
 split at hab
 ·cases hab
 ·cases hab
  obtain⟨rfl,hz⟩:=hc;exact⟨h,[],_,_,pR.nil _,fun r hr=>(by cases hr),by simp,Src.ofNil w hk 0⟩
 ·rename_i o cut
  cases hl:az o st.ob with
  |none=>rw[hl] at hab;cases hab
  |some b=>
   obtain⟨d0,z0,uC⟩:=b;rw[hl] at hab
   cases hab
   obtain⟨b0,e0,zV⟩:=hc;rw[hsub.ob _ _ hl] at e0
   cases e0
   have hr:=rX.cut (h.obj o _ hl) zV
   have hm:OB.m ⟨d1,z,uC⟩≠ .snap:=by unfold OB.m;split<;>simp
   obtain⟨Kg,X1,Z1,l1,p1,a1⟩:=aB.parts h ⟨_,hl⟩ hr hm (M:=M) (hM.imp id fun⟨e1,e2⟩=>⟨e1,by rw[e2];rfl⟩);obtain⟨_,_,zp,hz,_⟩:=hr.vals;refine⟨h.qU o,Kg,X1,Z1,p1,zp,l1,Vi hr hk rfl l1 (fun ad n c e=>(a1 ad n c e).1) fun y hy=> ?_⟩;obtain⟨j,hj,rfl⟩:=List.mem_iff_getElem.1 hy;exact vM (p1.ok j _ (rM (cw (by rw[dD zp,←l1];exact hj)) (cw hj)))
 ·rename_i l z0 uC
  cases hab
  have hMs:M= .snap:=hM.elim id fun⟨_,e⟩=>by cases e
  subst hMs;have hr:=hc.2.1;obtain⟨vs,l1,zp,hz,hcell,DG⟩:=hr.vals
  have hok: ∀(i:Nat) (it:It),(gl .snap rows.flatten vs)[i]?=some it→it.1= .snap∧aB w (fun k=>φ.I k∨False) .snap OF it.2.1 it.2.2:=fun i it hi=>by
   obtain⟨tc,v,h1,h2,rfl⟩:=qE hi;obtain⟨T,hT⟩:=DG i tc v h1 h2;exact⟨rfl,hT.uy fun k hk=>hk.elim .inl fun⟨d,hd,_⟩=>by cases hd⟩
  refine⟨h,vs,fun _ _=>False,fun _=>False,⟨fun i it hi=> ?_,fun _ _ _ hk=>hk.elim,fun _ hk=>hk.elim,fun _ _ _ _ _ hk=>hk.elim,gx.refl _⟩,zp,l1,Vi hr hk rfl l1 hcell fun y hy=> ?_⟩
  ·obtain⟨e1,e2⟩:=hok i it hi
   rw[e1];exact e2
  ·obtain⟨j,hj,rfl⟩:=List.mem_iff_getElem.1 hy
   exact vM (hok j _ (rM (cw (by rw[dD zp,←l1];exact hj)) (cw hj))).2
 ·cases hab
theorem agK (h:bD F A w0 φ st tm w) {cx:CE} {vX:Value} (hc:e9 st.ob w φ cx vX) {tx e':TypeId} (hk:C.P.underlying tx=some (.slice e')) {z:Nat} {rows:List (List TC)} (hr:sR st cx=some (z,rows)) (hsc:bT rows=true) (M:Mode) (sta:TS):
 ∃FZ,pR w φ sta sta (gl M rows.flatten FZ) (fun _ _=>False) (fun _=>False)∧(∀r∈rows,r.length=z)∧FZ.length=rows.length*z∧Src C.P z tx vX rows.length FZ w:=by
 obtain⟨DG,_⟩:=wh h hc hr;obtain⟨vs,l1,zp,hz,hcell,Xq⟩:=DG.vals
 have hok: ∀(M:Mode) (i:Nat) (it:It),(gl M rows.flatten vs)[i]?=some it→ ∃v,it=(M,.sc v,v)∧RO v:=fun M i it hi=>by
  obtain⟨tc,v,h1,h2,rfl⟩:=qE hi;obtain⟨T,hT⟩:=Xq i tc v h1 h2;obtain⟨v',rfl⟩:=Vj hsc i tc h1
  cases hT with
  |sc _ _ _ hs=>exact⟨_,rfl,hs⟩
 refine⟨vs,⟨fun i it hi=> ?_,fun _ _ _ hk=>hk.elim,fun _ hk=>hk.elim,fun _ _ _ _ _ hk=>hk.elim,gx.refl _⟩,zp,l1,Vi DG hk rfl l1 hcell fun y hy=> ?_⟩
 ·obtain⟨v,rfl,hs⟩:=hok M i it hi
  exact .sc _ _ _ hs
 ·obtain⟨j,hj,rfl⟩:=List.mem_iff_getElem.1 hy
  obtain⟨v,e1,hs⟩:=hok .deep j _ (rM (cw (by rw[dD zp,←l1];exact hj)) (cw hj))
  have:vs[j]=v:=by have:=congrArg (fun it:It=>it.2.2) e1;exact this
  rw[this]
  cases v<;>first|rfl|cases hs
theorem Rm {g o p:Nat} {b:OB} {l h:Int} (h1:p≠g) (h2:p≠o):az p (Lr g o b l h st).ob=az p st.ob:=by
 show az p (rW g _ (uP g (rW o _ st.ob)))=_;rw[g6,aF h1,kX,aF h1,g6,aF h2]
theorem Vk {g o:Nat} {b:OB} {l h:Int}:aT (Lr g o b l h st).ob g:=by
 refine⟨⟨true,1,[]⟩,?_⟩;show az g (rW g _ (uP g (rW o _ st.ob)))=_;rw[g6,aJ rfl]
theorem aeN (hT:iY C) {a:Act} (h:bD F A w0 φ st a.tmps w) {o:Oper} {s x:Operand} {t t':TypeId} (ho:o.op= .call {callee:= .builtin .append,args:= #[s,x],argTypes:= #[t,t']}) {K:TS→Ev R} (hd: ∀d,o.dst=some d→d<a.tmps.size) {d:Nat} (nX:o.dst=some d)
 {e:TypeId} (he:E3 C t=some e) {cs cx:CE} (hcs:Bq (xq C st t s)=some cs) {oo:Option Nat} {z:Nat} {dp:Bool} {rows:List (List TC)} (hb:Dl st cs=some (oo,z,dp,rows)) (hsz:OJ C e z=true) {e2:TypeId} (hkx:C.P.underlying t'=some (.slice e2)) (hcS:e9 st.ob w φ cs (a.eval s)) (hcX:e9 st.ob w φ cx (a.eval x))
 {bJ:List (List TC)} {fR:TS} (hmv:aep d oo dp cx st=some (z,bJ,fR)) (hfit:fits (rows.length+bJ.length) (C.tt e).bytes=true) (hk:(K (Br d ⟨dp,z,rows++bJ⟩ fR)).holds cf lp Q):Did C F A w0 φ st o a w K cf lp Q:=by
 obtain⟨hpl,hz⟩:=Z5 hsz;unfold aep at hmv
 split at hmv
 ·rename_i o' l hh
  split at hmv
  ·rename_i z0 uC hl amP
   simp only[aY,Bx] at hmv;obtain⟨rfl,rfl,rfl⟩:=hmv;rw[Bool.or_eq_false_iff] at amP;obtain⟨hc1,hc2⟩:=amP
   have hgo:xu d 1 0≠o':=fun e=>by rw[e] at hc2;simp at hc2
   have hg0:xu d 1 0≠0:=by unfold xu;omega
   have hoo: ∀p,oo=some p→p≠o'∧p≠xu d 1 0:=fun p e=>by
    rw[e] at hc1;simp only[Bool.or_eq_false_iff] at hc1;exact⟨wJ hc1.1,wJ hc1.2⟩
   obtain⟨b0,hb0,zV⟩:=hcX;rw[hl] at hb0
   cases hb0
   have zV:F3 z0 uC.length l hh (φ.V o') (a.eval x):=zV;obtain⟨φ2,h2,eβ,eV,eS,FZ,X2,FY,Xp,hcell,aoz⟩:=h.apf (g:=xu d 1 0) hl zV.1 zV.2.1 zV.2.2.1 hg0 hgo
   have amQ:e9 (Lr (xu d 1 0) o' ⟨true,z0,uC⟩ l hh st).ob w φ2 cs (a.eval s)∧Dl (Lr (xu d 1 0) o' ⟨true,z0,uC⟩ l hh st) cs=some (oo,z0,true,rows):=by
    unfold Dl at hb ⊢
    split at hb
    ·cases hb
     exact⟨hcS,rfl⟩
    ·rename_i p cut
     obtain⟨bp,hbp,hvp⟩:=hcS;rw[hbp] at hb;obtain⟨dq,zq,rq⟩:=bp;simp only[aY,Bx] at hb;obtain⟨rfl,rfl,rfl,rfl⟩:=hb;obtain⟨n1,n2⟩:=hoo p rfl;have hlk:=Rm (st:=st) (b:=⟨true,zq,uC⟩) (l:=l) (h:=hh) n2 n1;rw[hbp] at hlk;refine⟨⟨_,hlk,?_⟩,?_⟩
     ·rw[eV p n2];exact hvp
     ·simp only[hlk]
    ·cases hb
   obtain⟨_,hka,Kg,X1,Z1,Ad,c,hB⟩:=Nf h2 amQ.1 amQ.2 (M:= .deep) (.inr ⟨rfl,rfl⟩)
   have apR:aT (sg oo (Lr (xu d 1 0) o' ⟨true,z0,uC⟩ l hh st)).ob (xu d 1 0):=by
    cases oo with
    |none=>exact Vk
    |some p=>exact nh.2 ⟨fun e=>(hoo p rfl).2 e.symm,Vk⟩
   have p2:=aoz _ apR
   have hsrc:Src C.P z0 t' (a.eval x) (aE uC l hh).length FZ w:=by
    refine Vi (rX.cut (cut:=some (l,hh)) (h.obj o' _ hl) zV) hkx rfl FY (fun ad n c e=>hcell _ zV ad n c e) fun y hy=> ?_;obtain⟨j,hj,rfl⟩:=List.mem_iff_getElem.1 hy;exact vM (p2.ok j _ (rM (cw (by rw[dD Xp,←FY];exact hj)) (cw hj)))
   obtain⟨v,w',hrun,Bn,hsize,hframe⟩:=Z4 (ty:=o.type) hT rfl (zY hT he).1 hpl h2 (hka.qU (xu d 1 0)) (hd d nX) (dp:=true) hz hB.parts p2 hB.width Xp hB.len FY hB.le hB.max hsrc hB.at' hfit;refine⟨.value v,v,w',_,?_,.inl rfl,by rw[nX];exact Bn,hk,hsize,fun k hk hnw=>hframe k hk fun ad Xg e=>hnw ?_⟩
   ·rw[yo ho]
    simp only[builtin,Sem.run_bind]
    have:(#[s,x].map a.eval)= #[a.eval s,a.eval x]:=by simp
    rw[this,hB.val,hrun]
    rfl
   ·rcases hB.at' with⟨e0,_⟩|⟨ad',e0,_,⟨o2,o21,o22,o23⟩,_⟩
    ·rw[Xg] at e0;cases e0
    ·rw[Xg] at e0
     cases e0
     cases oo with
     |none=>exact absurd o21 o22
     |some p=>
      have:o2=p:=Classical.byContradiction fun hne=>o22 (nh.2 ⟨hne,o21⟩);subst this;obtain⟨n1,n2⟩:=hoo o2 rfl
      have g1: ∃q,Bq (xq C st t s)=some (.ref o2 q):=by
       unfold Dl at hb
       split at hb
       ·cases hb
       ·rename_i p cut
        split at hb
        ·simp only[aY,Bx] at hb
         obtain⟨rfl,_⟩:=hb;exact⟨_,hcs⟩
        ·cases hb
       ·cases hb
      obtain⟨q,g1⟩:=g1
      have g2:aT st.ob o2:=by
       obtain⟨b2,hb2⟩:=o21;rw[Rm n2 n1] at hb2;exact⟨b2,hb2⟩
      refine .inr ⟨o2,?_,g2,by rw[e];exact eS o2 _ n2 o23⟩;unfold writes;rw[ho];simp only;refine List.mem_map.2 ⟨o2,?_,rfl⟩
      revert g1
      cases xq C st t s with
      |v tup es=>
       unfold Bq
       split
       ·rename_i e0 e1
        intro g1
        cases g1
        simp only[TE.v.injEq] at e1;obtain⟨rfl,rfl⟩:=e1;exact .head _
       ·intro g1;cases g1
       ·intro g1;cases g1
      |_=>intro g1;simp[Bq] at g1
  ·cases hmv
 ·cases hmv
theorem ak1 (h:bD F A w0 φ st tm w) {cx:CE} {vX:Value} (hc:e9 st.ob w φ cx vX) {tx e':TypeId} (hk:C.P.underlying tx=some (.slice e')) {z:Nat} {rows:List (List TC)} (hr:ah8 st cx=some (z,rows)) (sta:TS):
 ∃FZ,pR w φ sta sta (gl .snap rows.flatten FZ) (fun _ _=>False) (fun _=>False)∧(∀r∈rows,r.length=z)∧FZ.length=rows.length*z∧Src C.P z tx vX rows.length FZ w:=by
 unfold ah8 at hr
 split at hr
 ·rename_i o' cut
  split at hr
  ·rename_i z0 uC hl
   cases hr
   obtain⟨b0,hb0,zV⟩:=hc;rw[hl] at hb0
   cases hb0
   have DG:=rX.cut (h.obj o' _ hl) zV;obtain⟨vs,l1,zp,hz,hcell,Xq⟩:=DG.vals
   have hok: ∀(i:Nat) (it:It),(gl .snap (acg cut uC).flatten vs)[i]?=some it→it.1= .snap∧aB w (fun k=>φ.I k∨False) .snap OF it.2.1 it.2.2:=fun i it hi=>by
    obtain⟨tc,v,t1,t2,rfl⟩:=qE hi;obtain⟨T,hT⟩:=Xq i tc v t1 t2;exact⟨rfl,hT.uy fun k hk=> .inl hk⟩
   refine⟨vs,⟨fun i it hi=> ?_,fun _ _ _ hk=>hk.elim,fun _ hk=>hk.elim,fun _ _ _ _ _ hk=>hk.elim,gx.refl _⟩,zp,l1,Vi DG hk rfl l1 hcell fun y hy=> ?_⟩
   ·obtain⟨e1,e2⟩:=hok i it hi
    rw[e1];exact e2.mono fun k hk=>hk.elim
   ·obtain⟨j,hj,rfl⟩:=List.mem_iff_getElem.1 hy
    exact vM (hok j _ (rM (cw (by rw[dD zp,←l1];exact hj)) (cw hj))).2
  ·cases hr
 ·cases hr
theorem agL (hT:iY C) {a:Act} (h:bD F A w0 φ st a.tmps w) {o:Oper} {args:Array Operand} {ts:Array TypeId} (ho:o.op= .call {callee:= .builtin .append,args,argTypes:=ts}) {K:TS→Ev R} (hd: ∀d,o.dst=some d→d<a.tmps.size) (hk:(sV C st o K).holds cf lp Q):
 Did C F A w0 φ st o a w K cf lp Q:=by
 unfold sV at hk;rw[ho] at hk;simp only at hk
 split at hk
 ·rename_i d s x t t' nX h1 h2
  have e1:args= #[s,x]:=by cases args;simp at h1;subst h1;rfl
  have e2:ts= #[t,t']:=by cases ts;simp at h2;subst h2;rfl
  subst e1 e2;have hsv:=gv hT h t s;have hxv:=gv hT h t' x
  have fin: ∀{dp:Bool} {z:Nat} {e:TypeId} {rows bJ:List (List TC)} {sta fR:TS} {Kg FZ:List Value} {X1 X2:Nat→Nat→Prop} {Z1 Z2:Nat→Prop} {Ad:Option Addr} {c:Nat} {cs:CE} {oo:Option Nat},
   E3 C t=some e→Bq (xq C st t s)=some cs→Dl st cs=some (oo,z,(match dp with|true=>true|false=>false),rows)∨True→OJ C e z=true→ann w φ st sta dp z rows (a.eval s) (if dp then .deep else .snap) Kg X1 Z1 Ad c→(∀ad,Ad=some ad→ ∃o',Bq (xq C st t s)=some (.ref o' none)∨(∃q,Bq (xq C st t s)=some (.ref o' q))∧True)→
   (∀ad,Ad=some ad→ ∃o' q,Bq (xq C st t s)=some (.ref o' q)∧aT st.ob o'∧φ.S o' ad.block)→
   bD F A w0 φ fR a.tmps w→pR w φ sta fR (gl (if dp then .deep else .snap) bJ.flatten FZ) X2 Z2→(∀r∈bJ,r.length=z)→FZ.length=bJ.length*z→Src C.P z t' (a.eval x) bJ.length FZ w→fits (rows.length+bJ.length) (C.tt e).bytes=true→
   (K (Br d ⟨dp,z,rows++bJ⟩ fR)).holds cf lp Q→Did C F A w0 φ st o a w K cf lp Q:=by
   intro dp z e rows bJ sta fR Kg FZ X1 X2 Z1 Z2 Ad c cs oo he hcs _ hsz hb _ hown IJ p2 Xp FY hsrc hfit hk;obtain⟨hpl,hz⟩:=Z5 hsz;obtain⟨v,w',hrun,Bn,hsize,hframe⟩:=Z4 (ty:=o.type) hT rfl (zY hT he).1 hpl h IJ (hd d nX) hz hb.parts p2 hb.width Xp hb.len FY hb.le hb.max hsrc hb.at' hfit;refine⟨.value v,v,w',_,?_,.inl rfl,by rw[nX];exact Bn,hk,hsize,fun k hk hnw=>hframe k hk fun ad Xg e=>hnw ?_⟩
   ·rw[yo ho]
    simp only[builtin,Sem.run_bind]
    have:(#[s,x].map a.eval)= #[a.eval s,a.eval x]:=by simp
    rw[this,hb.val,hrun]
    rfl
   ·obtain⟨o',q,g1,g2,g3⟩:=hown ad Xg
    refine .inr ⟨o',?_,g2,by rw[e];exact g3⟩;unfold writes;rw[ho];simp only;refine List.mem_map.2 ⟨o',?_,rfl⟩
    revert g1
    cases xq C st t s with
    |v tup es=>
     unfold Bq
     split
     ·rename_i e0 e1
      intro g1
      cases g1
      simp only[TE.v.injEq] at e1;obtain⟨rfl,rfl⟩:=e1;exact .head _
     ·intro g1;cases g1
     ·intro g1;cases g1
    |_=>intro g1;simp[Bq] at g1
  unfold afG at hk
  split at hk
  ·rename_i e cs cx he hcs hcx
   obtain⟨_,hcS⟩:=BF hsv hcs;obtain⟨_,hcX⟩:=BF hxv hcx
   have hown: ∀{oo:Option Nat} {z:Nat} {dp dp':Bool} {rows:List (List TC)} {M:Mode} {Kg:List Value} {X1:Nat→Nat→Prop} {Z1:Nat→Prop} {Ad:Option Addr} {c:Nat},Dl st cs=some (oo,z,dp,rows)→ann w φ st (sg oo st) dp' z rows (a.eval s) M Kg X1 Z1 Ad c→
    ∀ad,Ad=some ad→ ∃o' q,Bq (xq C st t s)=some (.ref o' q)∧aT st.ob o'∧φ.S o' ad.block:=fun {oo z dp dp' rows M Kg X1 Z1 Ad c} hb hB ad Xg=>by
    unfold Dl at hb
    split at hb
    ·cases hb
     rcases hB.at' with⟨e0,_⟩|⟨ad',e0,_,⟨o',o1,o2,o3⟩,_⟩
     ·rw[Xg] at e0;cases e0
     ·exact absurd o1 o2
    ·rename_i o' cut
     cases hl:az o' st.ob with
     |none=>rw[hl] at hb;cases hb
     |some b=>
      obtain⟨d0,z0,uC⟩:=b;rw[hl] at hb
      cases hb
      rcases hB.at' with⟨e0,_⟩|⟨ad',e0,_,⟨o2,o21,o22,o23⟩,_⟩
      ·rw[Xg] at e0;cases e0
      ·rw[Xg] at e0
       cases e0
       have:o2=o':=Classical.byContradiction fun hne=>o22 (nh.2 ⟨hne,o21⟩);subst this;exact⟨o2,cut,hcs,o21,o23⟩
    ·cases hb
   split at hk
   ·rename_i oo z dp rows hb arj
    split at hk
    ·rename_i b hsz hz1
     have hk2:(match fits (rows.length+b.size) (C.tt e).bytes with|true=>K (Br d ⟨dp,z,rows++KU b⟩ (sg oo st))|false=> .fail:Ev R).holds cf lp Q:=hk;clear hk
     split at hk2
     ·rename_i hfit
      have hz1:=kD hz1;subst hz1;obtain⟨hz,hka,Kg,X1,Z1,Ad,c,hB⟩:=Nf h hcS hb (M:=if dp then .deep else .snap) (by cases dp<;>simp);have hv:=aaO hcX
      exact fin (oo:=oo) he hcs (.inr trivial) hsz hB (fun ad Xg=>let ⟨o',q,g,_⟩:=hown hb hB ad Xg;⟨o',.inr ⟨⟨q,g⟩,trivial⟩⟩) (hown hb hB) hka (Z3 b _ _) (Rk b) (by rw[byteCells_length,tM,Nat.mul_one])
       (by rw[hv,tM];exact Src.ofString w (Vb hT arj) b) (by rw[tM];exact hfit) hk2
     ·exact hk2.elim
    ·exact hk.elim
   ·rename_i oo z dp rows e2 hb htx
    have hkx:=(Vc hT htx).1
    split at hk
    ·exact hk.elim
    ·rename_i hsz
     split at hk
     ·split at hk
      ·rename_i z' bJ hr
       split at hk
       ·rename_i MJ
        have MJ:=kD MJ;subst MJ;have hk2:(match(bT bJ&&fits (rows.length+bJ.length) (C.tt e).bytes) with|true=>K (Br d ⟨dp,z,rows++bJ⟩ (sg oo st))|false=> .fail:Ev R).holds cf lp Q:=hk;clear hk
        split at hk2
        ·rename_i hfit
         simp only[fk] at hfit;obtain⟨hz,hka,Kg,X1,Z1,Ad,c,hB⟩:=Nf h hcS hb (M:=if dp then .deep else .snap) (by cases dp<;>simp);obtain⟨FZ,p2,Xp,FY,hsrc⟩:=agK h hcX hkx hr hfit.1 (if dp then .deep else .snap) (sg oo st);exact fin (oo:=oo) he hcs (.inr trivial) hsz hB (fun ad Xg=>let ⟨o',q,g,_⟩:=hown hb hB ad Xg;⟨o',.inr ⟨⟨q,g⟩,trivial⟩⟩) (hown hb hB) hka p2 Xp FY hsrc hfit.2 hk2
        ·exact hk2.elim
       ·exact hk.elim
      ·exact hk.elim
     ·split at hk
      ·rename_i z' bJ fR hmv
       split at hk
       ·rename_i MJ
        have MJ:=kD MJ;subst MJ;have hk2:(match fits (rows.length+bJ.length) (C.tt e).bytes with|true=>K (Br d ⟨dp,z,rows++bJ⟩ fR)|false=> .fail:Ev R).holds cf lp Q:=hk;clear hk
        split at hk2
        ·rename_i hfit
         exact aeN hT h ho hd nX he hcs hb hsz hkx hcS hcX hmv hfit hk2
        ·exact hk2.elim
       ·exact hk.elim
      split at hk
      ·rename_i z' bJ htp
       split at hk
       ·rename_i MJ
        have MJ:=kD MJ;subst MJ;have hk2:(match fits (rows.length+bJ.length) (C.tt e).bytes with|true=>K (Br d ⟨false,z,rows++bJ⟩ (sg oo st))|false=> .fail:Ev R).holds cf lp Q:=hk;clear hk
        split at hk2
        ·rename_i hfit
         obtain⟨hz,hka,Kg,X1,Z1,Ad,c,hB⟩:=Nf h hcS hb (M:= .snap) (.inl rfl);obtain⟨FZ,p2,Xp,FY,hsrc⟩:=ak1 h hcX hkx htp (sg oo st);exact fin (oo:=oo) (dp:=false) he hcs (.inr trivial) hsz ⟨hB.val,hB.parts,hB.width,hB.len,hB.le,hB.max,hB.at'⟩ (fun ad Xg=>let ⟨o',q,g,_⟩:=hown hb hB ad Xg;⟨o',.inr ⟨⟨q,g⟩,trivial⟩⟩) (hown hb hB) hka p2 Xp FY hsrc hfit hk2
        ·exact hk2.elim
       ·exact hk.elim
      split at hk
      ·rename_i z' bJ fR d1 hab
       split at hk
       ·rename_i MJ
        have MJ:=kD MJ;subst MJ;have hk2:(match fits (rows.length+bJ.length) (C.tt e).bytes with|true=>K (Br d ⟨dp&&d1,z,rows++bJ⟩ fR)|false=> .fail:Ev R).holds cf lp Q:=hk;clear hk
        split at hk2
        ·rename_i hfit
         obtain⟨hz,hka,Kg,X1,Z1,Ad,c,hB⟩:=Nf h hcS hb (M:=if(dp&&d1) then .deep else .snap) (by cases dp<;>cases d1<;>simp);obtain⟨IJ,FZ,X2,Z2,p2,Xp,FY,hsrc⟩:=ak0 hka hB.parts.sub hcX hkx hab (M:=if(dp&&d1) then .deep else .snap) (by cases dp<;>cases d1<;>simp);exact fin (oo:=oo) (dp:=dp&&d1) he hcs (.inr trivial) hsz ⟨hB.val,hB.parts,hB.width,hB.len,hB.le,hB.max,hB.at'⟩ (fun ad Xg=>let ⟨o',q,g,_⟩:=hown hb hB ad Xg;⟨o',.inr ⟨⟨q,g⟩,trivial⟩⟩) (hown hb hB) IJ p2 Xp FY hsrc hfit hk2
        ·exact hk2.elim
       ·exact hk.elim
      ·exact hk.elim
   ·exact hk.elim
  ·exact hk.elim
 ·exact hk.elim
end Go.T
namespace Go.T
variable {F : Nat → Prop} {A : Arg} {w0 w w' : World} {φ φ' φ1 : Fp} {st st' sta fR : TS} {tm Lo : Array Value} {C : pU}
variable {R : Type} {cf : Cf} {lp : Lp} {Q : R → Prop}
theorem Rn {P:Program} {e:TypeId} {z:Nat} {i:TypeInfo} (h:P.info? e=some i) (hz:i.size=z) (w:World):(sizeOf e).run P w= .ok z w:=by
 simp[sizeOf,typeInfo,h,hz]
theorem ak2 {R S:Nat→Prop} {m:Mode} {z:Nat} {rows:List (List TC)} {v:Value} (h:aB w R m S (.sub z rows) v): ∃A c,v= .slice A rows.length c∧(rows≠[]→ ∃ad,A=some ad):=by
 cases h with
 |sub _ _ _ _ A c u T k hn=>exact⟨A,c,rfl,k.addr⟩
def aiO (v:Value):I8:=⟨.sc v,v,fun _=>False⟩
attribute [local semireducible] sQ in
theorem BK (rows bJ:List (List TC)):sQ rows bJ=bJ.take rows.length++rows.drop bJ.length:=rfl
theorem ak3 (hT:iY C) {a:Act} (h:bD F A w0 φ st a.tmps w) {o:Oper} {args:Array Operand} {ts:Array TypeId} (ho:o.op= .call {callee:= .builtin .copy,args,argTypes:=ts}) {K:TS→Ev R} (hd: ∀d,o.dst=some d→d<a.tmps.size) (hk:(sV C st o K).holds cf lp Q):
 Did C F A w0 φ st o a w K cf lp Q:=by
 unfold sV at hk;rw[ho] at hk;simp only at hk
 split at hk
 ·rename_i s x t t' h1 h2
  have e1:args= #[s,x]:=by cases args;simp at h1;subst h1;rfl
  have e2:ts= #[t,t']:=by cases ts;simp at h2;subst h2;rfl
  subst e1 e2;have hsv:=gv hT h t s;have hxv:=gv hT h t' x;unfold amv at hk
  split at hk
  ·rename_i e r cx he hcs hcx
   obtain⟨UP,hcS⟩:=BF hsv hcs;obtain⟨_,hcX⟩:=BF hxv hcx
   split at hk
   ·rename_i z rows z' bJ hl hr hpl
    split at hk
    ·rename_i MJ
     simp only[fk] at MJ;have hz1:=kD MJ.1;have hz2:=kD MJ.2;subst hz1
     have hk2:(match bT bJ with
      |true=>(match o.dst with
       |some d=>K ((yI r ⟨true,z,sQ rows bJ⟩ st).set d (one (.sc (.int .i64 (Int.ofNat (sP bJ.length rows.length))))))
       |none=>K (yI r ⟨true,z,sQ rows bJ⟩ st))
      |false=> .fail:Ev R).holds cf lp Q:=hk
     clear hk
     split at hk2
     ·rename_i hsc
      have hin:aT st.ob r:=⟨_,hl⟩;obtain⟨b0,hb0,hv0⟩:=hcS;rw[hl] at hb0
      cases hb0
      have hv0:a.eval s=φ.V r:=hv0;have hO:aB w φ.I .deep (φ.S r) (.sub z rows) (φ.V r):=h.obj r _ hl;obtain⟨Ad,c,eP,op⟩:=hO.opened;obtain⟨DG,_⟩:=wh h hcX hr;obtain⟨vs,l1,zp,hz,hcell,Xq⟩:=DG.vals;obtain⟨A',c',hxval,hA'⟩:=ak2 DG;obtain⟨hkn,hnp⟩:=DX hpl;obtain⟨i,zv,g1,g2,_⟩:=(hT e hkn).info
      have isz:i.size=z:=by rw[g2,hz2]
      have hU:=(zY hT he).1
      have lits:eP.length=rows.length*z:=by
       have:=congrArg List.length op.tcs;rw[dD op.width,ct] at this;exact this.symm
      obtain⟨us,hus⟩: ∃us,us=vs.take (rows.length*z):=⟨_,rfl⟩
      have lus:us.length=sP bJ.length rows.length*z:=by
       rw[hus,fu,l1];rcases Nat.le_total bJ.length rows.length with hle|hle
       ·have:=qx z hle
        rw[show sP bJ.length rows.length=bJ.length from Nat.min_eq_left hle];omega
       ·have:=qx z hle
        rw[show sP bJ.length rows.length=rows.length from Nat.min_eq_right hle];omega
      have usS: ∀v∈vs,RO v:=fun v hv=>by
       obtain⟨j,hj,rfl⟩:=List.mem_iff_getElem.1 hv;obtain⟨tc,htc⟩: ∃tc,bJ.flatten[j]?=some tc:=⟨_,cw (by rw[dD zp,←l1];exact hj)⟩;obtain⟨T,hT⟩:=Xq j tc _ htc (cw hj);obtain⟨v',rfl⟩:=Vj hsc j tc htc
       cases hT with
       |sc _ _ _ hs=>exact hs
      have tcV:bJ.flatten=vs.map .sc:=by
       apply List.ext_getElem
       ·rw[dD zp,ct,l1]
       ·intro j h1 h2
        rw[List.getElem_map];have htc:bJ.flatten[j]?=some bJ.flatten[j]:=cw h1
        have hj':j<vs.length:=by rw[ct] at h2;exact h2
        have hvs:vs[j]?=some vs[j]:=cw hj';obtain⟨T,hT⟩:=Xq j _ _ htc hvs;obtain⟨v',hv'⟩:=Vj hsc j _ htc;rw[hv'] at hT ⊢
        cases hT with
        |sc _ _ _ hs=>rfl
      have one1: ∀v∈us,v.oneCell'=true:=fun v hv=>by
       have:=usS v (by rw[hus] at hv;exact Bv hv)
       cases v<;>first|rfl|cases this
      have akp: ∀W:World,(∀x,W.cell? x=w.cell? x)→(Builtin.firstCells z (sP bJ.length rows.length) (.slice A' bJ.length c')).run C.P W= .ok us.toArray W:=fun W hW=>by
       by_cases hne:bJ=[]
       ·have h0:us=[]:=DK (by rw[lus,hne];simp)
        subst h0;subst hne
        cases A' with
        |none=>simp[Builtin.firstCells]
        |some ad=>exact run_firstCells_some W z _ ad _ c' [] dh (fun j v hj=>by simp at hj)
       ·obtain⟨ad,rfl⟩:=hA' hne
        refine run_firstCells_some W z _ ad _ c' us lus fun j v hj=> ?_;rw[hW];refine hcell ad _ _ hxval j v ?_;rw[hus,DL] at hj
        split at hj
        ·exact hj
        ·cases hj
      have amn:(sQ rows bJ).length=rows.length:=by
       rw[BK,cM,fu,jd];omega
      have fin: ∀w',(Builtin.copy_ #[t,t'] o.type #[a.eval s,a.eval x]).run C.P w= .ok (goInt (sP bJ.length rows.length)) w'→bD F A w0 (φ.add r (φ.S r) (φ.V r)) (yI r ⟨true,z,sQ rows bJ⟩ st) a.tmps w'→w.heap.size≤w'.heap.size→(∀k,k<w.heap.size→ ¬φ.S r k→w'.heap[k]?=w.heap[k]?)→Did C F A w0 φ st o a w K cf lp Q:=fun w' hrun Bn hsz hfr=>by
       have run:(execOp a.eval o).run C.P w= .ok (.value (goInt (sP bJ.length rows.length))) w':=by
        rw[yo ho];simp only[builtin,Sem.run_bind]
        have:(#[s,x].map a.eval)= #[a.eval s,a.eval x]:=by simp
        rw[this,hrun]
        rfl
       have wr: ∀k,k<w.heap.size→ ¬Wr st φ (writes C st o) k→w'.heap[k]?=w.heap[k]?:=fun k hk hn=>hfr k hk fun hS=>hn (.inr ⟨r,by
        unfold writes;rw[ho];simp only;refine List.mem_map.2 ⟨r,?_,rfl⟩
        revert hcs
        cases xq C st t s with
        |v tup es=>
         unfold Bq
         split
         ·rename_i e0 e1
          intro g1
          cases g1
          simp only[TE.v.injEq] at e1;obtain⟨rfl,rfl⟩:=e1;exact .head _
         ·intro g1;cases g1
         ·intro g1;cases g1
        |_=>intro g1;simp[Bq] at g1,hin,hS⟩)
       cases nX:o.dst with
       |none=>
        rw[nX] at hk2;exact⟨_,goInt (sP bJ.length rows.length),w',_,run,.inl rfl,by rw[nX];exact⟨_,Bn⟩,hk2,hsz,wr⟩
       |some d=>
        rw[nX] at hk2;refine⟨_,goInt (sP bJ.length rows.length),w',_,run,.inl rfl,?_,hk2,hsz,wr⟩;rw[nX];exact⟨_,Bn.Xw (v:=goInt (sP bJ.length rows.length)) (hd d nX) ⟨_,rfl,_,rfl,rfl,rfl,trivial⟩⟩
      have hX:=fun k hk=>h.sep.fresh r k hin hk
      cases Xg:Ad with
      |none=>
       have hc0:=op.none Xg;have hle:=op.le;have hr0:rows=[]:=DK an
       have IK:sQ rows bJ=rows:=by rw[BK,hr0];simp
       refine fin w ?_ ?_ (de _) fun _ _ _=>rfl
       ·rw[hv0,op.val,Xg,hxval]
        simp only[Builtin.copy_,Builtin.lenOf];simp[run_underlying hU,Rn g1 isz,akp w fun _=>rfl]
       ·refine h.yI hl rfl amn ?_ h.frm (de _) (fun _ _ _=>rfl) hX (fun k hk=>h.sep.read r k hin hk) (fun k d hk hne hd hs=>hne (h.sep.apart d r k hd hin hs hk)) (fun b cs Ra hw hk=>(h.sep.box b cs Ra hw).2.1 r hin hk)
        show aB w φ.I .deep (φ.S r) (.sub z (sQ rows bJ)) (φ.V r);rw[IK];exact hO
      |some ad=>
       obtain⟨hS1,hsp,⟨sp,IJ,Kh⟩,hfz,hso⟩:=op.row ad Xg;obtain⟨b,off,spot⟩:=ad
       cases hsp
       simp only at IJ Kh hfz hso hS1;have hle:=op.le;have elc:=qx z hle
       have lmin:us.length≤rows.length*z:=by rw[lus];exact qx z (Nat.min_le_right _ _)
       have lL:(eP.map (·.val)++sp).length=c*z:=Kh;have hst:=run_storeCells_cells (P:=C.P) b off us 0 w (fun j hj=>by rw[xz,IJ j _ (cw an)];rfl) (fun j hj=>by rw[xz];exact hfz j an) one1;rw[xz] at hst;have r2:=IJ.put (p:=0) (us:=us) an;rw[xz,List.take_zero,xy,nB] at r2
       have hnew:vN (w.setCells b off us) (φ.S r) z (sQ rows bJ) (φ.V r) Ad c (us.map aiO++eP.drop (bJ.length*z)):=by
        have amR:(us.map aiO++eP.drop (bJ.length*z)).map (·.val)=us++(eP.map (·.val)).drop (bJ.length*z):=by
         rw[ux,List.map_map,DN]
         congr 1
         have:((fun t:I8=>t.val)∘aiO)=id:=rfl;rw[this,List.map_id]
        have amS:(eP.map (·.val)++sp).drop us.length=(eP.map (·.val)).drop (bJ.length*z)++sp:=by
         rcases Nat.le_total bJ.length rows.length with hq|hq
         ·have:=qx z hq
          rw[lus,show sP bJ.length rows.length=bJ.length from Nat.min_eq_left hq,List.drop_append_of_le_length (by rw[ct];omega)]
         ·have:=qx z hq
          rw[lus,show sP bJ.length rows.length=rows.length from Nat.min_eq_right hq,List.drop_append_of_le_length (by rw[ct];omega),Rc (by rw[ct];omega),Rc (by rw[ct];omega)]
        refine⟨by rw[amn];exact op.val,by rw[amn];exact op.le,op.cap,op.z0,fun q hq=> ?_,?_,fun t ht=> ?_,?_,fun t ht k hk=> ?_,op.none,fun ad e=> ?_⟩
        ·rw[BK] at hq
         rcases List.mem_append.1 hq with hq|hq
         ·exact zp q (Bv hq)
         ·exact op.width q (zg hq)
        ·rw[BK,ZI,Fg zp,Fh op.width,op.tcs,tcV,←IM,←hus,ux,List.map_map,DN]
         rfl
        ·rcases List.mem_append.1 ht with ht|ht
         ·obtain⟨v,hv,rfl⟩:=List.mem_map.1 ht
          exact .sc _ _ _ (usS v (by rw[hus] at hv;exact Bv hv))
         ·have hm:=zg ht
          refine(op.ok t hm).move (fun k hk=>hk.elim) fun _ k hk=> ?_;have hs:=op.sub t hm k hk;exact iA _ _ _ _ (hX k hs.1).1 (hs.2 _ Xg)
        ·refine List.pairwise_append.2 ⟨?_,(op.sO.sublist (List.drop_sublist _ _)),fun x hx y hy k hk=> ?_⟩
         ·rw[List.pairwise_map]
          exact List.pairwise_of_forall fun _ _ k hk=>hk.elim
         ·obtain⟨v,hv,rfl⟩:=List.mem_map.1 hx
          exact hk.elim
        ·rcases List.mem_append.1 ht with ht|ht
         ·obtain⟨v,hv,rfl⟩:=List.mem_map.1 ht
          exact hk.elim
         ·exact op.sub t (zg ht) k hk
        ·rw[Xg] at e
         cases e
         refine⟨hS1,rfl,⟨sp,?_,?_⟩,fun j hj=> ?_,fun hz1 j=> ?_⟩
         ·rw[amR,Ac,←amS];exact r2
         ·rw[amR,Ac,←amS,cM,jd];omega
         ·rw[show(w.setCells b off us).frozen? ⟨b,off+j,none⟩=w.frozen? ⟨b,off+j,none⟩ from World.frozen?_setCells b us off w _];exact hfz j hj
         ·rw[show(w.setCells b off us).frozen? ⟨b,j,none⟩=w.frozen? ⟨b,j,none⟩ from World.frozen?_setCells b us off w _];exact hso hz1 j
       have hsz:=(oC b us off w).2.2.2;refine fin (w.setCells b off us) ?_ ?_ (by rw[hsz];exact de _) fun k hk hn=>iA _ _ _ _ hk fun e=>hn (by rw[e];exact hS1)
       ·rw[hv0,op.val,Xg,hxval]
        simp only[Builtin.copy_,Builtin.lenOf];simp[run_underlying hU,Rn g1 isz,akp w fun _=>rfl,hst]
       ·refine h.yI hl rfl amn hnew.rep (h.frm.setCells (hX b hS1).2) (by rw[hsz];exact de _) (fun k hk hn=>iA _ _ _ _ hk fun e=>hn (by rw[e];exact hS1)) (fun k hk=>by rw[hsz];exact hX k hk) (fun k hk=>h.sep.read r k hin hk) (fun k d hk hne hd hs=>hne (h.sep.apart d r k hd hin hs hk)) (fun b' cs Ra hw hk=>(h.sep.box b' cs Ra hw).2.1 r hin hk)
     ·exact hk2.elim
    ·exact hk.elim
   ·exact hk.elim
  ·exact hk.elim
 ·exact hk.elim
end Go.T
