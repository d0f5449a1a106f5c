import Derived.Test.YtlkjkfidmkdchaaT3
import Derived.OrdersHeld
set_option linter.all false
namespace Go.T
variable {F : Nat → Prop} {A : Arg} {w0 w w' : World} {φ φ' : Fp} {st st' sta bh eZ : TS} {tm qc : Array Value} {C : dW}
variable {R : Type} {cf : Cf} {lp : Lp} {Q : R → Prop}
theorem qp: ∀{l:List Nat},qg l=true↔l.Nodup
 |[]=>by simp[qg]
 |a::r=>by
  simp only[qg,List.nodup_cons]
  cases h:dx a r with
  |true=>simp[c8.1 h]
  |false=>simp only[qp (l:=r)];have:=bC.1 h;simp[this]
def sA (w:World) (φ:Fp) (st:TS) (o:Nat) (i:Int) (f:Nat) (T0:Nat→Prop):Prop:=
 ∀b ad n c tc v,aa o st.ob=some b→b.deep=true→φ.V o= .slice (some ad) n c→kO b.rows i.toNat f=some tc→w.cell? (ad.add (i.toNat*b.z+f))=some v→
  ah w φ.I .deep T0 tc v∧(∀k,T0 k→φ.S o k)∧ ∀(w':World) (tc':TC) (Rd' T1:Nat→Prop),ah w' Rd' .deep T1 tc' v→(∀k,φ.S o k→ ¬T0 k→w'.heap[k]?=w.heap[k]?)→(∀k,T1 k→T0 k∨ ¬φ.S o k)→
   ah w' Rd' .deep (fun k=>(φ.S o k∧ ¬T0 k)∨T1 k) (.sub b.z (ga b.rows i.toNat f [tc'])) (φ.V o)
theorem FN (h:ak F A w0 φ st tm w) (o:Nat) (i:Int) (f:Nat): ∃T0,sA w φ st o i f T0:=by
 by_cases hx: ∃b ad n c tc v,aa o st.ob=some b∧b.deep=true∧φ.V o= .slice (some ad) n c∧kO b.rows i.toNat f=some tc∧w.cell? (ad.add (i.toNat*b.z+f))=some v
 ·obtain⟨b,ad,n,c,tc,v,h1,h2,h3,h4,h5⟩:=hx
  have hO:=h.obj o b h1;unfold eE at hO;rw[h3] at hO
  have hm:b.m= .deep:=by unfold OB.m;rw[h2];rfl
  rw[hm] at hO;obtain⟨V1,T0,v1,v2,v3,_,v5⟩:=ah.inner hO h4;refine⟨T0,fun b' ad' n' c' tc' v' g1 g2 g3 g4 g5=> ?_⟩;rw[h1] at g1;cases g1;rw[h3] at g3;cases g3;rw[h4] at g4;cases g4;rw[h5] at g5;cases g5;rw[h5] at v1;cases v1;refine⟨v2,fun k hk=>(v3 k hk).1,fun w' tc' Rd' T1 k1 k2 k3=> ?_⟩;rw[h3];exact(v5 w' tc' T1 (k1.pU rfl) k2 k3).pU rfl
 ·exact⟨r6,fun b ad n c tc v h1 h2 h3 h4 h5=>absurd ⟨b,ad,n,c,tc,v,h1,h2,h3,h4,h5⟩ hx⟩
noncomputable def FO (w:World) (φ:Fp) (st:TS) (o:Nat) (i:Int) (f:Nat):Nat→Prop:=Classical.epsilon (sA w φ st o i f)
theorem sC (h:ak F A w0 φ st tm w) (o:Nat) (i:Int) (f:Nat):sA w φ st o i f (FO w φ st o i f):=Classical.epsilon_spec (FN h o i f)
noncomputable def ji (w:World) (φ:Fp) (st:TS) (e:CE):Nat→Prop:=match e with
 | .ref o _=>φ.S o
 | .snap _ (some (o,i,f)) _ _=>FO w φ st o i f
 |_=>r6
def dm:CE→Option Nat
 | .ref o _=>some o
 | .snap _ (some (o,_,_)) _ _=>some o
 |_=>none
theorem oB {o:Nat} (h:kL st o=true): ∃z rows,aa o st.ob=some ⟨true,z,rows⟩:=by
 unfold kL at h
 split at h
 ·rename_i z rows hl;exact⟨z,rows,hl⟩
 ·cases h
def FP (st:TS) (c:Bool) (e:CE):Prop:=match e with
 | .sc _=>True
 | .nil _=>True
 | .ref o none=>kL st o=true
 | .ref o (some _)=>c=true∧kL st o=true
 | .snap _ (some (o,_,_)) _ _=>c=false∧kL st o=true
 |_=>False
def D6 (e:CE):Prop:=match e with
 | .sc _=>True
 | .nil _=>True
 | .snap [] none _ _=>True
 |_=>False
def Df (st:TS) (e:CE):Prop:=match e with
 | .sc _=>True
 | .nil _=>True
 | .ref o none=>si st o=true
 |_=>False
def pW (st:TS) (c:Bool) (m:Mode) (e:CE):Prop:=(m= .snap∧D6 e)∨(m= .deep∧FP st c e)∨(m= .top∧Df st e)
def Hw (st:TS) (c:Bool) (e:CE):Prop:=match e with
 | .sc _=>True
 | .nil _=>True
 | .ref _ none=>True
 | .ref _ (some _)=>c=true
 | .snap _ (some (o,_,_)) _ _=>c=false∧kL st o=true
 |_=>False
theorem D7 {o:Nat} (h:si st o=true): ∃z rows,aa o st.ob=some ⟨false,z,rows⟩:=by
 unfold si at h
 split at h
 ·rename_i z rows hl;exact⟨z,rows,hl⟩
 ·cases h
theorem D6.key {e:CE} (h:D6 e):dm e=none:=by
 unfold D6 at h
 split at h<;>first|rfl|exact h.elim
theorem pW.key {c:Bool} {m:Mode} {e:CE} {o:Nat} (h:pW st c m e) (hk:dm e=some o):Hw st c e:=by
 rcases h with⟨_,h⟩|⟨_,h⟩|⟨_,h⟩
 ·rw[h.key] at hk;cases hk
 ·unfold FP at h
  unfold Hw
  split at h<;>first|trivial|exact h.1|exact h|exact h.elim
 ·unfold Df at h
  unfold Hw
  split at h<;>first|trivial|exact h.elim
def D8 (ms:List Mode) (j:Nat):Mode:=(ay.inout ms).mc j
theorem vq (ms:List Mode):D8 ms 0=ms.headD .deep:=by cases ms<;>rfl
theorem AJ (ms:List Mode) (j:Nat):D8 ms (j+1)=D8 (ms.drop 1) j:=by cases ms<;>rfl
structure oC (st:TS) (c:Bool) (ms:List Mode) (cs:List CE) (l:List Nat):Prop where
 one: ∀(j:Nat) (e:CE),cs[j]?=some e→pW st c (D8 ms j) e∧ ∀o,dm e=some o→2*o∈l
 mem: ∀x∈l,∃o,x=2*o∧ ∃(j:Nat) (e:CE),cs[j]?=some e∧dm e=some o
 uniq:l.Nodup→ ∀(j j':Nat) (e e':CE) (o:Nat),cs[j]?=some e→cs[j']?=some e'→dm e=some o→dm e'=some o→j=j'
theorem oC.plain {c:Bool} {ms:List Mode} {e0:CE} {r:List CE} {l:List Nat} (ih:oC st c (ms.drop 1) r l) (ho:pW st c (D8 ms 0) e0) (hk:dm e0=none):oC st c ms (e0::r) l:=by
 refine⟨fun j e he=> ?_,fun x hx=> ?_,fun hn j j' e e' o he he' tE hk2=> ?_⟩
 ·cases j with
  |zero=>simp only[bG,aI] at he;subst he;exact⟨ho,fun o h=>by rw[hk] at h;cases h⟩
  |succ j=>rw[AJ];exact ih.one j e (by simpa using he)
 ·obtain⟨o,a1,j,e,a2,a3⟩:=ih.mem x hx
  exact⟨o,a1,j+1,e,by simpa using a2,a3⟩
 ·cases j with
  |zero=>simp only[bG,aI] at he;subst he;rw[hk] at tE;cases tE
  |succ j=>
   cases j' with
   |zero=>simp only[bG,aI] at he';subst he';rw[hk] at hk2;cases hk2
   |succ j'=>rw[ih.uniq hn j j' e e' o (by simpa using he) (by simpa using he') tE hk2]
theorem oC.keyed {c:Bool} {ms:List Mode} {e0:CE} {r:List CE} {l0:List Nat} (ih:oC st c (ms.drop 1) r l0) {o0:Nat} (ho:pW st c (D8 ms 0) e0) (hk:dm e0=some o0):oC st c ms (e0::r) ((2*o0)::l0):=by
 refine⟨fun j e he=> ?_,fun x hx=> ?_,fun hn j j' e e' o he he' tE hk2=> ?_⟩
 ·cases j with
  |zero=>simp only[bG,aI] at he;subst he;exact⟨ho,fun o h=>by rw[hk] at h;cases h;exact .head _⟩
  |succ j=>rw[AJ];obtain⟨a,b⟩:=ih.one j e (by simpa using he);exact⟨a,fun o h=> .tail _ (b o h)⟩
 ·rcases bg.1 hx with rfl|hx
  ·exact⟨o0,rfl,0,e0,rfl,hk⟩
  ·obtain⟨o,a1,j,e,a2,a3⟩:=ih.mem x hx
   exact⟨o,a1,j+1,e,by simpa using a2,a3⟩
 ·have hn':=List.nodup_cons.1 hn
  cases j with
  |zero=>
   simp only[bG,aI] at he;subst he;rw[hk] at tE;cases tE
   cases j' with
   |zero=>rfl
   |succ j'=>exact absurd ((ih.one j' e' (by simpa using he')).2 _ hk2) hn'.1
  |succ j=>
   cases j' with
   |zero=>
    simp only[bG,aI] at he';subst he';rw[hk] at hk2;cases hk2;exact absurd ((ih.one j e (by simpa using he)).2 _ tE) hn'.1
   |succ j'=>rw[ih.uniq hn'.2 j j' e e' o (by simpa using he) (by simpa using he') tE hk2]
theorem jX {c:Bool}: ∀{ms:List Mode} {cs:List CE} {l:List Nat},gK st c ms cs=some l→oC st c ms cs l
 |ms,[],l,h=>by
  have h:l=[]:=by cases ms<;>(cases h;rfl)
  subst h;exact⟨fun j e he=>by simp at he,fun x hx=>(by cases hx),fun _ j j' e e' o he=>by simp at he⟩
 |ms,e0::r,l,h=>by
  simp only[gK] at h
  cases hr:gK st c (ms.drop 1) r with
  |none=>rw[hr] at h;cases h
  |some l0=>
   rw[hr] at h;have ih:=jX hr
   by_cases hm:ms.headD .deep= .snap
   ·have hz:D8 ms 0= .snap:=by rw[vq,hm]
    rw[hm] at h
    have pl:D6 e0→l0=l→oC st c ms (e0::r) l:=fun hf e=>by
     subst e;exact ih.plain (.inl ⟨hz,hf⟩) hf.key
    cases e0 with
    |sc v=>cases h;exact pl trivial rfl
    |nil z=>cases h;exact pl trivial rfl
    |snap ds loc z rows=>
     cases ds with
     |nil=>cases loc with
      |none=>cases h;exact pl trivial rfl
      |some q=>cases h
     |cons d ds=>cases h
    |_=>cases h
   ·by_cases ht:ms.headD .deep= .top
    ·have hz:D8 ms 0= .top:=by rw[vq,ht]
     rw[ht] at h
     cases e0 with
     |sc v=>cases h;exact ih.plain (.inr (.inr ⟨hz,trivial⟩)) rfl
     |nil z=>cases h;exact ih.plain (.inr (.inr ⟨hz,trivial⟩)) rfl
     |ref o cut=>
      cases cut with
      |none=>
       have h:(match si st o with|true=>some ((2*o)::l0)|false=>none)=some l:=h
       cases hd:si st o with
       |false=>rw[hd] at h;cases h
       |true=>rw[hd] at h;cases h;exact ih.keyed (o0:=o) (.inr (.inr ⟨hz,hd⟩)) rfl
      |some q=>cases h
     |snap ds loc z rows=>cases ds<;>cases loc<;>cases h
     |gone=>cases h
    ·have hd':ms.headD .deep= .deep:=by revert hm ht;cases ms.headD .deep<;>simp
     have hz:D8 ms 0= .deep:=by rw[vq,hd']
     rw[hd'] at h
     cases e0 with
     |sc v=>cases h;exact ih.plain (.inr (.inl ⟨hz,trivial⟩)) rfl
     |nil z=>cases h;exact ih.plain (.inr (.inl ⟨hz,trivial⟩)) rfl
     |ref o cut=>
      cases cut with
      |none=>
       have h:(match kL st o with|true=>some ((2*o)::l0)|false=>none)=some l:=h
       cases hd:kL st o with
       |false=>rw[hd] at h;cases h
       |true=>rw[hd] at h;cases h;exact ih.keyed (o0:=o) (.inr (.inl ⟨hz,hd⟩)) rfl
      |some q=>
       cases c with
       |false=>cases h
       |true=>
        have h:kL st o=true∧some ((2*o)::l0)=some l:=by
         simp only at h;split at h<;>first|exact⟨by assumption,h⟩|cases h
        obtain⟨hd,h⟩:=h
        cases h
        exact ih.keyed (o0:=o) (.inr (.inl ⟨hz,rfl,hd⟩)) rfl
     |snap ds loc z rows=>
      cases loc with
      |none=>cases ds<;>cases h
      |some q=>
       obtain⟨o,i,f⟩:=q
       cases c with
       |true=>cases ds<;>cases h
       |false=>
        have h:kL st o=true∧some ((2*o)::l0)=some l:=by
         cases ds<;>(simp only at h;split at h<;>first|exact⟨by assumption,h⟩|cases h)
        obtain⟨hd,h⟩:=h
        cases h
        exact ih.keyed (o0:=o) (.inr (.inl ⟨hz,rfl,hd⟩)) rfl
     |gone=>cases h
theorem eg: ∀{cs:List CE} {ts:List TC},jm st cs=some ts→ts.length=cs.length∧ ∀(j:Nat) (c:TC),ts[j]?=some c→ ∃e,cs[j]?=some e∧mQ st e=some c
 |[],ts,h=>by cases h;exact⟨rfl,fun j c hj=>by simp at hj⟩
 |e::r,ts,h=>by
  simp only[jm] at h
  split at h
  ·rename_i c cs' h1 h2
   cases h
   obtain⟨g1,g2⟩:=eg h2;refine⟨by simp[g1],fun j c' hj=> ?_⟩
   cases j with
   |zero=>simp only[bG,aI] at hj;subst hj;exact⟨e,rfl,h1⟩
   |succ j=>obtain⟨e',a,b⟩:=g2 j c' (by simpa using hj);exact⟨e',by simpa using a,b⟩
  ·cases h
theorem sD (h:ak F A w0 φ st tm w) {e:CE} {v:Value} (he:aW st.ob w φ e v) {c:TC} (hc:mQ st e=some c):ah w (rd φ (bY e)) .snap r6 c v∧ ∀d∈bY e,d=0∨aj st.ob d:=by
 unfold mQ at hc
 split at hc
 ·cases hc
  obtain⟨rfl,hs⟩:=he;exact⟨.sc _ _ _ hs,fun d hd=>by cases hd⟩
 ·split at hc
  ·rename_i z rows hr
   cases hc
   exact gv h he hr
  ·cases hc
theorem FQ (h:ak F A w0 φ st tm w) {e:CE} {v:Value} (he:aW st.ob w φ e v) {c:TC} (hc:mQ st e=some c) {cb:Bool} (ho:FP st cb e) {Rd:Nat→Prop}:ah w Rd .deep (ji w φ st e) c v∧(∀k,ji w φ st e k→ ∃o,dm e=some o∧aj st.ob o∧φ.S o k):=by
 cases e with
 |sc x=>cases hc;obtain⟨rfl,hs⟩:=he;exact⟨.sc _ _ _ hs,fun k hk=>hk.elim⟩
 |nil z=>cases hc;obtain⟨rfl,hz⟩:=he;exact⟨kT hz,fun k hk=>hk.elim⟩
 |ref o cut=>
  have hd:kL st o=true:=by cases cut with
   |none=>exact ho
   |some _=>exact ho.2
  obtain⟨z,rows,hl⟩:=oB hd;obtain⟨b,h1,h2⟩:=he;rw[hl] at h1;cases h1;simp only[mQ,eO,hl] at hc
  cases hc
  exact⟨(eE.cut (h.obj o _ hl) h2:ah w φ.I .deep (φ.S o) _ _).pU rfl,fun k hk=>⟨o,rfl,⟨_,hl⟩,hk⟩⟩
 |snap ds loc z rows=>
  cases loc with
  |none=>exact ho.elim
  |some q=>
   obtain⟨o,i,f⟩:=q;obtain⟨z0,e8,hl⟩:=oB ho.2;obtain⟨h1,h2,h3⟩:=he;obtain⟨_,b,g1,g2,g3,ad,n,c',g4,g5⟩:=h3 o i f rfl;rw[hl] at g1;cases g1;simp only[mQ,eO] at hc
   cases hc
   obtain⟨k1,k2,_⟩:=sC h o i f _ ad n c' _ v hl rfl g4 g3 g5;exact⟨k1.pU rfl,fun k hk=>⟨o,rfl,⟨_,hl⟩,k2 k hk⟩⟩
 |gone=>exact ho.elim
def oD (φ:Fp) (st:TS) (dX:List Nat) (k:Nat):Prop:=φ.I k∨ ∃o,2*o∈dX∧(o=0∨aj st.ob o)∧φ.S o k
def wX (φ:Fp) (st:TS) (dX:List Nat) (k:Nat):Prop:=oD φ st dX k∨ ∃b cs,2*b+1∈dX∧aa b st.bx=some cs∧k=(φ.β b).block
theorem rg_of {ds dX:List Nat} (hd: ∀d∈ds,d=0∨aj st.ob d) (hr: ∀d∈ds,2*d∈dX) {k:Nat} (hk:rd φ ds k):oD φ st dX k:=by
 rcases hk with hk|⟨d,hm,hk⟩
 ·exact .inl hk
 ·exact .inr ⟨d,hr d hm,hd d hm,hk⟩
theorem xT (h:ak F A w0 φ st tm w) {b:Nat} {cs:List CE} (hb:aa b st.bx=some cs) {off:Nat} {ts:List TC} (hc:jm st (cs.drop off)=some ts) {dX:List Nat} (hr: ∀d∈mT st b,d∈dX):
 wX φ st dX (φ.β b).block∧ ∀(j:Nat) (c:TC),ts[j]?=some c→ ∃u,w.cell? (((φ.β b).add off).add j)=some u∧ah w (oD φ st dX) .snap r6 c u:=by
 have hbd:mT st b=(2*b+1)::(cs.flatMap bY).map (2* ·):=by unfold mT;rw[hb]
 rw[hbd] at hr;refine⟨.inr ⟨b,cs,hr _ (.head _),hb,rfl⟩,fun j c hj=> ?_⟩;obtain⟨e,he,hce⟩:=(eg hc).2 j c hj;rw[gn] at he;obtain⟨u,u1,u2,u3⟩:=h.box b cs hb _ e he;obtain⟨k1,k2⟩:=sD h u3 hce;refine⟨u,by rw[Addr.add_add];exact u1,k1.fK fun k hk=>rg_of k2 (fun d hd=>hr _ (.tail _ (List.mem_map.2 ⟨d,List.mem_flatMap.2 ⟨e,c6 he,hd⟩,rfl⟩))) hk⟩
theorem vr: ∀{caps:List Nat} {xs:List (List TC)},yL st caps=some xs→xs.length=caps.length∧ ∀(i:Nat) (ts:List TC),xs[i]?=some ts→ ∃b cs,caps[i]?=some b∧aa b st.bx=some cs∧jm st cs=some ts
 |[],xs,h=>by cases h;exact⟨rfl,fun i ts hi=>by simp at hi⟩
 |b::r,xs,h=>by
  simp only[yL] at h
  split at h
  ·rename_i cs hb
   split at h
   ·rename_i c cs' h1 h2
    cases h
    obtain⟨g1,g2⟩:=vr h2;refine⟨by simp[g1],fun i ts hi=> ?_⟩
    cases i with
    |zero=>simp only[bG,aI] at hi;subst hi;exact⟨b,cs,rfl,hb,h1⟩
    |succ i=>obtain⟨b',cs',a,b'',c⟩:=g2 i ts (by simpa using hi);exact⟨b',cs',by simpa using a,b'',c⟩
   ·cases h
  ·cases h
theorem Cb (h:ak F A w0 φ st tm w) {e:TE} {x:Value} (ht:aQ st.ob w φ e x) {dX:List Nat} (hr: ∀d∈gJ st e,d∈dX) {X:Nat→Nat→Prop} {Y:Nat→Prop} {K:TV→Ev R} (hk:(E1 st e K).holds cf lp Q):
 ∃v,mh w .borrow (oD φ st dX) (wX φ st dX) X Y v x∧(K v).holds cf lp Q:=by
 have cells: ∀{cs:List CE} {ts:List TC} {xs:Array Value},jm st cs=some ts→(∀d∈cs.flatMap bY,2*d∈dX)→(∀(j:Nat) (e:CE),cs[j]?=some e→ ∃y,xs[j]?=some y∧y.cells= #[y]∧aW st.ob w φ e y)→
  ∀(j:Nat) (c:TC),ts[j]?=some c→ ∃u,xs[j]?=some u∧ ∀X:Nat→Prop,ah w (oD φ st dX) .snap X c u:=fun {cs ts xs} hc hd hx j c hj=>by
  obtain⟨e,he,hce⟩:=(eg hc).2 j c hj;obtain⟨y,y1,_,y3⟩:=hx j e he;obtain⟨k1,k2⟩:=sD h y3 hce;exact⟨y,y1,fun X=>k1.fK fun k hk=>rg_of k2 (fun d hd'=>hd d (List.mem_flatMap.2 ⟨e,c6 he,hd'⟩)) hk⟩
 unfold E1 at hk
 split at hk
 ·rename_i ag cs
  obtain⟨c0,e0,ht⟩:=ht
  cases e0
  have DK: ∀d∈cs.flatMap bY,2*d∈dX:=fun d hd=>hr _ (List.mem_map.2 ⟨d,by simp only[cC,iL];exact hd,rfl⟩)
  split at hk
  ·rename_i ts hc
   split at hk
   ·obtain⟨xs,rfl,hsz,hx⟩:=ht
    refine⟨.ag ts,⟨xs,rfl,by rw[(eg hc).1];exact hsz,fun j c hj=> ?_⟩,hk⟩;obtain⟨u,u1,u2⟩:=cells hc DK hx j c hj;exact⟨u,u1,u2 _⟩
   ·rename_i c
    obtain⟨e1,rfl,hv,hce⟩:=ht
    obtain⟨u,u1,u2⟩:=cells (xs:= #[x]) hc DK (fun j e he=>by
     cases j with
     |zero=>simp only[bG,aI] at he;subst he;exact⟨x,rfl,hv,hce⟩
     |succ j=>simp at he) 0 c rfl
    have:x=u:=by simpa using u1
    subst this;exact⟨.c c,u2 _,hk⟩
   ·exact hk.elim
  ·exact hk.elim
 ·rename_i b
  have ht:x= .bool b:=ht;exact⟨.c (.sc (.bool b)),(by rw[ht];exact .sc _ _ _ trivial:ah w (oD φ st dX) (ay.borrow.mc 0) (X 0) (.sc (.bool b)) x),hk⟩
 ·rename_i b off
  have ht:x= .pointer (some ((φ.β b).add off)):=ht
  split at hk
  ·rename_i cs hb
   split at hk
   ·rename_i ts hc
    obtain⟨b1,b2⟩:=xT h hb hc (dX:=dX) hr;refine⟨.bx ts,⟨_,ht,by rw[aK];exact(h.sep.spot b cs hb).2.1,fun _=>by rw[aK];exact b1,fun hn=>absurd rfl hn,fun j c hj=> ?_⟩,hk⟩;obtain⟨u,u1,u2⟩:=b2 j c hj;exact⟨u,u1,u2.fK fun _ h=>h⟩
   ·exact hk.elim
  ·exact hk.elim
 ·rename_i ds c0 J9
  obtain⟨hd,ad,hv,hb,hc⟩:=ht;have LX: ∀{k},rd φ ds k→oD φ st dX k:=fun hk=>rg_of hd (fun d hm=>hr _ (List.mem_map.2 ⟨d,hm,rfl⟩)) hk;have LY:=hb cY;refine⟨.bx _,⟨ad,hv,h.sep.Ju h.frm.size hd LY,fun _=> .inl (LX LY),fun hn=>absurd rfl hn,fun j c hj=> ?_⟩,hk⟩;obtain⟨u,u1,u2⟩:=hc j c hj;exact⟨u,u1,u2.fK fun k hk=>LX hk⟩
 ·rename_i r p i f
  obtain⟨b0,hb0,_⟩:=id ht;obtain⟨ad,J9,hv,hb,hc,hk,_⟩:=u9 h.obj ht hk
  have hd: ∀d∈[r],d=0∨aj st.ob d:=fun d hm=>by simp only[dw] at hm;subst hm;exact .inr ⟨_,hb0⟩
  have LX: ∀{k},rd φ [r] k→oD φ st dX k:=fun hk=>rg_of hd (fun d hm=>hr _ (by simp only[dw] at hm;subst hm;exact .head _)) hk
  split at hk
  ·exact hk.elim
  ·rename_i c1 NR
   have LY:=hb cY;refine⟨.bx _,⟨ad,hv,h.sep.Ju h.frm.size hd LY,fun _=> .inl (LX LY),fun hn=>absurd rfl hn,fun j c hj=> ?_⟩,hk⟩;obtain⟨u,u1,u2⟩:=hc j c hj;exact⟨u,u1,u2.fK fun k hk=>LX hk⟩
 ·rename_i f caps
  have ht:x= .func (.func f) #[] (caps.map fun b=>Value.pointer (some (φ.β b))).toArray:=ht
  split at hk
  ·rename_i xs hc
   obtain⟨g1,g2⟩:=vr hc;refine⟨.fn f xs,⟨rfl,caps.map φ.β,by rw[g9,g1],by rw[ht,List.map_map];rfl,fun i ts hi=> ?_⟩,hk⟩;obtain⟨b,cs,c1,c2,c3⟩:=g2 i ts hi;obtain⟨b1,b2⟩:=xT h c2 (off:=0) (by rw[List.drop_zero];exact c3) (dX:=dX) (fun d hd=>hr d (List.mem_flatMap.2 ⟨b,c6 c1,hd⟩));refine⟨φ.β b,by rw[dK,c1];rfl,(h.sep.spot b cs c2).2.1,b1,fun j c hj=> ?_⟩;obtain⟨u,u1,u2⟩:=b2 j c hj;rw[Addr.add_zero'] at u1
   exact⟨u,u1,u2⟩
  ·exact hk.elim
 ·exact hk.elim
def cl (st:TS):TE→List CE
 | .v false [.mk _ cs]=>cs
 | .bp b _=>match aa b st.bx with|some cs=>cs|none=>[]
 |_=>[]
def mo:ay→Bool
 | .consume _=>true
 |_=>false
theorem sE (h:ak F A w0 φ st tm w) {e:CE} {v:Value} (he:aW st.ob w φ e v) {c:TC} (hc:mQ st e=some c) {cb:Bool} {m:Mode} (ho:pW st cb m e) {Rd:Nat→Prop} (hR: ∀k,φ.I k→Rd k):ah w Rd m (ji w φ st e) c v:=by
 rcases ho with⟨rfl,hf⟩|⟨rfl,ho⟩|⟨rfl,ho⟩
 ·obtain⟨k1,_⟩:=sD h he hc
  have hd:bY e=[]:=by
   unfold D6 at hf
   split at hf<;>first|rfl|exact hf.elim
  rw[hd] at k1
  exact k1.fK fun k hk=>hk.elim (hR k) fun⟨d,hd,_⟩=>by cases hd
 ·exact(FQ h he hc ho).1
 ·cases e with
  |sc x=>cases hc;obtain⟨rfl,hs⟩:=he;exact .sc _ _ _ hs
  |nil z=>cases hc;obtain⟨rfl,hz⟩:=he;exact kT hz
  |ref o cut=>
   cases cut with
   |some q=>exact ho.elim
   |none=>
    obtain⟨z,rows,hl⟩:=D7 ho;obtain⟨b,h1,h2⟩:=he;rw[hl] at h1;cases h1;simp only[mQ,eO,hl] at hc
    cases hc
    exact(eE.cut (h.obj o _ hl) h2:ah w φ.I .top (φ.S o) _ _).move (fun k hk=>⟨hR k hk,rfl⟩) (fun _ _ _=>rfl)
  |snap ds loc z rows=>exact ho.elim
  |gone=>exact ho.elim
theorem IG {p:ay} (hp:p≠ .borrow) (j:Nat):p.mc j=D8 p.ms j:=by
 cases p with
 |borrow=>exact absurd rfl hp
 |inout ms=>rfl
 |consume ms=>rfl
theorem Hy (h:ak F A w0 φ st tm w) {e:TE} {x:Value} (ht:aQ st.ob w φ e x) {p:ay} (hp:p≠ .borrow) {l:List Nat} (ho:gh st (mo p) p.ms e=some l) {Rg BB:Nat→Prop} (hR: ∀k,φ.I k→Rg k) {K:TV→Ev R} (hk:(E1 st e K).holds cf lp Q):
 ∃v,mh w p Rg BB (fun j=>ji w φ st ((cl st e).getD j .gone)) (fun k=> ∃b,e= .bp b 0∧k=(φ.β b).block) v x∧(K v).holds cf lp Q:=by
 unfold E1 at hk
 split at hk
 ·rename_i ag cs
  have ho:gK st (mo p) p.ms cs=some l:=by
   have ho:(match mo p,p.ms with|true,ms=>gK st true ms cs|false,[]=>gK st false [] cs|_,_=>none)=some l:=ho
   split at ho
   ·rename_i h1;rw[h1];exact ho
   ·rename_i h1 h2;rw[h1,h2];exact ho
   ·cases ho
  obtain⟨o1,o2,o3⟩:=jX ho;obtain⟨c0,e0,ht⟩:=ht
  cases e0
  have nD: ∀{j:Nat} {e:CE},cs[j]?=some e→(cl st (.v false [.mk ag cs])).getD j .gone=e:=fun {j e} he=>by simp[cl,List.getD,he]
  have O3: ∀j,p.mc j=D8 p.ms j:=fun j=>by rw[IG hp]
  split at hk
  ·rename_i ts hc
   split at hk
   ·obtain⟨xs,rfl,hsz,hx⟩:=ht
    refine⟨.ag ts,⟨xs,rfl,by rw[(eg hc).1];exact hsz,fun j c hj=> ?_⟩,hk⟩;obtain⟨e,he,hce⟩:=(eg hc).2 j c hj;obtain⟨y,y1,_,y3⟩:=hx j e he;refine⟨y,y1,?_⟩;show ah w Rg (p.mc j) (ji w φ st ((cl st (.v false [.mk true cs])).getD j .gone)) c y;rw[nD he];exact sE h y3 hce (by rw[O3];exact(o1 j e he).1) hR
   ·rename_i c
    obtain⟨e1,rfl,hv,hce⟩:=ht;obtain⟨e,he,P0⟩:=(eg hc).2 0 c rfl;simp only[bG,aI] at he;subst he;refine⟨.c c,?_,hk⟩;show ah w Rg (p.mc 0) _ c x;exact sE h hce P0 (by rw[O3];exact(o1 0 _ rfl).1) hR
   ·exact hk.elim
  ·exact hk.elim
 ·cases ho
 ·rename_i b off
  have ht:x= .pointer (some ((φ.β b).add off)):=ht;unfold gh at ho
  split at ho
  ·rename_i e0;cases e0
  ·rename_i e0
   cases e0
   split at ho
   ·rename_i cs hcb pM hb
    split at ho
    ·rename_i l0 hl
     obtain⟨o1,o2,o3⟩:=jX hl;rw[hb] at hk;simp only[List.drop_zero] at hk
     split at hk
     ·rename_i ts hc
      rw[Addr.add_zero'] at ht;obtain⟨g1,g2⟩:=eg hc;refine⟨.bx ts,⟨_,ht,(h.sep.spot b cs hb).2.1,fun e=>absurd e hp,fun _=>⟨(h.sep.spot b cs hb).1 pM,⟨b,rfl,rfl⟩,fun j hj=>h.sep.soft b cs j hb pM aA⟩,fun j c hj=> ?_⟩,hk⟩;obtain⟨e,he,hce⟩:=g2 j c hj;obtain⟨u,u1,u2,u3⟩:=h.box b cs hb j e he;refine⟨u,u1,?_⟩
      have:(cl st (.bp b 0)).getD j .gone=e:=by simp[cl,hb,List.getD,he]
      show ah w Rg (p.mc j) (ji w φ st ((cl st (.bp b 0)).getD j .gone)) c u;rw[this];exact sE h u3 hce (by rw[IG hp];exact(o1 j e he).1) hR
     ·exact hk.elim
    ·cases ho
   ·cases ho
  ·cases ho
 ·cases ho
 ·cases ho
 ·cases ho
 ·exact hk.elim
end Go.T
namespace Go.T
variable {F : Nat → Prop} {A : Arg} {w0 w w' : World} {φ φ' : Fp} {st st' sta bh eZ : TS} {tm qc : Array Value} {C : dW}
variable {R : Type} {cf : Cf} {lp : Lp} {Q : R → Prop}
theorem FR (h:ak F A w0 φ st tm w) {e:CE} {v:Value} (he:aW st.ob w φ e v) {cb:Bool} {m:Mode} (ho:pW st cb m e) {k:Nat} (hk:ji w φ st e k): ∃o,dm e=some o∧aj st.ob o∧φ.S o k:=by
 cases e with
 |sc x=>exact hk.elim
 |nil z=>exact hk.elim
 |ref o cut=>obtain⟨b,h1,_⟩:=he;exact⟨o,rfl,⟨b,h1⟩,hk⟩
 |snap ds loc z rows=>
  cases loc with
  |none=>exact hk.elim
  |some q=>
   obtain⟨o,i,f⟩:=q;have ho:=ho.key (o:=o) rfl;obtain⟨z0,e8,hl⟩:=oB ho.2;obtain⟨_,_,h3⟩:=he;obtain⟨_,b,g1,g2,g3,ad,n,c',g4,g5⟩:=h3 o i f rfl;rw[hl] at g1;cases g1;exact⟨o,rfl,⟨_,hl⟩,(sC h o i f _ ad n c' _ v hl rfl g4 g3 g5).2.1 k hk⟩
 |gone=>exact hk.elim
structure FT (st:TS) (c:Bool) (ms:List Mode) (e:TE) (l:List Nat):Prop where
 one: ∀(j:Nat) (e':CE),(cl st e)[j]?=some e'→(∃cb m,pW st cb m e'∧(c=true→cb=true))∧ ∀o,dm e'=some o→2*o∈l
 mem: ∀o,2*o∈l→ ∃(j:Nat) (e':CE),(cl st e)[j]?=some e'∧dm e'=some o
 uniq:l.Nodup→ ∀(j j':Nat) (e1 e2:CE) (o:Nat),(cl st e)[j]?=some e1→(cl st e)[j']?=some e2→dm e1=some o→dm e2=some o→j=j'
 bx: ∀b off,e= .bp b off→off=0∧c=false∧lS b=true∧2*b+1∈l∧aa b st.bx=some (cl st e)∧ ∀(j:Nat) (e':CE),(cl st e)[j]?=some e'→pW st true (D8 ms j) e'
 form:(∃b,e= .bp b 0)∨((c=true∨ms=[])∧ ∃ag cs,e= .v false [.mk ag cs]∧ ∀(j:Nat) (e':CE),cs[j]?=some e'→pW st c (D8 ms j) e')
theorem sF {c:Bool} {ms:List Mode} {e:TE} {l:List Nat} (h:gh st c ms e=some l):FT st c ms e l:=by
 unfold gh at h
 split at h
 ·rename_i ag cs
  obtain⟨Ii,h⟩:(c=true∨ms=[])∧gK st c ms cs=some l:=by
   split at h
   ·exact⟨.inl rfl,h⟩
   ·exact⟨.inr rfl,h⟩
   ·cases h
  have ok:=jX h;refine⟨fun j e' he=>⟨⟨c,_,(ok.one j e' he).1,id⟩,(ok.one j e' he).2⟩,fun o ho=> ?_,fun hn j j' e1 e2 o h1 h2=>ok.uniq hn j j' e1 e2 o h1 h2,fun b off e=>(by cases e),.inr ⟨Ii,ag,cs,rfl,fun j e' he=>(ok.one j e' he).1⟩⟩;obtain⟨o',e1,j,e',h1,h2⟩:=ok.mem _ ho
  have:o=o':=by omega
  subst this;exact⟨j,e',h1,h2⟩
 ·rename_i b
  split at h
  ·rename_i cs hw hb
   split at h
   ·rename_i l0 hl
    cases h
    have ok:=jX hl
    have hcs:cl st (.bp b 0)=cs:=by simp[cl,hb]
    refine⟨fun j e' he=> ?_,fun o ho=> ?_,fun hn j j' e1 e2 o h1 h2=> ?_,fun b' off e=> ?_,.inl ⟨b,rfl⟩⟩
    ·rw[hcs] at he
     exact⟨⟨true,_,(ok.one j e' he).1,fun _=>rfl⟩,fun o ho=> .tail _ ((ok.one j e' he).2 o ho)⟩
    ·rw[hcs]
     rcases bg.1 ho with ho|ho
     ·omega
     ·obtain⟨o',e1,j,e',h1,h2⟩:=ok.mem _ ho
      have:o=o':=by omega
      subst this;exact⟨j,e',h1,h2⟩
    ·rw[hcs] at h1 h2
     exact ok.uniq (List.nodup_cons.1 hn).2 j j' e1 e2 o h1 h2
    ·cases e
     rw[hcs];exact⟨rfl,rfl,hw,.head _,hb,fun j e' he=>(ok.one j e' he).1⟩
   ·cases h
  ·cases h
 ·cases h
theorem m8 (h:ak F A w0 φ st tm w) {e:TE} {x:Value} (ht:aQ st.ob w φ e x) {j:Nat} {e':CE} (he:(cl st e)[j]?=some e'): ∃v,aW st.ob w φ e' v:=by
 unfold cl at he
 split at he
 ·rename_i ag cs
  obtain⟨y,_,_,h3⟩:=(ie (cs:=cs) ht rfl).2 j e' he;exact⟨y,h3⟩
 ·split at he
  ·rename_i cs hb
   obtain⟨v,_,_,h3⟩:=h.box _ cs hb j e' he;exact⟨v,h3⟩
  ·simp at he
 ·simp at he
structure lF (st:TS) (ps:List ay) (es:List TE) (own dX:List Nat):Prop where
 len:ps.length=es.length
 rd: ∀(i:Nat) (e:TE),ps[i]?=some .borrow→es[i]?=some e→ ∀d∈gJ st e,d∈dX
 ow: ∀(i:Nat) (p:ay) (e:TE),ps[i]?=some p→es[i]?=some e→p≠ .borrow→ ∃l,FT st (mo p) p.ms e l∧(∀x∈l,x∈own)∧(own.Nodup→l.Nodup)∧gh st (mo p) p.ms e=some l
 uniq:own.Nodup→ ∀(i i':Nat) (p p':ay) (e e':TE) (l l':List Nat) (x:Nat),ps[i]?=some p→ps[i']?=some p'→es[i]?=some e→es[i']?=some e'→p≠ .borrow→p'≠ .borrow→gh st (mo p) p.ms e=some l→gh st (mo p') p'.ms e'=some l'→x∈l→x∈l'→i=i'
 mem: ∀x∈own,∃(i:Nat) (p:ay) (e:TE) (l:List Nat),ps[i]?=some p∧es[i]?=some e∧p≠ .borrow∧gh st (mo p) p.ms e=some l∧x∈l
theorem mq: ∀{ps:List ay} {es:List TE} {own dX:List Nat},mU st ps es=some (own,dX)→lF st ps es own dX
 |[],[],own,dX,h=>by
  cases h
  exact⟨rfl,fun i e h=>by simp at h,fun i p e h=>by simp at h,fun _ i i' p p' e e' l l' x h=>by simp at h,fun x hx=>by cases hx⟩
 |[],_::_,_,_,h=>by cases h
 |_::_,[],_,_,h=>by cases h
 |p::ps,e::es,own,dX,h=>by
  simp only[mU] at h
  split at h
  ·rename_i own0 rd0 hg
   have ih:=mq hg
   by_cases hp:p= .borrow
   ·subst hp
    cases h
    refine⟨by simp[ih.len],fun i e' h1 h2 d hd=> ?_,fun i p' e' h1 h2 zQ=> ?_,fun hn i i' p' p'' e' e'' l l' x h1 h2 h3 h4 KB CL h5 h6 h7 h8=> ?_,fun x hx=> ?_⟩
    ·cases i with
     |zero=>simp only[bG,aI] at h2;subst h2;exact cM _ hd
     |succ i=>exact eW _ (ih.rd i e' (by simpa using h1) (by simpa using h2) d hd)
    ·cases i with
     |zero=>simp only[bG,aI] at h1;exact absurd h1.symm zQ
     |succ i=>exact ih.ow i p' e' (by simpa using h1) (by simpa using h2) zQ
    ·cases i with
     |zero=>simp only[bG,aI] at h1;exact absurd h1.symm KB
     |succ i=>
      cases i' with
      |zero=>simp only[bG,aI] at h2;exact absurd h2.symm CL
      |succ i'=>rw[ih.uniq hn i i' p' p'' e' e'' l l' x (by simpa using h1) (by simpa using h2) (by simpa using h3) (by simpa using h4) KB CL h5 h6 h7 h8]
    ·obtain⟨i,p',e',l,a1,a2,a3⟩:=ih.mem x hx
     exact⟨i+1,p',e',l,by simpa using a1,by simpa using a2,a3⟩
   ·obtain⟨l0,qd,hown⟩: ∃l0,gh st (mo p) p.ms e=some l0∧(own,dX)=(l0++own0,rd0):=by
     cases p with
     |borrow=>exact absurd rfl hp
     |inout ms=>simp only at h;split at h;(rename_i l hl;exact⟨l,hl,by cases h;rfl⟩);cases h
     |consume ms=>simp only at h;split at h;(rename_i l hl;exact⟨l,hl,by cases h;rfl⟩);cases h
    cases hown
    refine⟨by simp[ih.len],fun i e' h1 h2 d hd=> ?_,fun i p' e' h1 h2 zQ=> ?_,fun hn i i' p' p'' e' e'' l l' x h1 h2 h3 h4 KB CL h5 h6 h7 h8=> ?_,fun x hx=> ?_⟩
    ·cases i with
     |zero=>simp only[bG,aI] at h1;exact absurd h1 hp
     |succ i=>exact ih.rd i e' (by simpa using h1) (by simpa using h2) d hd
    ·cases i with
     |zero=>
      simp only[bG,aI] at h1 h2;subst h1 h2;exact⟨l0,sF qd,fun x hx=>cM _ hx,fun hn=>(List.nodup_append.1 hn).1,qd⟩
     |succ i=>
      obtain⟨l,a,b,c,d⟩:=ih.ow i p' e' (by simpa using h1) (by simpa using h2) zQ;exact⟨l,a,fun x hx=>eW _ (b x hx),fun hn=>c (List.nodup_append.1 hn).2.1,d⟩
    ·have hd:=List.nodup_append.1 hn
     have tail: ∀{i:Nat} {p':ay} {e':TE} {l:List Nat},ps[i]?=some p'→es[i]?=some e'→p'≠ .borrow→gh st (mo p') p'.ms e'=some l→x∈l→x∈own0:=fun {i p' e' l} a1 a2 a3 a4 a5=>by
      obtain⟨l2,_,b,_,d⟩:=ih.ow i p' e' a1 a2 a3;rw[a4] at d;cases d;exact b x a5
     cases i with
     |zero=>
      simp only[bG,aI] at h1 h3;subst h1 h3;rw[qd] at h5;cases h5
      cases i' with
      |zero=>rfl
      |succ i'=>exact absurd rfl (hd.2.2 x h7 x (tail (by simpa using h2) (by simpa using h4) CL h6 h8))
     |succ i=>
      cases i' with
      |zero=>
       simp only[bG,aI] at h2 h4;subst h2 h4;rw[qd] at h6;cases h6;exact absurd rfl (hd.2.2 x h8 x (tail (by simpa using h1) (by simpa using h3) KB h5 h7))
      |succ i'=>rw[ih.uniq hd.2.1 i i' p' p'' e' e'' l l' x (by simpa using h1) (by simpa using h2) (by simpa using h3) (by simpa using h4) KB CL h5 h6 h7 h8]
    ·rcases List.mem_append.1 hx with hx|hx
     ·exact⟨0,p,e,l0,rfl,rfl,hp,qd,hx⟩
     ·obtain⟨i,p',e',l,a1,a2,a3⟩:=ih.mem x hx
      exact⟨i+1,p',e',l,by simpa using a1,by simpa using a2,a3⟩
  ·cases h
noncomputable def Cc (w:World) (φ:Fp) (st:TS) (ps:List ay) (es:List TE) (i j k:Nat):Prop:=
 ∃p e,ps[i]?=some p∧es[i]?=some e∧p≠ .borrow∧ji w φ st ((cl st e).getD j .gone) k
def Dg (φ:Fp) (ps:List ay) (es:List TE) (i k:Nat):Prop:= ∃p b,ps[i]?=some p∧es[i]?=some (.bp b 0)∧p≠ .borrow∧k=(φ.β b).block
theorem rz (h:ak F A w0 φ st tm w) {ps:List ay} {es:List TE} {own dX:List Nat} (g:lF st ps es own dX) {xs:List Value} (tq: ∀(i:Nat) (e:TE),es[i]?=some e→ ∃x,xs[i]?=some x∧aQ st.ob w φ e x) {i j k:Nat} (hx:Cc w φ st ps es i j k):
 ∃p e e' o l,ps[i]?=some p∧es[i]?=some e∧p≠ .borrow∧(cl st e)[j]?=some e'∧dm e'=some o∧aj st.ob o∧φ.S o k∧gh st (mo p) p.ms e=some l∧2*o∈l∧2*o∈own:=by
 obtain⟨p,e,h1,h2,hp,hk⟩:=hx;obtain⟨l,ok,hl,_,qd⟩:=g.ow i p e h1 h2 hp;obtain⟨x,_,ht⟩:=tq i e h2
 cases he:(cl st e)[j]? with
 |none=>rw[List.getD,he] at hk;exact hk.elim
 |some e'=>
  rw[List.getD,he] at hk;obtain⟨v,hv⟩:=m8 h ht he;obtain⟨⟨cb,_,ho,_⟩,hkey⟩:=ok.one j e' he;obtain⟨o,k1,k2,k3⟩:=FR h hv ho hk;exact⟨p,e,e',o,l,h1,h2,hp,he,k1,k2,k3,qd,hkey o k1,hl _ (hkey o k1)⟩
theorem FU (h:ak F A w0 φ st tm w) {dX:List Nat} {Xs:Nat→Nat→Nat→Prop} {Ys:Nat→Nat→Prop}: ∀(ps:List ay) (es:List TE) (xs:List Value) (K:List TV→Ev R),ps.length=es.length→(∀(i:Nat) (e:TE),es[i]?=some e→ ∃x,xs[i]?=some x∧aQ st.ob w φ e x)→
 (∀(i:Nat) (e:TE),ps[i]?=some .borrow→es[i]?=some e→ ∀d∈gJ st e,d∈dX)→(∀(i:Nat) (p:ay) (e:TE),ps[i]?=some p→es[i]?=some e→p≠ .borrow→ ∃l,gh st (mo p) p.ms e=some l)→
 (∀(i:Nat) (p:ay) (e:TE) (v:TV) (x:Value),ps[i]?=some p→es[i]?=some e→p≠ .borrow→mh w p (oD φ st dX) (wX φ st dX) (fun j=>ji w φ st ((cl st e).getD j .gone)) (fun k=> ∃b,e= .bp b 0∧k=(φ.β b).block) v x→mh w p (oD φ st dX) (wX φ st dX) (Xs i) (Ys i) v x)→
 (Ab st es K).holds cf lp Q→ ∃vs,vs.length=es.length∧(∀(i:Nat) (v:TV),vs[i]?=some v→ ∃x,xs[i]?=some x∧mh w (ps.getD i .borrow) (oD φ st dX) (wX φ st dX) (Xs i) (Ys i) v x)∧(K vs).holds cf lp Q:=by
 intro ps es
 induction es generalizing ps Xs Ys with
 |nil=>intro xs K _ _ _ _ _ hk;exact⟨[],rfl,fun i v hv=>by simp at hv,hk⟩
 |cons e es ih=>
  intro xs K hl tq hr ho O4 hk
  cases ps with
  |nil=>cases hl
  |cons p ps=>
   obtain⟨x,hx,ht⟩:=tq 0 e rfl
   obtain⟨v,hv,hk⟩: ∃v,mh w p (oD φ st dX) (wX φ st dX) (Xs 0) (Ys 0) v x∧(Ab st es fun vs=>K (v::vs)).holds cf lp Q:=by
    by_cases hp:p= .borrow
    ·subst hp
     exact Cb h ht (hr 0 e rfl rfl) hk
    ·obtain⟨l,hl⟩:=ho 0 p e rfl rfl hp
     obtain⟨v,a,b⟩:=Hy (Rg:=oD φ st dX) (BB:=wX φ st dX) h ht hp hl (fun _ hI=>Or.inl hI) hk;exact⟨v,O4 0 p e v x rfl rfl hp a,b⟩
   obtain⟨vs,v1,v2,v3⟩:=ih (Xs:=fun i=>Xs (i+1)) (Ys:=fun i=>Ys (i+1)) ps (xs.drop 1) (fun vs=>K (v::vs)) (by simpa using hl) (fun i e' he=>by
    obtain⟨x',a,b⟩:=tq (i+1) e' (by simpa using he)
    exact⟨x',by rw[gn,Nat.add_comm];exact a,b⟩) (fun i e' h1 h2=>hr (i+1) e' (by simpa using h1) (by simpa using h2)) (fun i p' e' h1 h2 h3=>ho (i+1) p' e' (by simpa using h1) (by simpa using h2) h3)
    (fun i p' e' v' x' h1 h2 h3 h4=>O4 (i+1) p' e' v' x' (by simpa using h1) (by simpa using h2) h3 h4) hk
   refine⟨v::vs,by simp[v1],fun i v' hi=> ?_,v3⟩
   cases i with
   |zero=>simp only[bG,aI] at hi;subst hi;exact⟨x,hx,by simpa using hv⟩
   |succ i=>
    obtain⟨x',a,b⟩:=v2 i v' (by simpa using hi);refine⟨x',by rw[gn,Nat.add_comm] at a;exact a,?_⟩;simpa using b
theorem Hz (h:ak F A w0 φ st tm w) {ps:List ay} {es:List TE} {own dX:List Nat} (hg:mU st ps es=some (own,dX)) (hn:qg own=true) (hm:je own dX=false) {xs:List Value} (tq: ∀(i:Nat) (e:TE),es[i]?=some e→ ∃x,xs[i]?=some x∧aQ st.ob w φ e x)
 {K:List TV→Ev R} (hk:(Ab st es K).holds cf lp Q): ∃vs,(K vs).holds cf lp Q∧(jP vs=true→za w ps vs xs (oD φ st dX) (wX φ st dX) (Cc w φ st ps es) (Dg φ ps es)):=by
 have g:=mq hg;have BA:=qp.1 hn
 obtain⟨vs,v1,v2,v3⟩:=FU h (dX:=dX) (Xs:=Cc w φ st ps es) (Ys:=Dg φ ps es) ps es xs K g.len tq g.rd (fun i p e h1 h2 hp=>let ⟨l,_,_,_,hl⟩:=g.ow i p e h1 h2 hp;⟨l,hl⟩) (fun i p e v x h1 h2 hp hin=>by
  have P1: ∀j,Cc w φ st ps es i j=ji w φ st ((cl st e).getD j .gone):=fun j=>by
   funext k
   refine propext ⟨?_,fun hk=>⟨p,e,h1,h2,hp,hk⟩⟩;rintro⟨p',e',a1,a2,a3,a4⟩;rw[h2] at a2;cases a2;exact a4
  have P2:Dg φ ps es i=fun k=> ∃b,e= .bp b 0∧k=(φ.β b).block:=by
   funext k
   refine propext ⟨?_,?_⟩
   ·rintro⟨p',b,a1,a2,a3,a4⟩
    rw[h2] at a2;cases a2;exact⟨b,rfl,a4⟩
   ·rintro⟨b,rfl,hk⟩
    exact⟨p,b,h1,h2,hp,hk⟩
  have:Cc w φ st ps es i=fun j=>ji w φ st ((cl st e).getD j .gone):=funext P1;rw[this,P2]
  exact hin) hk
 have notRg: ∀{o k},2*o∈own→aj st.ob o→φ.S o k→ ¬oD φ st dX k:=fun {o k} ho hd hS hr=>by
  rcases hr with hr|⟨o',r1,r2,r3⟩
  ·exact h.sep.read o k hd hS hr
  ·rcases r2 with rfl|r2
   ·rw[h.sep.arg] at r3
    have:=h.sep.ez k r3;rcases (h.sep.fresh o k hd hS).2 with h3|h3
    ·omega
    ·exact this.2 h3
   ·have:=h.sep.apart o o' k hd r2 hS r3
    subst this;exact gu hm ho r1
 have notBB: ∀{o k},2*o∈own→aj st.ob o→φ.S o k→ ¬wX φ st dX k:=fun {o k} ho hd hS hb=>by
  rcases hb with hb|⟨b,cs,b1,b2,b3⟩
  ·exact notRg ho hd hS hb
  ·exact h.eP hd hS b2 b3.symm
 have yb: ∀{i k},Dg φ ps es i k→ ∃p b l,ps[i]?=some p∧es[i]?=some (.bp b 0)∧p≠ .borrow∧k=(φ.β b).block∧lS b=true∧(∃cs,aa b st.bx=some cs)∧gh st (mo p) p.ms (.bp b 0)=some l∧2*b+1∈l∧2*b+1∈own:=fun {i k} ⟨p,b,h1,h2,hp,hk⟩=>by
  obtain⟨l,ok,hl,_,qd⟩:=g.ow i p _ h1 h2 hp;obtain⟨_,_,hw,hb1,hb2,_⟩:=ok.bx b 0 rfl;exact⟨p,b,l,h1,h2,hp,hk,hw,⟨_,hb2⟩,qd,hb1,hl _ hb1⟩
 refine⟨vs,v3,fun hs=>⟨v2,hs,fun i j k hk=> ?_,fun i k hk=> ?_,fun k hk=> ?_,fun k hk=> ?_⟩⟩
 ·obtain⟨p,e,e',o,l,h1,h2,hp,he,hkey,hd,hS,qd,hol,KA⟩:=rz h g tq hk
  refine⟨(h.sep.fresh o k hd hS).1,notRg KA hd hS,notBB KA hd hS,fun i' hy=> ?_,fun i' j' hk'=> ?_⟩
  ·obtain⟨_,b,_,_,_,_,KC,_,⟨cs,hb⟩,_⟩:=yb hy
   exact h.eP hd hS hb KC.symm
  ·obtain⟨p',e2,e2',o',l',g1,g2,gp,ge,gkey,gd,gS,gl0,gol,goo⟩:=rz h g tq hk'
   have:=h.sep.apart o o' k hd gd hS gS;subst this;have P3:=g.uniq BA i i' p p' e e2 l l' (2*o) h1 g1 h2 g2 hp gp qd gl0 hol gol;subst P3;rw[h2] at g2;cases g2;rw[h1] at g1;cases g1;obtain⟨l2,ok,_,NS,qB⟩:=g.ow i p e h1 h2 hp;exact⟨rfl,(ok.uniq (NS BA) j j' e' e2' o he ge hkey gkey).symm⟩
 ·obtain⟨p,b,l,h1,h2,hp,rfl,hw,⟨cs,hb⟩,qd,GX,O5⟩:=yb hk
  obtain⟨x1,x2,x3,x4⟩:=h.sep.box b cs hb hw
  have nrg: ¬oD φ st dX (φ.β b).block:=fun hr=>by
   rcases hr with hr|⟨o',r1,r2,r3⟩
   ·exact x1 hr
   ·rcases r2 with rfl|r2
    ·rw[h.sep.arg] at r3
     have:=h.sep.ez _ r3;rcases x3 with h3|h3
     ·omega
     ·exact this.2 h3
    ·exact x2 o' r2 r3
  refine⟨(h.sep.spot b cs hb).2.1,nrg,fun wR=> ?_,fun i' hy=> ?_⟩
  ·rcases wR with hr|⟨b',cs',r1,r2,r3⟩
   ·exact nrg hr
   ·by_cases wR:b'=b
    ·subst wR;exact gu hm O5 r1
    ·exact x4 b' cs' r2 wR r3.symm
  ·obtain⟨p',b',l',g1,g2,gp,gk,gw,⟨cs',gb⟩,gl0,gbl,gbo⟩:=yb hy
   have wR:b'=b:=Classical.byContradiction fun hne=>x4 b' cs' gb hne gk.symm;subst wR;exact(g.uniq BA i i' p p' _ _ l l' (2*b'+1) h1 g1 h2 g2 hp gp qd gl0 GX gbl).symm
 ·rcases hk with hk|⟨o,_,ho,hk⟩
  ·exact(h.sep.ro k hk).1
  ·exact h.sep.lt h.frm.size ho hk
 ·rcases hk with(hk|⟨o,_,ho,hk⟩)|⟨b,cs,_,hb,rfl⟩
  ·exact(h.sep.ro k hk).1
  ·exact h.sep.lt h.frm.size ho hk
  ·exact(h.sep.spot b cs hb).2.1
end Go.T
namespace Go.T
variable {F : Nat → Prop} {A : Arg} {w0 w w' : World} {φ φ' : Fp} {st st' sta bh eZ : TS} {tm qc : Array Value} {C : dW}
variable {R : Type} {cf : Cf} {lp : Lp} {Q : R → Prop}
structure lG (st st':TS) (os bs:List Nat):Prop where
 ob: ∀o,aa o st'.ob=if o∈os then none else aa o st.ob
 bx: ∀b cs,aa b st'.bx=some cs→b∉bs∧ ∃cs0,aa b st.bx=some cs0∧cs.length=cs0.length
theorem lG.refl (st:TS):lG st st [] []:=⟨fun o=>by simp,fun b cs h=>⟨by simp,cs,h,rfl⟩⟩
theorem lG.trans {a b c:TS} {o1 o2 b1 b2:List Nat} (h:lG a b o1 b1) (k:lG b c o2 b2):lG a c (o1++o2) (b1++b2):=by
 refine⟨fun o=> ?_,fun x cs hx=> ?_⟩
 ·rw[k.ob,h.ob]
  by_cases h1:o∈o1<;>by_cases h2:o∈o2<;>simp[h1,h2]
 ·obtain⟨n2,cs1,g1,g2⟩:=k.bx x cs hx
  obtain⟨n1,cs0,g3,g4⟩:=h.bx x cs1 g1;exact⟨fun hm=>(List.mem_append.1 hm).elim n1 n2,cs0,g3,g2.trans g4⟩
theorem lG.kill (st:TS) (o:Nat):lG st (eD o st) [o] []:=by
 refine⟨fun d=> ?_,fun b cs h=>⟨by simp,cr _ b cs h⟩⟩
 by_cases hd:d=o
 ·subst hd
  rw[aT (.head _)]
  cases hl:aa d (eD d st).ob with
  |none=>rfl
  |some b=>exact absurd rfl (cZ.1 ⟨b,hl⟩).1
 ·rw[xE hd,aH (by simpa using hd)]
def fO:List CE→List Nat
 |[]=>[]
 | .ref o _::r=>o::fO r
 |_::r=>fO r
theorem oE {o:Nat}: ∀{cs:List CE},o∈fO cs↔ ∃(j:Nat) (cut:Option (Int×Int)),cs[j]?=some (.ref o cut)
 |[]=>by simp[fO]
 |e::r=>by
  have ih:=oE (o:=o) (cs:=r);have shift:(∃(j:Nat) (cut:Option (Int×Int)),r[j]?=some (.ref o cut))→ ∃(j:Nat) (cut:Option (Int×Int)),(e::r)[j]?=some (.ref o cut):=fun⟨j,cut,h⟩=>⟨j+1,cut,by simpa using h⟩
  cases e with
  |ref p cut=>
   simp only[fO,bg]
   constructor
   ·rintro(rfl|h)
    ·exact⟨0,cut,rfl⟩
    ·exact shift (ih.1 h)
   ·rintro⟨j,c,h⟩
    cases j with
    |zero=>simp only[bG,aI,CE.ref.injEq] at h;exact .inl h.1.symm
    |succ j=>exact .inr (ih.2 ⟨j,c,by simpa using h⟩)
  |_=>
   simp only[fO];rw[ih]
   constructor
   ·exact shift
   ·rintro⟨j,c,h⟩
    cases j with
    |zero=>simp at h
    |succ j=>exact⟨j,c,by simpa using h⟩
theorem m9: ∀(cs:List CE) (st:TS),ak F A w0 φ st tm w→ak F A w0 φ (jn cs st) tm w∧lG st (jn cs st) (fO cs) []
 |[],st,h=>⟨h,lG.refl st⟩
 |e::r,st,h=>by
  cases e with
  |ref o cut=>
   obtain⟨h1,h2⟩:=m9 r (eD o st) (h.eD o);exact⟨h1,(lG.kill st o).trans h2⟩
  |_=>exact m9 r st h
theorem HA (h:ak F A w0 φ st tm w) (b:Nat):ak F A w0 φ ⟨st.tm,fT b st.bx,st.ob⟩ tm w∧lG st ⟨st.tm,fT b st.bx,st.ob⟩ [] [b]:=by
 refine⟨h.less (fun i=> .inr rfl) (fun b' cs hb=> ?_) rfl,fun o=>by simp,fun b' cs hb=> ?_⟩
 ·simp only[cD] at hb
  split at hb
  ·cases hb
  ·exact hb
 ·simp only[cD] at hb
  split at hb
  ·cases hb
  ·rename_i hne
   exact⟨by simpa using hne,cs,hb,rfl⟩
def cA (fQ:TS):List ay→List TE→List Nat
 |p::ps,e::es=>match p,e with
  | .consume _,.v false [.mk _ cs]=>fO cs++cA fQ ps es
  | .inout _,.bp b _=>match aa b fQ.bx with
    |some cs=>fO cs++cA fQ ps es
    |none=>cA fQ ps es
  |_,_=>cA fQ ps es
 |_,_=>[]
def eR (fQ:TS):List ay→List TE→List Nat
 |p::ps,e::es=>match p,e with
  | .inout _,.bp b _=>match aa b fQ.bx with
    |some cs=>b::eR fQ ps es
    |none=>eR fQ ps es
  |_,_=>eR fQ ps es
 |_,_=>[]
theorem AK {fQ:TS}: ∀(ps:List ay) (es:List TE) (st:TS),ak F A w0 φ st tm w→ak F A w0 φ (iN fQ ps es st) tm w∧lG st (iN fQ ps es st) (cA fQ ps es) (eR fQ ps es)
 |[],es,st,h=>by simp only[iN,cA,eR];exact⟨h,lG.refl st⟩
 |p::ps,[],st,h=>by simp only[iN,cA,eR];exact⟨h,lG.refl st⟩
 |p::ps,e::es,st,h=>by
  have ih:=AK (fQ:=fQ) ps es
  by_cases hc:(∃ms,p= .consume ms)∧ ∃ag cs,e= .v false [.mk ag cs]
  ·obtain⟨⟨ms,rfl⟩,ag,cs,rfl⟩:=hc
   obtain⟨h1,h2⟩:=m9 cs st h;obtain⟨h3,h4⟩:=ih _ h1;exact⟨h3,(by simpa using h2.trans h4:lG st (iN fQ ps es (jn cs st)) (fO cs++cA fQ ps es) (eR fQ ps es))⟩
  ·by_cases hi:(∃ms,p= .inout ms)∧ ∃b off,e= .bp b off
   ·obtain⟨⟨ms,rfl⟩,b,off,rfl⟩:=hi
    simp only[iN,cA,eR]
    cases hb:aa b fQ.bx with
    |none=>exact ih st h
    |some cs=>
     simp only;obtain⟨h1,h2⟩:=m9 cs st h;obtain⟨h3,h4⟩:=HA h1 b;obtain⟨h5,h6⟩:=ih _ h3;have:=(h2.trans h4).trans h6;simp only[iL,jN,List.singleton_append] at this;exact⟨h5,this⟩
   ·have e1:iN fQ (p::ps) (e::es) st=iN fQ ps es st:=by
     simp only[iN]
     split
     ·exact absurd ⟨⟨_,rfl⟩,_,_,rfl⟩ hc
     ·exact absurd ⟨⟨_,rfl⟩,_,_,rfl⟩ hi
     ·rfl
    have e2:cA fQ (p::ps) (e::es)=cA fQ ps es:=by
     simp only[cA]
     split
     ·exact absurd ⟨⟨_,rfl⟩,_,_,rfl⟩ hc
     ·exact absurd ⟨⟨_,rfl⟩,_,_,rfl⟩ hi
     ·rfl
    have e3:eR fQ (p::ps) (e::es)=eR fQ ps es:=by
     simp only[eR]
     split
     ·exact absurd ⟨⟨_,rfl⟩,_,_,rfl⟩ hi
     ·rfl
    rw[e1,e2,e3];exact ih st h
theorem nc {fQ:TS} {o:Nat}: ∀{ps:List ay} {es:List TE},o∈cA fQ ps es↔ ∃(i:Nat) (p:ay) (e:TE),ps[i]?=some p∧es[i]?=some e∧
 (((∃ms,p= .consume ms)∧ ∃ag cs,e= .v false [.mk ag cs]∧o∈fO cs)∨((∃ms,p= .inout ms)∧ ∃b off cs,e= .bp b off∧aa b fQ.bx=some cs∧o∈fO cs))
 |[],es=>by simp[cA]
 |p::ps,[]=>by simp[cA]
 |p::ps,e::es=>by
  have ih:=nc (fQ:=fQ) (o:=o) (ps:=ps) (es:=es)
  have shift:o∈cA fQ ps es→ ∃(i:Nat) (p':ay) (e':TE),(p::ps)[i]?=some p'∧(e::es)[i]?=some e'∧
   (((∃ms,p'= .consume ms)∧ ∃ag cs,e'= .v false [.mk ag cs]∧o∈fO cs)∨((∃ms,p'= .inout ms)∧ ∃b off cs,e'= .bp b off∧aa b fQ.bx=some cs∧o∈fO cs)):=fun h=>by
   obtain⟨i,p',e',a,b,c⟩:=ih.1 h;exact⟨i+1,p',e',by simpa using a,by simpa using b,c⟩
  have back: ∀{i:Nat} {p':ay} {e':TE},(p::ps)[i+1]?=some p'→(e::es)[i+1]?=some e'→
   (((∃ms,p'= .consume ms)∧ ∃ag cs,e'= .v false [.mk ag cs]∧o∈fO cs)∨((∃ms,p'= .inout ms)∧ ∃b off cs,e'= .bp b off∧aa b fQ.bx=some cs∧o∈fO cs))→o∈cA fQ ps es:=fun {i p' e'} a b c=>
   ih.2 ⟨i,p',e',by simpa using a,by simpa using b,c⟩
  simp only[cA]
  split
  ·rename_i ag cs
   rw[List.mem_append]
   constructor
   ·rintro(h|h)
    ·exact⟨0,_,_,rfl,rfl,.inl ⟨⟨_,rfl⟩,ag,cs,rfl,h⟩⟩
    ·exact shift h
   ·rintro⟨i,p',e',a,b,c⟩
    cases i with
    |zero=>
     simp only[bG,aI] at a b;subst a b;rcases c with⟨_,ag',cs',e1,h⟩|⟨e1,_⟩
     ·cases e1;exact .inl h
     ·obtain⟨_,e1⟩:=e1;cases e1
    |succ i=>exact .inr (back a b c)
  ·rename_i b off
   split
   ·rename_i cs hb
    rw[List.mem_append]
    constructor
    ·rintro(h|h)
     ·exact⟨0,_,_,rfl,rfl,.inr ⟨⟨_,rfl⟩,b,off,cs,rfl,hb,h⟩⟩
     ·exact shift h
    ·rintro⟨i,p',e',a,b',c⟩
     cases i with
     |zero=>
      simp only[bG,aI] at a b';subst a b';rcases c with⟨⟨_,e1⟩,_⟩|⟨_,b2,off2,cs2,e1,h2,h⟩
      ·cases e1
      ·cases e1;rw[hb] at h2;cases h2;exact .inl h
     |succ i=>exact .inr (back a b' c)
   ·rename_i hb
    constructor
    ·exact shift
    ·rintro⟨i,p',e',a,b',c⟩
     cases i with
     |zero=>
      simp only[bG,aI] at a b';subst a b';rcases c with⟨⟨_,e1⟩,_⟩|⟨_,b2,off2,cs2,e1,h2,h⟩
      ·cases e1
      ·cases e1;rw[hb] at h2;cases h2
     |succ i=>exact back a b' c
  ·rename_i n1 n2
   constructor
   ·exact shift
   ·rintro⟨i,p',e',a,b',c⟩
    cases i with
    |zero=>
     simp only[bG,aI] at a b';subst a b';rcases c with⟨⟨_,rfl⟩,ag,cs,rfl,h⟩|⟨⟨ms,rfl⟩,b2,off2,cs2,rfl,h2,h⟩
     ·exact(n1 _ _ _ rfl rfl).elim
     ·exact(n2 _ _ _ rfl rfl).elim
    |succ i=>exact back a b' c
theorem qq {fQ:TS} {b:Nat}: ∀{ps:List ay} {es:List TE},b∈eR fQ ps es↔ ∃(i:Nat) (ms:List Mode) (off:Nat) (cs:List CE),ps[i]?=some (.inout ms)∧es[i]?=some (.bp b off)∧aa b fQ.bx=some cs
 |[],es=>by simp[eR]
 |p::ps,[]=>by simp[eR]
 |p::ps,e::es=>by
  have ih:=qq (fQ:=fQ) (b:=b) (ps:=ps) (es:=es)
  have shift:b∈eR fQ ps es→ ∃(i:Nat) (ms:List Mode) (off:Nat) (cs:List CE),(p::ps)[i]?=some (.inout ms)∧(e::es)[i]?=some (.bp b off)∧aa b fQ.bx=some cs:=fun h=>by
   obtain⟨i,ms,off,cs,x,y,z⟩:=ih.1 h;exact⟨i+1,ms,off,cs,by simpa using x,by simpa using y,z⟩
  simp only[eR]
  split
  ·rename_i b' off'
   split
   ·rename_i cs hb
    rw[bg]
    constructor
    ·rintro(rfl|h)
     ·exact⟨0,_,off',cs,rfl,rfl,hb⟩
     ·exact shift h
    ·rintro⟨i,ms,off,cs',x,y,z⟩
     cases i with
     |zero=>simp only[bG,aI,TE.bp.injEq] at y;exact .inl y.1.symm
     |succ i=>exact .inr (ih.2 ⟨i,ms,off,cs',by simpa using x,by simpa using y,z⟩)
   ·rename_i hb
    constructor
    ·exact shift
    ·rintro⟨i,ms,off,cs',x,y,z⟩
     cases i with
     |zero=>simp only[bG,aI,TE.bp.injEq] at y;rw[y.1] at hb;rw[hb] at z;cases z
     |succ i=>exact ih.2 ⟨i,ms,off,cs',by simpa using x,by simpa using y,z⟩
  ·rename_i n1
   constructor
   ·exact shift
   ·rintro⟨i,ms,off,cs',x,y,z⟩
    cases i with
    |zero=>
     simp only[bG,aI] at x y;subst x y;exact(n1 _ _ _ rfl rfl).elim
    |succ i=>exact ih.2 ⟨i,ms,off,cs',by simpa using x,by simpa using y,z⟩
theorem jx: ∀(os:List Nat) (st:TS) (φ:Fp),ak F A w0 φ st tm w→ ∃φ',ak F A w0 φ' (ia st os) tm w∧φ'.β=φ.β∧φ'.V=φ.V∧φ'.S=φ.S∧(∀k,φ'.I k↔φ.I k∨ ∃o∈os,aj st.ob o∧φ.S o k)∧lG st (ia st os) os []
 |[],st,φ,h=>⟨φ,h,rfl,rfl,rfl,fun k=>by simp,lG.refl st⟩
 |o::r,st,φ,h=>by
  obtain⟨φ1,h1,a1,a2,a3,a4⟩:=h.kJ o
  have hl:lG st (kJ st o) [o] []:=by
   unfold T.kJ
   cases hb:aa o st.ob with
   |none=>
    refine⟨fun d=> ?_,fun b cs hb=>⟨by simp,cs,hb,rfl⟩⟩
    by_cases hd:d=o
    ·subst hd;rw[aT (.head _)];exact hb
    ·rw[aH (by simpa using hd)]
   |some b=>
    refine⟨fun d=> ?_,fun b cs hb=>⟨by simp,cr _ b cs hb⟩⟩;show aa d (fT o st.ob)=_;rw[cD]
    by_cases hd:d=o<;>simp[hd]
  obtain⟨φ2,h2,b1,b2,b3,b4,b5⟩:=jx r (kJ st o) φ1 h1;refine⟨φ2,h2,b1.trans a1,b2.trans a2,b3.trans a3,fun k=> ?_,hl.trans b5⟩;rw[b4,a4,a3]
  constructor
  ·rintro((hk|hk)|⟨o',ho',hd,hk⟩)
   ·exact .inl hk
   ·exact .inr ⟨o,.head _,hk⟩
   ·refine .inr ⟨o',.tail _ ho',?_,hk⟩
    obtain⟨b,hb⟩:=hd;rw[hl.ob] at hb
    split at hb
    ·cases hb
    ·exact⟨b,hb⟩
  ·rintro(hk|⟨o',ho',hd,hk⟩)
   ·exact .inl (.inl hk)
   ·by_cases he:o'=o
    ·subst he;exact .inl (.inr ⟨hd,hk⟩)
    ·refine .inr ⟨o',(bg.1 ho').resolve_left he,?_,hk⟩
     obtain⟨b,hb⟩:=hd;exact⟨b,by rw[hl.ob,aH (by simpa using he)];exact hb⟩
theorem Cd {e:TE} {o:Nat}:o∈nZ st e↔2*o∈gJ st e:=by
 have key: ∀(l:List Nat),2*o∈l.map (2* ·)↔o∈l:=fun l=>by
  rw[List.mem_map]
  constructor
  ·rintro⟨x,hx,e⟩
   have:x=o:=by omega
   subst this;exact hx
  ·intro h;exact⟨o,h,rfl⟩
 have bxk: ∀b,2*o∈mT st b↔o∈(match aa b st.bx with|some cs=>cs.flatMap bY|none=>[]):=fun b=>by
  unfold mT
  cases aa b st.bx with
  |none=>simp;omega
  |some cs=>
   simp only[bg];rw[key]
   constructor
   ·rintro(h|h)
    ·omega
    ·exact h
   ·exact .inr
 cases e with
 |v t es=>simp only[nZ,gJ,lA];exact(key _).symm
 |ep d cells=>simp only[nZ,gJ,lA];exact(key _).symm
 |er r p i f=>simp only[nZ,gJ,lA,dw];constructor<;>intro h<;>omega
 |bp b off=>simp only[nZ,gJ];exact(bxk b).symm
 |fn f caps=>
  simp only[nZ,gJ,List.mem_flatMap]
  constructor
  ·rintro⟨b,h1,h2⟩;exact⟨b,h1,(bxk b).2 h2⟩
  ·rintro⟨b,h1,h2⟩;exact⟨b,h1,(bxk b).1 h2⟩
 |_=>simp[nZ,gJ,lA]
theorem jY {o:Nat}: ∀{ps:List ay} {es:List TE} {own dX:List Nat},mU st ps es=some (own,dX)→(o∈borrowed st ps es↔2*o∈dX)
 |[],[],own,dX,h=>by cases h;simp[borrowed]
 |[],_::_,_,_,h=>by cases h
 |_::_,[],_,_,h=>by cases h
 |p::ps,e::es,own,dX,h=>by
  simp only[mU] at h
  split at h
  ·rename_i own0 rd0 hg
   have ih:=jY (o:=o) hg
   cases p with
   |borrow=>cases h;simp only[borrowed,List.mem_append];rw[Cd,ih]
   |inout ms=>
    simp only at h
    split at h
    ·cases h;exact ih
    ·cases h
   |consume ms=>
    simp only at h
    split at h
    ·cases h;exact ih
    ·cases h
  ·cases h
end Go.T
namespace Go.T
variable {F : Nat → Prop} {A : Arg} {w0 w w' : World} {φ φ' : Fp} {st st' sta bh eZ : TS} {tm qc : Array Value} {C : dW}
variable {R : Type} {cf : Cf} {lp : Lp} {Q : R → Prop}
def uF:List ay→List TV→Nat→Option TV
 |[],_,_=>none
 |p::ps,fs,i=>match p with
  | .inout _=>match fs with
    |[]=>none
    |f::fs=>match i with
     |0=>some f
     |i+1=>uF ps fs i
  |_=>match i with
   |0=>none
   |i+1=>uF ps fs i
def Dh (w:World) (NB:Nat→Prop) (aZ:List It) (pos:Nat→Nat) (ms:List Mode) (f:TV) (x:Value):Prop:=match f with
 | .c c=>aZ[pos 0]?=some (.deep,c,x)
 | .ag cs=> ∃ys:Array Value,x= .agg ys∧ys.size=cs.length∧ ∀(j:Nat) (c:TC),cs[j]?=some c→ ∃u,ys[j]?=some u∧aZ[pos j]?=some (.deep,c,u)
 | .bx cs=> ∃(ad:Addr) (us:List Value),x= .pointer (some ad)∧us.length=cs.length∧NB ad.block∧(∀(j:Nat) (u:Value),us[j]?=some u→w.cell? (ad.add j)=some u∧u.cells= #[u]∧w.frozen? (ad.add j)=false)∧
     ∀(j:Nat) (c:TC),cs[j]?=some c→ ∃u,us[j]?=some u∧aZ[pos j]?=some (IF ms j,c,u)
 |_=>False
structure JE (w:World) (NB:Nat→Prop) (ps:List ay) (xs:List Value) (fs:List TV) (aZ:List It) (pos:Nat→Nat→Nat):Prop where
 lt: ∀i f j,uF ps fs i=some f→j<(bQ f).length→pos i j<aZ.length
 inj: ∀i i' f f' j j',uF ps fs i=some f→j<(bQ f).length→uF ps fs i'=some f'→j'<(bQ f').length→pos i j=pos i' j'→i=i'∧j=j'
 at': ∀i f,uF ps fs i=some f→ ∃ms,ps[i]?=some (.inout ms)∧ ∃x,xs[i]?=some x∧Dh w NB aZ (pos i) ms f x
theorem xU {cs:List TC}: ∀{ms:List Mode} {vs:List Value} {j:Nat} {c:TC} {v:Value},cs[j]?=some c→vs[j]?=some v→(aY (Ac ms cs) cs vs)[j]?=some (IF ms j,c,v):=by
 induction cs with
 |nil=>intro ms vs j c v h;simp at h
 |cons c0 cs ih=>
  intro ms vs j c v h1 h2
  cases vs with
  |nil=>simp at h2
  |cons v0 vs=>
   cases j with
   |zero=>simp only[bG,aI] at h1 h2;subst h1 h2;rw[FC];rfl
   |succ j=>rw[FD];exact ih (ms:=ms.drop 1) (by simpa using h1) (by simpa using h2)
theorem zi {cs:List TC} {vs:List Value} {j:Nat} {c:TC} {v:Value} (h1:cs[j]?=some c) (h2:vs[j]?=some v):(aY (Ac [] cs) cs vs)[j]?=some (.deep,c,v):=xU h1 h2
theorem Dh.shift {NB:Nat→Prop} {a b:List It} {pos:Nat→Nat} {ms:List Mode} {f:TV} {x:Value} (h:Dh w NB b pos ms f x):Dh w NB (a++b) (fun j=>a.length+pos j) ms f x:=by
 have sh: ∀{n:Nat} {it:It},b[n]?=some it→(a++b)[a.length+n]?=some it:=fun {n it} hn=>by rw[eA aA,Nat.add_sub_cancel_left];exact hn
 cases f with
 |c c=>exact sh h
 |ag cs=>obtain⟨ys,h1,h2,h3⟩:=h;exact⟨ys,h1,h2,fun j c hj=>let ⟨u,a1,a2⟩:=h3 j c hj;⟨u,a1,sh a2⟩⟩
 |bx cs=>obtain⟨ad,us,h1,h2,h3,h4,h5⟩:=h;exact⟨ad,us,h1,h2,h3,h4,fun j c hj=>let ⟨u,a1,a2⟩:=h5 j c hj;⟨u,a1,sh a2⟩⟩
 |_=>exact h
theorem Ce {NB:Nat→Prop}: ∀{ps:List ay} {xs:List Value} {fs:List TV} {aZ:List It},mj w NB ps xs fs aZ→ ∃pos,JE w NB ps xs fs aZ pos
 |[],[],fs,aZ,h=>⟨fun _ _=>0,fun i f j h=>by simp[uF] at h,fun i i' f f' j j' h=>by simp[uF] at h,fun i f h=>by simp[uF] at h⟩
 |[],_::_,_,_,h=>h.elim
 |_::_,[],_,_,h=>h.elim
 |p::ps,x::xs,fs,aZ,h=>by
  by_cases hp: ∃ms,p= .inout ms
  ·obtain⟨ms,rfl⟩:=hp
   cases fs with
   |nil=>exact h.elim
   |cons f fs=>
    obtain⟨a,b,rfl,hr,hf⟩:=h;obtain⟨pos,p1,p2,p3⟩:=Ce hr
    have hlen:(bQ f).length=a.length:=by
     cases f with
     |c c=>have hf:a=[(.deep,c,x)]:=hf.2;subst hf;rfl
     |ag cs=>obtain⟨_,ys,_,h2,rfl⟩:=hf;exact(dS (ms:=Ac [] cs) (cs:=cs) (vs:=ys.toList) (by simp[h2])).symm
     |bx cs=>obtain⟨ad,us,_,h2,_,_,rfl⟩:=hf;exact(dS (ms:=Ac ms cs) (cs:=cs) (vs:=us) h2.symm).symm
     |_=>exact hf.elim
    refine⟨fun i j=>match i with|0=>j|i+1=>a.length+pos i j,fun i f' j hi hj=> ?_,fun i i' f1 f2 j j' h1 h2 h3 h4 he=> ?_,fun i f' hi=> ?_⟩
    ·rw[cL]
     cases i with
     |zero=>simp only[uF,aI] at hi;subst hi;simp only;omega
     |succ i=>have:=p1 i f' j hi hj;simp only;omega
    ·cases i with
     |zero=>
      simp only[uF,aI] at h1;subst h1
      cases i' with
      |zero=>exact⟨rfl,he⟩
      |succ i'=>simp only at he;omega
     |succ i=>
      cases i' with
      |zero=>
       simp only[uF,aI] at h3;subst h3;simp only at he;omega
      |succ i'=>
       simp only at he;obtain⟨e1,e2⟩:=p2 i i' f1 f2 j j' h1 h2 h3 h4 aA;exact⟨by omega,e2⟩
    ·cases i with
     |zero=>
      simp only[uF,aI] at hi;subst hi
      have lf: ∀{n:Nat} {it:It},a[n]?=some it→(a++b)[n]?=some it:=fun {n it} hn=>by rw[dY (List.getElem?_eq_some_iff.1 hn).1];exact hn
      refine⟨ms,rfl,x,rfl,?_⟩
      cases f with
      |c c=>have hf:a=[(.deep,c,x)]:=hf.2;subst hf;rfl
      |ag cs=>
       obtain⟨_,ys,h1,h2,rfl⟩:=hf;refine⟨ys,h1,h2,fun j c hj=> ?_⟩
       have hlt:j<ys.size:=by rw[h2];exact(List.getElem?_eq_some_iff.1 hj).1
       exact⟨ys[j],jM hlt,lf (zi hj (by simp[hlt]))⟩
      |bx cs=>
       obtain⟨ad,us,h1,h2,h3,h4,rfl⟩:=hf;refine⟨ad,us,h1,h2,h3,h4,fun j c hj=> ?_⟩
       have hlt:j<us.length:=by rw[h2];exact(List.getElem?_eq_some_iff.1 hj).1
       exact⟨us[j],aO hlt,lf (xU hj (aO hlt))⟩
      |_=>exact hf.elim
     |succ i=>
      obtain⟨ms',y0,y,y1,y2⟩:=p3 i f' hi;exact⟨ms',by simpa using y0,y,by simpa using y1,y2.shift⟩
  ·have hr:mj w NB ps xs fs aZ:=by cases p<;>first|exact h|exact absurd ⟨_,rfl⟩ hp
   obtain⟨pos,p1,p2,p3⟩:=Ce hr
   have hz: ∀fs,uF (p::ps) fs 0=none:=fun fs=>by cases p<;>first|rfl|exact absurd ⟨_,rfl⟩ hp
   have hs: ∀fs i,uF (p::ps) fs (i+1)=uF ps fs i:=fun fs i=>by cases p<;>first|rfl|exact absurd ⟨_,rfl⟩ hp
   refine⟨fun i j=>pos (i-1) j,fun i f j hi hj=> ?_,fun i i' f1 f2 j j' h1 h2 h3 h4 he=> ?_,fun i f hi=> ?_⟩
   ·cases i with
    |zero=>rw[hz] at hi;cases hi
    |succ i=>rw[hs] at hi;exact p1 i f j hi hj
   ·cases i with
    |zero=>rw[hz] at h1;cases h1
    |succ i=>
     cases i' with
     |zero=>rw[hz] at h3;cases h3
     |succ i'=>rw[hs] at h1 h3;obtain⟨e1,e2⟩:=p2 i i' f1 f2 j j' h1 h2 h3 h4 he;exact⟨by omega,e2⟩
   ·cases i with
    |zero=>rw[hz] at hi;cases hi
    |succ i=>
     rw[hs] at hi;obtain⟨ms',y0,y,y1,y2⟩:=p3 i f hi;exact⟨ms',by simpa using y0,y,by simpa using y1,y2⟩
structure ng (st:TS) (ps:List ay) (es:List TE) (fs:List TV) (W:List (Nat×OB)) (B:List (Nat×List Mode×List TC)):Prop where
 memW: ∀o b',(o,b')∈W→ ∃(i:Nat) (ms:List Mode) (f:TV) (ag:Bool) (cs:List CE) (j:Nat) (c:TC) (e':CE),ps[i]?=some (.inout ms)∧es[i]?=some (.v false [.mk ag cs])∧uF ps fs i=some f∧(bQ f)[j]?=some c∧cs[j]?=some e'∧hJ st e' c=some [(o,b')]∧(f= .c c∧ag=false∧cs=[e']∨ ∃ts,f= .ag ts∧ag=true)
 allW: ∀(i:Nat) (ms:List Mode) (ag:Bool) (cs:List CE),ps[i]?=some (.inout ms)→es[i]?=some (.v false [.mk ag cs])→ ∃f,uF ps fs i=some f∧ ∀(j:Nat) (e':CE),cs[j]?=some e'→ ∃c l,(bQ f)[j]?=some c∧hJ st e' c=some l∧ ∀x∈l,x∈W
 memB: ∀b ms ts,(b,ms,ts)∈B→ ∃(i:Nat) (cs:List CE),ps[i]?=some (.inout ms)∧es[i]?=some (.bp b 0)∧uF ps fs i=some (.bx ts)∧aa b st.bx=some cs∧cs.length=ts.length
 ndB:(∀(i i' b:Nat) (ms ms':List Mode),ps[i]?=some (.inout ms)→ps[i']?=some (.inout ms')→es[i]?=some (.bp b 0)→es[i']?=some (.bp b 0)→i=i')→B.Pairwise fun x y=>x.1≠y.1
theorem nh {e:CE} {c:TC} {l:List (Nat×OB)} (h:hJ st e c=some l):l=[]∨ ∃o b',l=[(o,b')]∧dm e=some o:=by
 unfold hJ at h
 split at h
 ·cases h;exact .inl rfl
 ·cases h;exact .inl rfl
 ·split at h
  ·split at h
   ·cases h;exact .inr ⟨_,_,rfl,rfl⟩
   ·cases h
  ·cases h
 ·split at h
  ·cases h;exact .inr ⟨_,_,rfl,rfl⟩
  ·cases h
 ·cases h
theorem tM: ∀{cs:List CE} {ts:List TC} {l:List (Nat×OB)},uC st cs ts=some l→ts.length=cs.length∧(∀x∈l,∃(j:Nat) (e':CE) (c:TC) (l':List (Nat×OB)),cs[j]?=some e'∧ts[j]?=some c∧hJ st e' c=some l'∧x∈l')∧
 ∀(j:Nat) (e':CE),cs[j]?=some e'→ ∃c l',ts[j]?=some c∧hJ st e' c=some l'∧ ∀x∈l',x∈l
 |[],[],l,h=>by cases h;exact⟨rfl,fun x hx=>(by cases hx),fun j e' he=>by simp at he⟩
 |[],_::_,_,h=>by cases h
 |_::_,[],_,h=>by cases h
 |e::r,c::cs,l,h=>by
  simp only[uC] at h
  split at h
  ·rename_i a b h1 h2
   cases h
   obtain⟨g1,g2,g3⟩:=tM h2;refine⟨by simp[g1],fun x hx=> ?_,fun j e' he=> ?_⟩
   ·rcases List.mem_append.1 hx with hx|hx
    ·exact⟨0,e,c,a,rfl,rfl,h1,hx⟩
    ·obtain⟨j,e',c',l',a1,a2,a3,a4⟩:=g2 x hx
     exact⟨j+1,e',c',l',by simpa using a1,by simpa using a2,a3,a4⟩
   ·cases j with
    |zero=>simp only[bG,aI] at he;subst he;exact⟨c,a,rfl,h1,fun x hx=>cM _ hx⟩
    |succ j=>
     obtain⟨c',l',a1,a2,a3⟩:=g3 j e' (by simpa using he);exact⟨c',l',by simpa using a1,a2,fun x hx=>eW _ (a3 x hx)⟩
  ·cases h
theorem ng.skip {p:ay} {ps:List ay} {e:TE} {es:List TE} {fs:List TV} {W:List (Nat×OB)} {B:List (Nat×List Mode×List TC)} (ih:ng st ps es fs W B) (hp: ¬ ∃ms,p= .inout ms):ng st (p::ps) (e::es) fs W B:=by
 have hs: ∀fs i,uF (p::ps) fs (i+1)=uF ps fs i:=fun fs i=>by cases p<;>first|rfl|exact absurd ⟨_,rfl⟩ hp
 refine⟨fun o b' hm=> ?_,fun i ms ag cs h1 h2=> ?_,fun b ms ts hm=> ?_,fun hu=>ih.ndB fun i i' b ms ms' h1 h2 h3 h4=> ?_⟩
 ·obtain⟨i,ms,f,ag,cs,j,c,e',a1,a2,a3,a4⟩:=ih.memW o b' hm
  exact⟨i+1,ms,f,ag,cs,j,c,e',by simpa using a1,by simpa using a2,by rw[hs];exact a3,a4⟩
 ·cases i with
  |zero=>simp only[bG,aI] at h1;exact absurd ⟨_,h1⟩ hp
  |succ i=>
   obtain⟨f,a1,a2⟩:=ih.allW i ms ag cs (by simpa using h1) (by simpa using h2);exact⟨f,by rw[hs];exact a1,a2⟩
 ·obtain⟨i,cs,a1,a2,a3,a4⟩:=ih.memB b ms ts hm
  exact⟨i+1,cs,by simpa using a1,by simpa using a2,by rw[hs];exact a3,a4⟩
 ·have:=hu (i+1) (i'+1) b ms ms' (by simpa using h1) (by simpa using h2) (by simpa using h3) (by simpa using h4)
  omega
theorem jZ: ∀{ps:List ay} {es:List TE} {fs:List TV} {W:List (Nat×OB)} {B:List (Nat×List Mode×List TC)},jo st ps es fs=some (W,B)→ng st ps es fs W B
 |[],[],[],W,B,h=>by
  cases h
  exact⟨fun o b' hm=>(by cases hm),fun i ms ag cs h=>by simp at h,fun b ms ts hm=>(by cases hm),fun _=> .nil⟩
 |[],[],_::_,_,_,h=>by cases h
 |[],_::_,_,_,_,h=>by cases h
 |_::_,[],_,_,_,h=>by cases h
 |p::ps,e::es,fs,W,B,h=>by
  by_cases hp: ∃ms,p= .inout ms
  ·obtain⟨ms0,rfl⟩:=hp
   have shiftW: ∀{f:TV} {fs:List TV} {W:List (Nat×OB)} {B:List (Nat×List Mode×List TC)},ng st ps es fs W B→ ∀o b',(o,b')∈W→ ∃(i:Nat) (ms:List Mode) (f':TV) (ag:Bool) (cs:List CE) (j:Nat) (c:TC) (e':CE),(ay.inout ms0::ps)[i]?=some (.inout ms)∧(e::es)[i]?=some (.v false [.mk ag cs])∧uF (.inout ms0::ps) (f::fs) i=some f'∧(bQ f')[j]?=some c∧cs[j]?=some e'∧hJ st e' c=some [(o,b')]∧
    (f'= .c c∧ag=false∧cs=[e']∨ ∃ts,f'= .ag ts∧ag=true):=fun ih o b' hm=>by
    obtain⟨i,ms,f',ag,cs,j,c,e',a1,a2,a3,a4⟩:=ih.memW o b' hm;exact⟨i+1,ms,f',ag,cs,j,c,e',by simpa using a1,by simpa using a2,a3,a4⟩
   have shiftB: ∀{f:TV} {fs:List TV} {W:List (Nat×OB)} {B:List (Nat×List Mode×List TC)},ng st ps es fs W B→ ∀b ms ts,(b,ms,ts)∈B→ ∃(i:Nat) (cs:List CE),(ay.inout ms0::ps)[i]?=some (.inout ms)∧(e::es)[i]?=some (.bp b 0)∧uF (.inout ms0::ps) (f::fs) i=some (.bx ts)∧aa b st.bx=some cs∧cs.length=ts.length:=fun ih b ms ts hm=>by
    obtain⟨i,cs,a1,a2,a3,a4⟩:=ih.memB b ms ts hm;exact⟨i+1,cs,by simpa using a1,by simpa using a2,a3,a4⟩
   have shiftU: ∀{fs:List TV} {W:List (Nat×OB)} {B:List (Nat×List Mode×List TC)},ng st ps es fs W B→(∀(i i' b:Nat) (ms ms':List Mode),(ay.inout ms0::ps)[i]?=some (.inout ms)→(ay.inout ms0::ps)[i']?=some (.inout ms')→(e::es)[i]?=some (.bp b 0)→(e::es)[i']?=some (.bp b 0)→i=i')→B.Pairwise fun x y=>x.1≠y.1:=fun ih hu=>by
    refine ih.ndB fun i i' b ms ms' h1 h2 h3 h4=> ?_;have:=hu (i+1) (i'+1) b ms ms' (by simpa using h1) (by simpa using h2) (by simpa using h3) (by simpa using h4);omega
   simp only[jo] at h
   split at h
   ·rename_i e0 c0 fs0
    split at h
    ·rename_i a b bs h1 h2
     cases h
     have ih:=jZ h2;refine⟨fun o b' hm=> ?_,fun i ms ag cs g1 g2=> ?_,shiftB ih,shiftU ih⟩
     ·rcases List.mem_append.1 hm with hm|hm
      ·rcases nh h1 with rfl|⟨o1,b1,rfl,_⟩
       ·cases hm
       ·simp only[dw] at hm
        cases hm
        exact⟨0,_,_,false,[e0],0,c0,e0,rfl,rfl,rfl,rfl,rfl,h1,.inl ⟨rfl,rfl,rfl⟩⟩
      ·exact shiftW ih o b' hm
     ·cases i with
      |zero=>
       simp only[bG,aI,TE.v.injEq,List.cons.injEq,fR.mk.injEq,and_true,true_and] at g2;obtain⟨rfl,rfl⟩:=g2;refine⟨_,rfl,fun j e' he=> ?_⟩
       cases j with
       |zero=>simp only[bG,aI] at he;subst he;exact⟨c0,a,rfl,h1,fun x hx=>cM _ hx⟩
       |succ j=>simp at he
      |succ i=>
       obtain⟨f,a1,a2⟩:=ih.allW i ms ag cs (by simpa using g1) (by simpa using g2);refine⟨f,a1,fun j e' he=> ?_⟩;obtain⟨c,l,b1,b2,b3⟩:=a2 j e' he;exact⟨c,l,b1,b2,fun x hx=>eW _ (b3 x hx)⟩
    ·cases h
   ·rename_i cs0 ts0 fs0
    split at h
    ·rename_i a b bs h1 h2
     cases h
     have ih:=jZ h2;obtain⟨q1,q2,q3⟩:=tM h1;refine⟨fun o b' hm=> ?_,fun i ms ag cs g1 g2=> ?_,shiftB ih,shiftU ih⟩
     ·rcases List.mem_append.1 hm with hm|hm
      ·obtain⟨j,e',c,l',x1,x2,x3,x4⟩:=q2 _ hm
       rcases nh x3 with rfl|⟨o1,b1,rfl,_⟩
       ·cases x4
       ·simp only[dw] at x4
        cases x4
        exact⟨0,_,_,true,cs0,j,c,e',rfl,rfl,rfl,x2,x1,x3,.inr ⟨_,rfl,rfl⟩⟩
      ·exact shiftW ih o b' hm
     ·cases i with
      |zero=>
       simp only[bG,aI,TE.v.injEq,List.cons.injEq,fR.mk.injEq,and_true,true_and] at g2;obtain⟨rfl,rfl⟩:=g2;refine⟨_,rfl,fun j e' he=> ?_⟩;obtain⟨c,l',x1,x2,x3⟩:=q3 j e' he;exact⟨c,l',x1,x2,fun x hx=>cM _ (x3 x hx)⟩
      |succ i=>
       obtain⟨f,a1,a2⟩:=ih.allW i ms ag cs (by simpa using g1) (by simpa using g2);refine⟨f,a1,fun j e' he=> ?_⟩;obtain⟨c,l,b1,b2,b3⟩:=a2 j e' he;exact⟨c,l,b1,b2,fun x hx=>eW _ (b3 x hx)⟩
    ·cases h
   ·rename_i b0 ts0 fs0
    split at h
    ·rename_i cs0 a bs hb h2
     split at h
     ·rename_i hl
      cases h
      have ih:=jZ h2;refine⟨shiftW ih,fun i ms ag cs g1 g2=> ?_,fun b ms ts hm=> ?_,fun hu=> ?_⟩
      ·cases i with
       |zero=>simp at g2
       |succ i=>exact ih.allW i ms ag cs (by simpa using g1) (by simpa using g2)
      ·rcases bg.1 hm with hm|hm
       ·cases hm
        exact⟨0,cs0,rfl,rfl,rfl,hb,cw hl⟩
       ·exact shiftB ih b ms ts hm
      ·refine List.pairwise_cons.2 ⟨fun x hx e=> ?_,shiftU ih hu⟩
       obtain⟨b,ms,ts⟩:=x;have e:b0=b:=e;subst e;obtain⟨i,cs,a1,a2,_⟩:=ih.memB b0 ms ts hx;have:=hu 0 (i+1) b0 _ _ rfl (by simpa using a1) rfl (by simpa using a2);omega
     ·cases h
    ·cases h
   ·cases h
  ·have h2:jo st ps es fs=some (W,B):=by cases p<;>first|exact h|exact absurd ⟨_,rfl⟩ hp
   exact(jZ h2).skip hp
end Go.T
namespace Go.T
variable {F : Nat → Prop} {A : Arg} {w0 w w' : World} {φ φ' : Fp} {st st' sta bh eZ : TS} {tm qc : Array Value} {C : dW}
variable {R : Type} {cf : Cf} {lp : Lp} {Q : R → Prop}
structure D9 (st:TS) (ps:List ay) (es:List TE) (i j:Nat) (p:ay) (e:TE) (e':CE):Prop where
 hp:ps[i]?=some p
 he:es[i]?=some e
 hb:p≠ .borrow
 hc:(cl st e)[j]?=some e'
theorem lF.key {ps:List ay} {es:List TE} {own dX:List Nat} (g:lF st ps es own dX) {i j:Nat} {p:ay} {e:TE} {e':CE} (a:D9 st ps es i j p e e') {o:Nat} (ho:dm e'=some o):2*o∈own:=by
 obtain⟨l,ok,hl,_,_⟩:=g.ow i p e a.hp a.he a.hb;exact hl _ ((ok.one j e' a.hc).2 o ho)
theorem lF.pos {ps:List ay} {es:List TE} {own dX:List Nat} (g:lF st ps es own dX) {o:Nat} (ho:2*o∈own): ∃i j p e e',D9 st ps es i j p e e'∧dm e'=some o:=by
 obtain⟨i,p,e,l,h1,h2,h3,h4,h5⟩:=g.mem _ ho;obtain⟨j,e',h6,h7⟩:=(sF h4).mem o h5;exact⟨i,j,p,e,e',⟨h1,h2,h3,h6⟩,h7⟩
theorem lF.vt {ps:List ay} {es:List TE} {own dX:List Nat} (g:lF st ps es own dX) (hn:own.Nodup) {o i j i2 j2:Nat} {p p2:ay} {e e2:TE} {e' e2':CE} (a:D9 st ps es i j p e e') (b:D9 st ps es i2 j2 p2 e2 e2') (ha:dm e'=some o) (hb:dm e2'=some o):
 i=i2∧j=j2∧p=p2∧e=e2∧e'=e2':=by
 obtain⟨l,ok,hl,NS,qd⟩:=g.ow i p e a.hp a.he a.hb;obtain⟨l2,ok2,qB,_,Ka⟩:=g.ow i2 p2 e2 b.hp b.he b.hb;have hi:=g.uniq hn i i2 p p2 e e2 l l2 (2*o) a.hp b.hp a.he b.he a.hb b.hb qd Ka ((ok.one j e' a.hc).2 o ha) ((ok2.one j2 e2' b.hc).2 o hb);subst hi;have h1:=a.hp.symm.trans b.hp;have h2:=a.he.symm.trans b.he
 cases h1;cases h2
 have hj:=ok.uniq (NS hn) j j2 e' e2' o a.hc b.hc ha hb;subst hj;have h3:=a.hc.symm.trans b.hc
 cases h3
 exact⟨rfl,rfl,rfl,rfl,rfl⟩
theorem Cg {e:CE} {c:TC} {l:List (Nat×OB)} (h:hJ st e c=some l) {o:Nat} (ho:dm e=some o): ∃b',l=[(o,b')]:=by
 rcases nh h with rfl|⟨o1,b1,rfl,h1⟩
 ·unfold hJ at h
  split at h
  ·cases ho
  ·cases ho
  ·split at h
   ·split at h<;>cases h
   ·cases h
  ·split at h<;>cases h
  ·cases h
 ·rw[ho] at h1;cases h1;exact⟨b1,rfl⟩
theorem vu {ps:List ay} {es:List TE} {own dX:List Nat} (g:lF st ps es own dX) {o:Nat} (ho:o∈cA st ps es): ∃i j p e e',D9 st ps es i j p e e'∧dm e'=some o∧((∃ms,p= .consume ms)∨(∃ms,p= .inout ms)∧ ∃b off,e= .bp b off):=by
 obtain⟨i,p,e,h1,h2,h3⟩:=nc.1 ho;rcases h3 with⟨⟨ms,rfl⟩,ag,cs,rfl,hr⟩|⟨⟨ms,rfl⟩,b,off,cs,rfl,hb,hr⟩
 ·obtain⟨j,cut,hj⟩:=oE.1 hr
  exact⟨i,j,_,_,_,⟨h1,h2,by simp,hj⟩,rfl,.inl ⟨_,rfl⟩⟩
 ·obtain⟨j,cut,hj⟩:=oE.1 hr
  exact⟨i,j,_,_,_,⟨h1,h2,by simp,by simp only[cl,hb];exact hj⟩,rfl,.inr ⟨⟨_,rfl⟩,b,off,rfl⟩⟩
theorem Ea {ps:List ay} {es:List TE} {own dX:List Nat} {fs:List TV} {W:List (Nat×OB)} {B:List (Nat×List Mode×List TC)} (g:lF st ps es own dX) (po:ng st ps es fs W B) {o:Nat} (ho:2*o∈own):o∈cA st ps es∨ ∃b',(o,b')∈W:=by
 obtain⟨i,j,p,e,e',a,hk⟩:=g.pos ho;obtain⟨l,ok,_,_,qd⟩:=g.ow i p e a.hp a.he a.hb
 have refOf:Hw st true e'→ ∃cut,e'= .ref o cut:=fun GM=>by
  cases e' with
  |ref o' cut=>cases hk;exact⟨cut,rfl⟩
  |snap ds loc z rows=>cases loc with
   |none=>cases hk
   |some q=>obtain⟨o1,i1,f1⟩:=q;exact absurd GM.1 cY
  |_=>cases hk
 cases p with
 |borrow=>exact absurd rfl a.hb
 |consume ms=>
  rcases ok.form with⟨b,rfl⟩|⟨_,ag,cs,rfl,hcs⟩
  ·have:=(ok.bx b 0 rfl).2.1;cases this
  ·obtain⟨cut,rfl⟩:=refOf ((hcs j e' a.hc).key hk)
   exact .inl (nc.2 ⟨i,_,_,a.hp,a.he,.inl ⟨⟨_,rfl⟩,ag,cs,rfl,oE.2 ⟨j,cut,a.hc⟩⟩⟩)
 |inout ms=>
  rcases ok.form with⟨b,rfl⟩|⟨_,ag,cs,rfl,hcs⟩
  ·obtain⟨_,_,_,_,hb,GM⟩:=ok.bx b 0 rfl
   obtain⟨cut,rfl⟩:=refOf ((GM j e' a.hc).key hk);exact .inl (nc.2 ⟨i,_,_,a.hp,a.he,.inr ⟨⟨_,rfl⟩,b,0,_,rfl,hb,oE.2 ⟨j,cut,a.hc⟩⟩⟩)
  ·obtain⟨f,_,hall⟩:=po.allW i ms ag cs a.hp a.he
   obtain⟨c,l',_,h2,h3⟩:=hall j e' a.hc;obtain⟨b',rfl⟩:=Cg h2 hk;exact .inr ⟨b',h3 _ (.head _)⟩
theorem iG {ps:List ay} {es:List TE} {fs:List TV} {W:List (Nat×OB)} {B:List (Nat×List Mode×List TC)} (po:ng st ps es fs W B) {o:Nat} {b':OB} (hm:(o,b')∈W):
 ∃i j ms e' ag cs f c,D9 st ps es i j (.inout ms) (.v false [.mk ag cs]) e'∧dm e'=some o∧uF ps fs i=some f∧(bQ f)[j]?=some c∧hJ st e' c=some [(o,b')]∧(f= .c c∧ag=false∧cs=[e']∧j=0∨ ∃ts,f= .ag ts∧ag=true):=by
 obtain⟨i,ms,f,ag,cs,j,c,e',h1,h2,h3,h4,h5,h6,h7⟩:=po.memW o b' hm;refine⟨i,j,ms,e',ag,cs,f,c,⟨h1,h2,by simp,h5⟩,?_,h3,h4,h6,?_⟩
 ·rcases nh h6 with e0|⟨o1,b1,e0,hk⟩
  ·cases e0
  ·cases e0;exact hk
 ·rcases h7 with⟨rfl,rfl,rfl⟩|h7
  ·refine .inl ⟨rfl,rfl,rfl,?_⟩
   have:=(List.getElem?_eq_some_iff.1 h5).1;simp at this;exact this
  ·exact .inr h7
structure KZ (F:Nat→Prop) (A:Arg) (w0 w':World) (φ φ3:Fp) (gS:DR) (st3:TS) (tm:Array Value) (B:List (Nat×List Mode×List TC)) (r:TV) (v:Value) (ri fi:List It) (X:Nat→Nat→Prop) (posB:Nat→Nat→Nat):Prop where
 rel:ak F A w0 φ3 st3 tm w'
 β:φ3.β=φ.β
 res:xM w' X gS.res r v ri
 item: ∀(i:Nat) (it:It),(ri++fi)[i]?=some it→ah w' φ3.I it.1 (X i) it.2.1 it.2.2
 apart: ∀(i j k:Nat),i<(ri++fi).length→j<(ri++fi).length→X i k→X j k→i=j
 free: ∀(i k:Nat),i<ri.length→X i k→gZ F w0 w' φ3 st3 k
 box: ∀b ms ts,(b,ms,ts)∈B→lS b=true∧(φ.β b).spot=none∧(∀cs,aa b st3.bx≠some cs)∧gZ F w0 w' φ3 st3 (φ.β b).block∧(∀i,i<(ri++fi).length→ ¬X i (φ.β b).block)∧
  (∀b' ms' ts',(b',ms',ts')∈B→b'≠b→(φ.β b').block≠(φ.β b).block)∧
  ∃us:List Value,us.length=ts.length∧(∀(j:Nat) (u:Value),us[j]?=some u→w'.cell? ((φ.β b).add j)=some u∧u.cells= #[u]∧w'.frozen? ((φ.β b).add j)=false)∧
   ∀(j:Nat) (c:TC),ts[j]?=some c→ ∃u,us[j]?=some u∧(ri++fi)[posB b j]?=some (IF ms j,c,u)∧ri.length≤posB b j∧ ∀k,X (posB b j) k→gZ F w0 w' φ3 st3 k
 posI: ∀b ms ts b' ms' ts' j j',(b,ms,ts)∈B→(b',ms',ts')∈B→j<ts.length→j'<ts'.length→posB b j=posB b' j'→b=b'∧j=j'
 ndB:B.Pairwise fun x y=>x.1≠y.1
end Go.T
namespace Go.T
variable {F : Nat → Prop} {A : Arg} {w0 w w' : World} {φ φ' : Fp} {st st' sta bh eZ : TS} {tm qc : Array Value} {C : dW}
variable {R : Type} {cf : Cf} {lp : Lp} {Q : R → Prop}
def vv (sh:Bool) (st:TS) (ps:List ay) (es:List TE):List Nat:=match sh with
 |true=>cA st ps es++borrowed st ps es
 |false=>cA st ps es
theorem JF (h:ak F A w0 φ st tm w) (sh:Bool) (ps:List ay) (es:List TE): ∃φ2,ak F A w0 φ2 (oc sh st ps es) tm w∧φ2.β=φ.β∧φ2.V=φ.V∧φ2.S=φ.S∧(∀k,φ.I k→φ2.I k)∧
 (∀k,φ2.I k→φ.I k∨(sh=true∧ ∃o∈borrowed st ps es,aj st.ob o∧φ.S o k))∧(sh=true→ ∀o∈borrowed st ps es,o∉cA st ps es→aj st.ob o→ ∀k,φ.S o k→φ2.I k)∧lG st (oc sh st ps es) (vv sh st ps es) (eR st ps es):=by
 obtain⟨h1,l1⟩:=AK (fQ:=st) ps es st h
 cases sh with
 |false=>exact⟨φ,h1,rfl,rfl,rfl,fun _ h=>h,fun _ h=> .inl h,fun e=>(by cases e),l1⟩
 |true=>
  obtain⟨φ2,h2,a1,a2,a3,a4,a5⟩:=jx (borrowed st ps es) _ _ h1
  have dom1: ∀o,aj (iN st ps es st).ob o↔o∉cA st ps es∧aj st.ob o:=fun o=>by
   unfold aj;rw[l1.ob]
   by_cases ho:o∈cA st ps es
   ·simp[ho]
   ·simp[ho]
  refine⟨φ2,h2,a1,a2,a3,fun k hk=>(a4 k).2 (.inl hk),fun k hk=>((a4 k).1 hk).imp id fun⟨o,o1,o2,o3⟩=>⟨rfl,o,o1,((dom1 o).1 o2).2,o3⟩,fun _ o o1 o2 o3 k hk=>(a4 k).2 (.inr ⟨o,o1,(dom1 o).2 ⟨o2,o3⟩,hk⟩),?_⟩;have:=l1.trans a5;exact(by simpa using this:lG st (ia (iN st ps es st) (borrowed st ps es)) (cA st ps es++borrowed st ps es) (eR st ps es))
theorem Eb (h:ak F A w0 φ st tm w) {gS:DR} {es:List TE} {own dX:List Nat} {xs:List Value} (GZ:mU st gS.ps es=some (own,dX)) (hn:qg own=true) (hm:je own dX=false) (h0:(gS.shares&&dx 0 dX)=false)
 (tq: ∀(i:Nat) (e:TE),es[i]?=some e→ ∃x,xs[i]?=some x∧aQ st.ob w φ e x) {r:TV} {fs:List TV} {v:Value}
 (hp:vj (jh (Cc w φ st gS.ps es) (Dg φ gS.ps es)) (qZ gS.shares (oD φ st dX) (wX φ st dX)) w w' gS xs r fs v) {W:List (Nat×OB)} {B:List (Nat×List Mode×List TC)} (NT:jo st gS.ps es fs=some (W,B)):
 ∃φ3 ri fi X posB,KZ F A w0 w' φ φ3 gS (ja W (oc gS.shares st gS.ps es)) tm B r v ri fi X posB:=by
 obtain⟨CM,I,X,ri,fi,hb,P4,P5⟩:=hp;have g:=mq GZ;have BA:=qp.1 hn;have po:=jZ NT;obtain⟨pos,fp⟩:=Ce P5;obtain⟨φ2,h2,fβ,fV,fS,fI1,fI2,fI3,lost⟩:=JF h gS.shares gS.ps es;have hsize:w.heap.size≤w'.heap.size:=CM.size
 have dom2: ∀{o},aj (oc gS.shares st gS.ps es).ob o→o∉vv gS.shares st gS.ps es∧aj st.ob o:=fun {o} ⟨b,hb⟩=>by
  rw[lost.ob] at hb
  split at hb
  ·cases hb
  ·rename_i hn;exact⟨hn,b,hb⟩
 have goneSub: ∀{o},o∈cA st gS.ps es→o∈vv gS.shares st gS.ps es:=fun {o} ho=>by
  unfold vv;cases gS.shares<;>simp[ho]
 have midSub: ∀{o},o∈vv gS.shares st gS.ps es→o∈cA st gS.ps es∨o∈borrowed st gS.ps es:=fun {o} ho=>by
  unfold vv at ho
  revert ho
  cases gS.shares with
  |true=>intro ho;exact List.mem_append.1 ho
  |false=>exact .inl
 have rdNot: ∀{o},2*o∈own→o∉borrowed st gS.ps es:=fun {o} ho KD=>gu hm ho ((jY GZ).1 KD)
 have wAlive: ∀{o b'},(o,b')∈W→2*o∈own∧o∉vv gS.shares st gS.ps es:=fun {o b'} hw=>by
  obtain⟨i,j,_,e',ag,cs,f,c,a,hk,_⟩:=iG po hw;have ho:=g.key a hk;refine⟨ho,fun hmid=> ?_⟩;rcases midSub hmid with hg|KD
  ·obtain⟨i2,j2,p2,e2,e2',a2,hk2,lu⟩:=vu g hg
   obtain⟨_,_,e1,e3,_⟩:=g.vt BA a a2 hk hk2;subst e1 e3;rcases lu with⟨_,e1⟩|⟨_,b,off,e1⟩<;>cases e1
  ·exact rdNot ho KD
 have notW: ∀{o},aa o W=none→ ∀b',(o,b')∉W:=fun {o} h=>jb h
 have cfX: ∀{k o},jh (Cc w φ st gS.ps es) (Dg φ gS.ps es) k→aj st.ob o→φ.S o k→ ∃i j p e e',D9 st gS.ps es i j p e e'∧dm e'=some o∧ji w φ st e' k:=fun {k o} hk hd hS=>by
  rcases hk with⟨i,j,hx⟩|⟨i,hy⟩
  ·obtain⟨p,e,e',o',l,x1,x2,x3,x4,x5,x6,x7,_⟩:=rz h g tq hx
   have:=h.sep.apart o o' k hd x6 hS x7;subst this;obtain⟨p',e2,y1,y2,y3,y4⟩:=hx;rw[x2] at y2;cases y2;rw[List.getD,x4] at y4;exact⟨i,j,p,e,e',⟨x1,x2,x3,x4⟩,x5,y4⟩
  ·obtain⟨p,b,y1,y2,y3,rfl⟩:=hy
   obtain⟨l,ok,_⟩:=g.ow i p _ y1 y2 y3;obtain⟨_,_,_,_,tw,_⟩:=ok.bx b 0 rfl;exact(h.eP hd hS tw rfl).elim
 have cfOwn: ∀{k},jh (Cc w φ st gS.ps es) (Dg φ gS.ps es) k→(∃o,2*o∈own∧aj st.ob o∧φ.S o k)∨ ∃(i b:Nat) (ms:List Mode) (cs:List CE),gS.ps[i]?=some (ay.inout ms)∧es[i]?=some (TE.bp b 0)∧lS b=true∧aa b st.bx=some cs∧2*b+1∈own∧k=(φ.β b).block:=fun {k} hk=>by
  rcases hk with⟨i,j,hx⟩|⟨i,hy⟩
  ·obtain⟨p,e,e',o',l,x1,x2,x3,x4,x5,x6,x7,_,_,x10⟩:=rz h g tq hx
   exact .inl ⟨o',x10,x6,x7⟩
  ·obtain⟨p,b,y1,y2,y3,rfl⟩:=hy
   obtain⟨l,ok,hl,_⟩:=g.ow i p _ y1 y2 y3;obtain⟨_,hc,hw,GX,tw,_⟩:=ok.bx b 0 rfl
   obtain⟨ms,rfl⟩: ∃ms,p= .inout ms:=by cases p with
    |borrow=>exact absurd rfl y3
    |inout ms=>exact⟨ms,rfl⟩
    |consume ms=>cases hc
   exact .inr ⟨i,b,ms,_,y1,y2,hw,tw,hl _ GX,rfl⟩
 have hβ: ∀b,φ2.β b=φ.β b:=fun b=>by rw[fβ]
 have cfFree: ∀{k},jh (Cc w φ st gS.ps es) (Dg φ gS.ps es) k→k<w.heap.size∧(w0.heap.size≤k∨F k)∧ ¬φ2.I k∧(∀d,aj (oc gS.shares st gS.ps es).ob d→aa d W=none→ ¬φ.S d k)∧ ∀b cs,aa b (oc gS.shares st gS.ps es).bx=some cs→(φ.β b).block≠k:=fun {k} hk=>by
  rcases cfOwn hk with⟨o,ho,hd,hS⟩|⟨i,b,msb,cs,h1,h3,hw,tw,O5,rfl⟩
  ·refine⟨(h.sep.fresh o k hd hS).1,(h.sep.fresh o k hd hS).2,fun hI=> ?_,fun d hd' DM NU=> ?_,fun b cs hb'=> ?_⟩
   ·rcases fI2 k hI with hI|⟨_,o',o1,o2,o3⟩
    ·exact h.sep.read o k hd hS hI
    ·have:=h.sep.apart o o' k hd o2 hS o3
     subst this;exact rdNot ho o1
   ·obtain⟨d1,d2⟩:=dom2 hd'
    have:=h.sep.apart o d k hd d2 hS NU;subst this;rcases Ea g po ho with hg|⟨b',hw⟩
    ·exact d1 (goneSub hg)
    ·exact notW DM b' hw
   ·obtain⟨_,cs0,c0,_⟩:=lost.bx b cs hb'
    exact h.eP hd hS c0
  ·obtain⟨x1,x2,x3,x4⟩:=h.sep.box b cs tw hw
   refine⟨(h.sep.spot b cs tw).2.1,x3,fun hI=> ?_,fun d hd' _ NU=>x2 d (dom2 hd').2 NU,fun b' cs' hb' e=> ?_⟩
   ·rcases fI2 _ hI with hI|⟨_,o',o1,o2,o3⟩
    ·exact x1 hI
    ·exact x2 o' o2 o3
   ·obtain⟨P6,cs0,c0,_⟩:=lost.bx b' cs' hb'
    by_cases wR:b'=b
    ·subst wR;exact P6 (qq.2 ⟨i,_,0,cs,h1,h3,tw⟩)
    ·exact x4 b' cs0 c0 wR e
 have hI: ∀{k},I k→φ2.I k∨w.heap.size≤k∨jh (Cc w φ st gS.ps es) (Dg φ gS.ps es) k:=fun {k} hk=>by
  rcases (hb.ro k hk).2 with h1|h1|⟨O6,h1⟩
  ·exact .inr (.inl h1)
  ·exact .inr (.inr h1)
  ·left
   rcases h1 with h1|⟨o,o1,o2,o3⟩
   ·exact fI1 k h1
   ·have LB:o≠0:=fun e=>by
     subst e;rw[O6] at h0;simp only[nG] at h0;exact bC.1 h0 o1
    have hd:=o2.resolve_left LB;have KD:=(jY GZ).2 o1;refine fI3 O6 o KD (fun hg=> ?_) hd k o3;obtain⟨i2,j2,p2,e2,e2',a2,hk2,_⟩:=vu g hg;exact rdNot (g.key a2 hk2) KD
 have itemFree: ∀{i k},i<(ri++fi).length→X i k→k<w'.heap.size∧(w0.heap.size≤k∨F k)∧ ¬φ2.I k∧ ¬I k∧(∀d,aj (oc gS.shares st gS.ps es).ob d→aa d W=none→ ¬φ.S d k)∧ ∀b cs,aa b (oc gS.shares st gS.ps es).bx=some cs→(φ.β b).block≠k:=fun {i k} hi hk=>by
  obtain⟨r1,r2,r3⟩:=hb.rng i k hi hk;rcases r2 with r2|r2
  ·refine⟨r1,.inl (aB h.frm.size r2),fun hI=> ?_,r3,fun d hd _ hS=> ?_,fun b cs hb' e=> ?_⟩
   ·have:=(h2.sep.ro k hI).1;omega
   ·have:=(h.sep.fresh d k (dom2 hd).2 hS).1;omega
   ·obtain⟨_,cs0,c0,_⟩:=lost.bx b cs hb'
    have:=(h.sep.spot b cs0 c0).2.1;rw[e] at this;omega
  ·obtain⟨c1,c2,c3,c4,c5⟩:=cfFree r2
   exact⟨r1,c2,c3,r3,c4,c5⟩
 let X':Nat→Nat→Prop:=fun o k=> ∃(i j:Nat) (p:ay) (e:TE) (e':CE),D9 st gS.ps es i j p e e'∧dm e'=some o∧((φ.S o k∧ ¬ji w φ st e' k)∨X (ri.length+pos i j) k)
 have MO: ∀{o i j p e e'},D9 st gS.ps es i j p e e'→dm e'=some o→X' o=fun k=>(φ.S o k∧ ¬ji w φ st e' k)∨X (ri.length+pos i j) k:=fun {o i j p e e'} a hk=>by
  funext k
  refine propext ⟨?_,fun hx=>⟨i,j,p,e,e',a,hk,hx⟩⟩;rintro⟨i2,j2,p2,e2,e2',a2,hk2,hx⟩;obtain⟨rfl,rfl,rfl,rfl,rfl⟩:=g.vt BA a a2 hk hk2;exact hx
 have posLt: ∀{o b'},(o,b')∈W→ ∀{i j p e e'},D9 st gS.ps es i j p e e'→dm e'=some o→ri.length+pos i j<(ri++fi).length:=fun {o b'} hw {i j p e e'} a hk=>by
  obtain⟨i2,j2,_,e2',ag,cs,f,c,a2,hk2,hf,hc,_⟩:=iG po hw;obtain⟨rfl,rfl,rfl,rfl,rfl⟩:=g.vt BA a a2 hk hk2;have:=fp.lt i f j hf (List.getElem?_eq_some_iff.1 hc).1;rw[cL];omega
 have posNe: ∀{o1 b1 o2 b2},(o1,b1)∈W→(o2,b2)∈W→ ∀{i j p e e' i2 j2 p2 e2 e2'},D9 st gS.ps es i j p e e'→dm e'=some o1→D9 st gS.ps es i2 j2 p2 e2 e2'→dm e2'=some o2→ri.length+pos i j=ri.length+pos i2 j2→o1=o2:=fun {o1 b1 o2 b2} hw1 zT {i j p e e' i2 j2 p2 e2 e2'} a hk a2 hk2 heq=>by
  obtain⟨i3,j3,_,e3',ag,cs,f,c,a3,NV,hf,hc,_⟩:=iG po hw1;obtain⟨rfl,rfl,rfl,rfl,rfl⟩:=g.vt BA a a3 hk NV;obtain⟨i4,j4,_,e4',ag4,cs4,f4,c4,a4,P7,P8,P9,_⟩:=iG po zT;obtain⟨rfl,rfl,rfl,rfl,rfl⟩:=g.vt BA a2 a4 hk2 P7;obtain⟨rfl,rfl⟩:=fp.inj i i2 f f4 j j2 hf (List.getElem?_eq_some_iff.1 hc).1 P8 (List.getElem?_eq_some_iff.1 P9).1 aA;have e1:=a.hc;have e2:=a2.he;rw[a.he] at e2;cases e2;have e3:=a2.hc;rw[e1] at e3;cases e3
  rw[hk] at hk2;cases hk2
  rfl
 have frm':CX F w0 w':=by
  refine⟨CM.os.trans h.frm.os,CM.tape.trans h.frm.tape,CM.output.trans h.frm.output,aB h.frm.size hsize,fun k hk hF=> ?_⟩
  rw[CM.block k (cW hk h.frm.size) fun hc=>by
   rcases (cfFree hc).2.1 with h3|h3
   ·omega
   ·exact hF h3]
  exact h.frm.block k hk hF
 have R3:=h2.wrote (w':=w') W X' I (jh (Cc w φ st gS.ps es) (Dg φ gS.ps es)) frm' hsize (fun k hk hn=>CM.block k hk hn) (fun k hk=>(cfFree hk).2.1) (fun k hk=>(cfFree hk).2.2.1)
  (fun k o hk ho DM hS=>by rw[fS] at hS;exact(cfFree hk).2.2.2.1 o ho DM hS) (fun b cs hb' hk=>by rw[hβ] at hk;exact(cfFree hk).2.2.2.2 b cs hb' rfl)
  (fun o b' kj=>by
    have hw:=cK kj;obtain⟨i,j,_,e',ag,cs,f,c,a,hkey,hf,hc,zW,hform⟩:=iG po hw;obtain⟨hown,hnm⟩:=wAlive hw;obtain⟨msF,Kb,x,hx,hfa⟩:=fp.at' i f hf;obtain⟨x',hx',EI⟩:=tq i _ a.he;rw[hx] at hx';cases hx'
    obtain⟨u,hu,hce⟩: ∃u,fi[pos i j]?=some (.deep,c,u)∧aW st.ob w φ e' u:=by
     rcases hform with⟨rfl,rfl,rfl,rfl⟩|⟨ts,rfl,rfl⟩
     ·obtain⟨c0,e0,EI⟩:=EI
      cases e0
      obtain⟨e1,e2,_,h3⟩:=EI
      cases e2
      exact⟨x,hfa,h3⟩
     ·obtain⟨ys,rfl,_,hys⟩:=hfa
      obtain⟨c0,e0,EI⟩:=EI
      cases e0
      obtain⟨zs,e1,_,h3⟩:=EI
      cases e1
      obtain⟨u,u1,u2⟩:=hys j c hc;obtain⟨u',u3,_,u4⟩:=h3 j e' a.hc;rw[u1] at u3;cases u3;exact⟨u,u2,u4⟩
    have hidx:(ri++fi)[ri.length+pos i j]?=some (.deep,c,u):=by rw[eA aA,Nat.add_sub_cancel_left];exact hu
    have DN:=hb.ok _ _ hidx;simp only at DN;have hlt:=posLt hw a hkey;rw[MO a hkey]
    obtain⟨b0,hb0,NW,hz,hlen,hcell⟩: ∃b0,aa o st.ob=some b0∧b'.deep=true∧b'.z=b0.z∧b'.rows.length=b0.rows.length∧ah w' (fun k=>φ2.I k∨I k) .deep (fun k=>(φ.S o k∧ ¬ji w φ st e' k)∨X (ri.length+pos i j) k) (.sub b'.z b'.rows) (φ.V o):=by
     unfold hJ at zW
     split at zW
     ·cases hkey
     ·cases hkey
     ·rename_i o' z rows
      cases hkey
      split at zW
      ·rename_i z0 e8 qd
       split at zW
       ·rename_i tD
        have tD:=cw tD;subst tD;simp only[aI,List.cons.injEq,nI,and_true,true_and] at zW;subst zW;obtain⟨b1,g1,g2⟩:=hce;have g2:u=φ.V o:=g2;subst g2
        have LZ:rows.length=e8.length:=by
         have hO:=h.obj o _ qd;unfold eE at hO;obtain⟨A1,c1,e1,_⟩:=ah.len DN;obtain⟨A2,c2,e2,_⟩:=ah.len hO;rw[e1] at e2
         injection e2 with _ e3 _
        exact⟨_,qd,rfl,rfl,LZ,(DN.pU rfl).mono fun k hk=> .inr hk⟩
       ·cases zW
      ·cases zW
     ·rename_i ds o' i0 f0 z0 e8 z' au
      cases hkey
      split at zW
      ·rename_i z rows qd tD
       have tD:=cw tD;subst tD;simp only[aI,List.cons.injEq,nI,and_true,true_and] at zW;subst zW;obtain⟨_,_,h3⟩:=hce;obtain⟨_,b1,g1,g2,g3,ad,n,c',g4,g5⟩:=h3 o i0 f0 rfl;rw[qd] at g1;cases g1;obtain⟨_,q2,q3⟩:=sC h o i0 f0 _ ad n c' _ u qd rfl g4 g3 g5
       have hcl:=q3 w' (.sub z' au) (fun k=>φ2.I k∨I k) (X (ri.length+pos i j)) (DN.pU rfl) (fun k hk hn'=>CM.block k (h.sep.fresh o k ⟨_,qd⟩ hk).1 fun pN=>by
        obtain⟨i2,j2,p2,e2,e2',a2,hk2,CL⟩:=cfX pN ⟨_,qd⟩ hk;obtain⟨_,_,_,_,e5⟩:=g.vt BA a a2 rfl hk2;subst e5
        exact hn' CL)
        (fun k hk=>by
          rcases (hb.rng _ k hlt hk).2.1 with r2|r2
          ·right;intro hS;have:=(h.sep.fresh o k ⟨_,qd⟩ hS).1;omega
          ·by_cases hS:φ.S o k
           ·left
            obtain⟨i2,j2,p2,e2,e2',a2,hk2,CL⟩:=cfX r2 ⟨_,qd⟩ hS;obtain⟨_,_,_,_,e5⟩:=g.vt BA a a2 rfl hk2;subst e5;exact CL
           ·exact .inr hS)
       refine⟨_,qd,rfl,rfl,by simp only[iu,de],?_⟩;simp only[iu];exact hcl
      ·cases zW
     ·cases zW
    have G0:aj st.ob o:=⟨b0,hb0⟩
    have qB:aa o (oc gS.shares st gS.ps es).ob=some b0:=by rw[lost.ob,aH hnm];exact hb0
    refine⟨b0,qB,hz,hlen,?_,fun k hk=> ?_⟩
    ·rw[fV]
     have:b'.m= .deep:=by unfold OB.m;rw[NW];rfl
     rw[this];exact hcell
    ·
     have ofS:φ.S o k→ ¬ji w φ st e' k→ ¬I k∧ ¬jh (Cc w φ st gS.ps es) (Dg φ gS.ps es) k:=fun hS hnp=>by
      have L0: ¬jh (Cc w φ st gS.ps es) (Dg φ gS.ps es) k:=fun pN=>by
       obtain⟨i2,j2,p2,e2,e2',a2,hk2,CL⟩:=cfX pN G0 hS;obtain⟨_,_,_,_,e5⟩:=g.vt BA a a2 hkey hk2;subst e5;exact hnp CL
      refine⟨fun Qa=> ?_,L0⟩;rcases hI Qa with h3|h3|h3
      ·exact h2.sep.read o k ⟨_,qB⟩ (by rw[fS];exact hS) h3
      ·have:=(h.sep.fresh o k G0 hS).1;omega
      ·exact L0 h3
     have noS: ∀{d b1},aa d W=some b1→X' d k→d=o:=fun {d b1} Kd KE=>by
      have mO:=cK Kd;obtain⟨i2,j2,_,e2',ag2,cs2,f2,c2,a2,hk2,_⟩:=iG po mO;rw[MO a2 hk2] at KE
      have DK:aj st.ob d:=by
       have:=(wAlive mO).1;obtain⟨x2,GN,NX⟩:=tq i2 _ a2.he;obtain⟨u2,NY⟩:=m8 h NX a2.hc;obtain⟨l,ok,_⟩:=g.ow i2 _ _ a2.hp a2.he a2.hb;obtain⟨⟨cb,_,GM,_⟩,_⟩:=ok.one j2 e2' a2.hc;have GM:=GM.key hk2
       cases e2' with
       |ref o1 cut=>cases hk2;obtain⟨b2,g1,_⟩:=NY;exact⟨b2,g1⟩
       |snap ds loc z rows=>cases loc with
        |none=>cases hk2
        |some q=>obtain⟨o1,i1,f1⟩:=q;cases hk2;obtain⟨_,_,ud⟩:=oB GM.2;exact⟨_,ud⟩
       |_=>cases hk2
      rcases KE with⟨s1,s2⟩|s1
      ·rcases hk with⟨t1,t2⟩|t1
       ·exact h.sep.apart d o k DK G0 s1 t1
       ·
        exfalso
        rcases (hb.rng _ k hlt t1).2.1 with r2|r2
        ·have:=(h.sep.fresh d k DK s1).1;omega
        ·obtain⟨i3,j3,p3,e3,e3',a3,NV,Qb⟩:=cfX r2 DK s1
         obtain⟨_,_,_,_,e5⟩:=g.vt BA a2 a3 hk2 NV;subst e5;exact s2 Qb
      ·rcases hk with⟨t1,t2⟩|t1
       ·exfalso
        rcases (hb.rng _ k (posLt mO a2 hk2) s1).2.1 with r2|r2
        ·have:=(h.sep.fresh o k G0 t1).1;omega
        ·exact(ofS t1 t2).2 r2
       ·exact posNe mO hw a2 hk2 a hkey (hb.apart _ _ k (posLt mO a2 hk2) hlt s1 t1)
     rcases hk with⟨t1,t2⟩|t1
     ·refine⟨cW (h.sep.fresh o k G0 t1).1 hsize,(h.sep.fresh o k G0 t1).2,h2.sep.read o k ⟨_,qB⟩ (by rw[fS];exact t1),(ofS t1 t2).1,fun d hd DM hS=> ?_,fun d b1 Kd KE=>noS Kd KE,fun b cs hb' _=> ?_⟩
      ·rw[fS] at hS
       have:=h.sep.apart d o k (dom2 hd).2 G0 hS t1;subst this;rw[kj] at DM;cases DM
      ·obtain⟨_,cs0,c0,_⟩:=lost.bx b cs hb'
       rw[hβ];exact h.eP G0 t1 c0
     ·obtain⟨q1,q2,q3,q4,q5,q6⟩:=itemFree hlt t1
      exact⟨q1,q2,q3,q4,fun d hd DM hS=>q5 d hd DM (by rw[fS] at hS;exact hS),fun d b1 Kd KE=>noS Kd KE,fun b cs hb' _=>by rw[hβ];exact q6 b cs hb'⟩)
  (fun k hk=>by
    rcases hI hk with h3|h3|h3
    ·refine⟨(hb.ro k hk).1,(h2.sep.ro k h3).2,fun d hd _=>fun hS=>h2.sep.read d k hd hS h3,fun b cs hb' pM e=> ?_⟩
     exact(h2.sep.box b cs hb' pM).1 (by rw[e];exact h3)
    ·refine⟨(hb.ro k hk).1,.inl (aB h.frm.size h3),fun d hd _ hS=> ?_,fun b cs hb' _ e=> ?_⟩
     ·have:=(h2.sep.fresh d k hd hS).1;omega
     ·have:=(h2.sep.spot b cs hb').2.1;rw[e] at this;omega
    ·obtain⟨c1,c2,c3,c4,c5⟩:=cfFree h3
     exact⟨(hb.ro k hk).1,c2.elim .inl fun hF=> .inr (.inl hF),fun d hd DM hS=>c4 d hd DM (by rw[fS] at hS;exact hS),fun b cs hb' _=>by rw[hβ];exact c5 b cs hb'⟩)
 have dom3: ∀{o},aj (ja W (oc gS.shares st gS.ps es)).ob o→aj (oc gS.shares st gS.ps es).ob o:=fun {o} hd=>by
  cases W with
  |nil=>exact hd
  |cons a q=>
   obtain⟨b,hb'⟩:=hd;have hb':aa o (c7 (a::q) (oc gS.shares st gS.ps es).ob)=some b:=hb';rw[gQ] at hb'
   cases hl:aa o (a::q) with
   |none=>rw[hl] at hb';exact⟨b,hb'⟩
   |some b1=>
    have hw:=cK hl;obtain⟨hown,hnm⟩:=wAlive hw;obtain⟨i,j,_,e',ag,cs,f,c,a',hkey,_⟩:=iG po hw;obtain⟨x2,GN,NX⟩:=tq i _ a'.he;obtain⟨u2,NY⟩:=m8 h NX a'.hc;obtain⟨l,ok,_⟩:=g.ow i _ _ a'.hp a'.he a'.hb;obtain⟨⟨cb,_,GM,_⟩,_⟩:=ok.one j e' a'.hc;have GM:=GM.key hkey
    have G0:aj st.ob o:=by
     cases e' with
     |ref o1 cut=>cases hkey;obtain⟨b2,g1,_⟩:=NY;exact⟨b2,g1⟩
     |snap ds loc z rows=>cases loc with
      |none=>cases hkey
      |some q=>obtain⟨o1,i1,f1⟩:=q;cases hkey;obtain⟨_,_,ud⟩:=oB GM.2;exact⟨_,ud⟩
     |_=>cases hkey
    obtain⟨b0,hb0⟩:=G0;exact⟨b0,by rw[lost.ob,aH hnm];exact hb0⟩
 have bx3: ∀{b cs},aa b (ja W (oc gS.shares st gS.ps es)).bx=some cs→ ∃cs0,aa b (oc gS.shares st gS.ps es).bx=some cs0:=fun {b cs} hb'=>by
  cases W with
  |nil=>exact⟨cs,hb'⟩
  |cons a q=>obtain⟨cs0,c0,_⟩:=cr _ b cs hb';exact⟨cs0,c0⟩
 have R3S: ∀{o k},aj (ja W (oc gS.shares st gS.ps es)).ob o→(φ2.wr W X' I).S o k→(aa o W=none∧φ.S o k)∨ ∃b',(o,b')∈W∧X' o k:=fun {o k} _ hS=>by
  cases hl:aa o W with
  |none=>rw[wV hl,fS] at hS;exact .inl ⟨rfl,hS⟩
  |some b'=>rw[AF hl] at hS;exact .inr ⟨b',cK hl,hS⟩
 have freeOf: ∀{n k},n<(ri++fi).length→(∀o b',(o,b')∈W→ ∀i j p e e',D9 st gS.ps es i j p e e'→dm e'=some o→ri.length+pos i j≠n)→X n k→gZ F w0 w' (φ2.wr W X' I) (ja W (oc gS.shares st gS.ps es)) k:=fun {n k} hlt hne hx=>by
  obtain⟨q1,q2,q3,q4,q5,q6⟩:=itemFree hlt hx;refine⟨q1,q2,fun hi=>hi.elim q3 q4,fun o hd hS=> ?_,fun b cs hb'=> ?_⟩
  ·rcases R3S hd hS with⟨DM,hS⟩|⟨b',hw,hx'⟩
   ·exact q5 o (dom3 hd) DM hS
   ·obtain⟨i,j,_,e',ag,cs,f,c,a,hkey,_⟩:=iG po hw
    rw[MO a hkey] at hx';rcases hx' with⟨s1,s2⟩|s1
    ·obtain⟨_,MI⟩:=dom2 (dom3 hd)
     rcases (hb.rng n k hlt hx).2.1 with r2|r2
     ·have:=(h.sep.fresh o k MI s1).1;omega
     ·obtain⟨i2,j2,p2,e2,e2',a2,hk2,CL⟩:=cfX r2 MI s1
      obtain⟨_,_,_,_,e5⟩:=g.vt BA a a2 hkey hk2;subst e5;exact s2 CL
    ·exact hne o b' hw i j _ _ e' a hkey (hb.apart _ _ k (posLt hw a hkey) hlt s1 hx)
  ·obtain⟨cs0,c0⟩:=bx3 hb'
   show(φ2.β b).block≠k;rw[hβ];exact q6 b cs0 c0
 have uniqI: ∀(i i' b:Nat) (ms ms':List Mode),gS.ps[i]?=some (.inout ms)→gS.ps[i']?=some (.inout ms')→es[i]?=some (.bp b 0)→es[i']?=some (.bp b 0)→i=i':=fun i i' b ms ms' h1 DO h3 h4=>by
  obtain⟨l,ok,_,_,qd⟩:=g.ow i _ _ h1 h3 cY;obtain⟨l2,ok2,_,_,Ka⟩:=g.ow i' _ _ DO h4 cY;exact g.uniq BA i i' _ _ _ _ l l2 (2*b+1) h1 DO h3 h4 cY cY qd Ka (ok.bx b 0 rfl).2.2.2.1 (ok2.bx b 0 rfl).2.2.2.1
 let iOf:Nat→Nat:=fun b=>Classical.epsilon fun i=>(∃ms,gS.ps[i]?=some (.inout ms))∧es[i]?=some (.bp b 0)
 have Ke: ∀{i b ms},gS.ps[i]?=some (.inout ms)→es[i]?=some (.bp b 0)→iOf b=i:=fun {i b ms} h1 h3=>by
  have:=Classical.epsilon_spec (p:=fun i=>(∃ms,gS.ps[i]?=some (ay.inout ms))∧es[i]?=some (TE.bp b 0)) ⟨i,⟨ms,h1⟩,h3⟩;obtain⟨⟨ms',rZ⟩,GV⟩:=this;exact uniqI _ _ b _ _ rZ h1 GV h3
 refine⟨φ2.wr W X' I,ri,fi,X,fun b j=>ri.length+pos (iOf b) j,⟨R3,fβ,P4,fun i it hi=>(hb.ok i it hi).fh fun k hk=> .inr hk,hb.apart,fun i k hi hk=>freeOf (by rw[cL];omega) (fun o b' hw i' j' p e e' a hkey hne=>by omega) hk,fun b ms ts Qd=> ?_,fun b ms ts b' ms' ts' j j' hb1 hb2 hj hj' he=> ?_,po.ndB uniqI⟩⟩
 ·obtain⟨i,cs,g1,g2,g3,g4,g5⟩:=po.memB b ms ts Qd
  obtain⟨msF,Kb,x,hx,hfa⟩:=fp.at' i _ g3;rw[g1] at Kb
  cases Kb
  obtain⟨x',hx',EI⟩:=tq i _ g2;rw[hx] at hx';cases hx';have EI:x= .pointer (some ((φ.β b).add 0)):=EI;rw[Addr.add_zero'] at EI;obtain⟨ad,us,e1,e2,⟨nb1,nb2⟩,e4,e5⟩:=hfa;rw[EI] at e1
  cases e1
  obtain⟨l,ok,hl,_⟩:=g.ow i _ _ g1 g2 cY;obtain⟨_,_,pM,GX,_,_⟩:=ok.bx b 0 rfl;have pN:jh (Cc w φ st gS.ps es) (Dg φ gS.ps es) (φ.β b).block:= .inr ⟨i,_,b,g1,g2,by simp,rfl⟩;obtain⟨c1,c2,c3,c4,c5⟩:=cfFree pN;refine⟨pM,(h.sep.spot b cs g4).1 pM,fun cs' hb'=> ?_,⟨cW c1 hsize,c2,fun hi=>hi.elim c3 nb1,fun o hd hS=> ?_,fun b' cs' hb'=> ?_⟩,nb2,fun b' ms' ts' hb' hne=> ?_,us,e2,e4,fun j c hj=> ?_⟩
  ·obtain⟨cs0,c0⟩:=bx3 hb'
   exact(lost.bx b cs0 c0).1 (qq.2 ⟨i,_,0,cs,g1,g2,g4⟩)
  ·rcases R3S hd hS with⟨DM,hS⟩|⟨b',hw,hx'⟩
   ·exact c4 o (dom3 hd) DM hS
   ·obtain⟨i',j',_,e',ag,cs',f,c,a,hkey,_⟩:=iG po hw
    rw[MO a hkey] at hx';rcases hx' with⟨s1,s2⟩|s1
    ·exact h.eP (dom2 (dom3 hd)).2 s1 g4 rfl
    ·exact nb2 _ (posLt hw a hkey) s1
  ·obtain⟨cs0,c0⟩:=bx3 hb'
   show(φ2.β b').block≠_;rw[hβ];exact c5 b' cs0 c0
  ·obtain⟨i',cs',k1,k2,k3,k4,k5⟩:=po.memB b' ms' ts' hb'
   exact(h.sep.box b cs g4 pM).2.2.2 b' cs' k4 hne
  ·obtain⟨u,u1,u2⟩:=e5 j c hj
   have hi:=Ke g1 g2;simp only[hi];have hlt:=fp.lt i _ j g3 (List.getElem?_eq_some_iff.1 hj).1;refine⟨u,u1,by rw[eA aA,Nat.add_sub_cancel_left];exact u2,by omega,fun k hk=>freeOf (by rw[cL];omega) (fun o b' hw i' j' p e e' a hkey hne=> ?_) hk⟩;obtain⟨i2,j2,_,e2',ag,cs',f,c',a2,hk2,O0,MN,_⟩:=iG po hw;obtain⟨rfl,rfl,rfl,rfl,rfl⟩:=g.vt BA a a2 hkey hk2;obtain⟨rfl,_⟩:=fp.inj i' i f _ j' j O0 (List.getElem?_eq_some_iff.1 MN).1 g3 (List.getElem?_eq_some_iff.1 hj).1 aA
   have:=a.he;rw[g2] at this
   cases this
 ·obtain⟨i,cs,g1,g2,g3,_⟩:=po.memB b ms ts hb1
  obtain⟨i',cs',g1',g2',g3',_⟩:=po.memB b' ms' ts' hb2;have he:ri.length+pos (iOf b) j=ri.length+pos (iOf b') j':=he;rw[Ke g1 g2,Ke g1' g2'] at he;obtain⟨rfl,rfl⟩:=fp.inj i i' _ _ j j' g3 hj g3' hj' aA;rw[g2] at g2'
  cases g2'
  exact⟨rfl,rfl⟩
end Go.T
namespace Go.T
variable {F : Nat → Prop} {A : Arg} {w0 w w' : World} {φ φ' φ1 : Fp} {st st' sta bh eZ : TS} {tm qc : Array Value} {C : dW}
variable {R : Type} {cf : Cf} {lp : Lp} {Q : R → Prop}
theorem HB {o:Nat} {b:OB} {X:Nat→Prop} {V:Value} (h0:o≠0) {e:CE} {v:Value} (h:aW st.ob w φ e v) (hd:o∉bY e):aW (nY o b st).ob w (φ.add o X V) e v:=by
 have h1:=h.kill (o:=o)
 have h2:xz o e=e:=by unfold xz;rw[bC.2 hd]
 rw[h2] at h1;exact h1.add h0 (fun hd=>(eK.1 hd).1 rfl)
theorem gZ.nY {o k:Nat} {b:OB} {X:Nat→Prop} {V:Value} (h:gZ F w0 w φ st k) (hX: ¬X k):gZ F w0 w (φ.add o X V) (nY o b st) k:=by
 refine⟨h.lt,h.new,h.I,fun d hd hk=> ?_,fun c cs hb=> ?_⟩
 ·by_cases he:d=o
  ·subst he
   have hk:(if d=d then X k else φ.S d k):=hk;rw[aT rfl] at hk;exact hX hk
  ·rw[jg he] at hk
   have hd:aj (eN o b (fT o st.ob)) d:=hd;rcases cN.1 hd with e|hd
   ·exact he e
   ·exact h.S d (eK.1 hd).2 hk
 ·have hb:aa c (mapA (List.map (xz o)) st.bx)=some cs:=hb
  obtain⟨cs0,c0,_⟩:=cr _ c cs hb;exact h.B c cs0 c0
def ni (st st':TS):Prop:= ∀b cs,aa b st'.bx=some cs→ ∃cs0,aa b st.bx=some cs0∧cs.length=cs0.length
theorem ni.refl (st:TS):ni st st:=fun b cs h=>⟨cs,h,rfl⟩
theorem ni.trans {a b c:TS} (h:ni a b) (k:ni b c):ni a c:=fun x cs hx=>by
 obtain⟨c1,a1,a2⟩:=k x cs hx;obtain⟨c0,b1,b2⟩:=h x c1 a1;exact⟨c0,b1,a2.trans b2⟩
theorem HC {o:Nat} {b:OB}:ni st (nY o b st):=fun c cs hb=>cr _ c cs hb
structure Made (F:Nat→Prop) (A:Arg) (w0 w:World) (φ φ':Fp) (st st':TS) (tm:Array Value) (nums:Nat→Prop) (Xs:Nat→Prop):Prop where
 rel:ak F A w0 φ' st' tm w
 β:φ'.β=φ.β
 I:φ'.I=φ.I
 keep: ∀e v,aW st.ob w φ e v→(∀o∈bY e,¬nums o)→aW st'.ob w φ' e v
 free: ∀k,gZ F w0 w φ st k→ ¬Xs k→gZ F w0 w φ' st' k
 bx:ni st st'
theorem Made.refl (h:ak F A w0 φ st tm w) {nums Xs:Nat→Prop}:Made F A w0 w φ φ st st tm nums Xs:=⟨h,rfl,rfl,fun e v h _=>h,fun k h _=>h,ni.refl st⟩
theorem Made.trans {φ2:Fp} {n1 n2 X1 X2 nums Xs:Nat→Prop} (h:Made F A w0 w φ φ1 st bh tm n1 X1) (k:Made F A w0 w φ1 φ2 bh eZ tm n2 X2) (hn: ∀o,n1 o∨n2 o→nums o) (hX: ∀x,X1 x∨X2 x→Xs x):Made F A w0 w φ φ2 st eZ tm nums Xs:=
 ⟨k.rel,k.β.trans h.β,k.I.trans h.I,fun e v he hd=>k.keep e v (h.keep e v he fun o ho hc=>hd o ho (hn o (.inl hc))) fun o ho hc=>hd o ho (hn o (.inr hc)),
   fun x hf hx=>k.free x (h.free x hf fun hc=>hx (hX x (.inl hc))) fun hc=>hx (hX x (.inr hc)),h.bx.trans k.bx⟩
theorem fz {f:Nat→Nat} (J2: ∀j,f j≠0) (hinj: ∀j j',f j=f j'→j=j'): ∀(cs:List TC) (ms:List Mode) (j:Nat) (st:TS) (φ:Fp) (vs:List Value) (X:Nat→Nat→Prop),ak F A w0 φ st tm w→vs.length=cs.length→
 (∀(n:Nat) (c:TC) (v:Value),cs[n]?=some c→vs[n]?=some v→ah w φ.I (ms.getD n .snap) (X n) c v)→(∀n k,n<cs.length→X n k→gZ F w0 w φ st k)→(∀n n' k,n<cs.length→n'<cs.length→X n k→X n' k→n=n')→
 ∃φ',Made F A w0 w φ φ' st (aF f ms j cs st).2 tm (fun o=> ∃n,j≤n∧n<j+cs.length∧o=f n) (fun k=> ∃n,n<cs.length∧X n k)∧(aF f ms j cs st).1.length=cs.length∧
  ∀(n:Nat) (e:CE) (v:Value),(aF f ms j cs st).1[n]?=some e→vs[n]?=some v→aW (aF f ms j cs st).2.ob w φ' e v∧ ∀o∈bY e,∃n,j≤n∧n<j+cs.length∧o=f n
 |[],ms,j,st,φ,vs,X,h,hl,hc,hF,hd=>⟨φ,Made.refl h,rfl,fun n e v he=>by simp[aF] at he⟩
 |c::cs,ms,j,st,φ,vs,X,h,hl,hc,hF,hd=>by
  cases vs with
  |nil=>cases hl
  |cons v vs=>
   have h0:=hc 0 c v rfl rfl
   obtain⟨φ1,bh,e1,m1,Qe,GO,I9⟩: ∃φ1 bh e1,Made F A w0 w φ φ1 st bh tm (fun o=>o=f j) (X 0)∧aW bh.ob w φ1 e1 v∧(∀o∈bY e1,o=f j)∧aF f ms j (c::cs) st=(e1::(aF f (ms.drop 1) (j+1) cs bh).1,(aF f (ms.drop 1) (j+1) cs bh).2):=by
    cases c with
    |any=>exact⟨φ,st,.gone,Made.refl h,trivial,fun o ho=>(by cases ho),rfl⟩
    |sc x=>
     refine⟨φ,st,.sc x,Made.refl h,?_,fun o ho=>(by cases ho),rfl⟩
     cases h0 with|sc _ _ _ hs=>exact⟨rfl,hs⟩
    |sub z rows=>
     have mk: ∀dp,(ms.getD 0 .snap)=OB.m ⟨dp,z,rows⟩→ ∃φ1,Made F A w0 w φ φ1 st (nY (f j) ⟨dp,z,rows⟩ st) tm (fun o=>o=f j) (X 0)∧aW (nY (f j) ⟨dp,z,rows⟩ st).ob w φ1 (.ref (f j) none) v:=fun dp hm=>by
      rw[hm] at h0
      have hr:=h.nY (o:=f j) (b:=⟨dp,z,rows⟩) (J2 j) h0 (fun k hk=>⟨(hF 0 k cY hk).lt,(hF 0 k cY hk).new⟩) (fun k hk=>(hF 0 k cY hk).I) (fun k d hk _ LH=>(hF 0 k cY hk).S d LH)
       (fun b cs hb _ hk=>(hF 0 _ cY hk).B b cs hb rfl)
      refine⟨_,⟨hr,rfl,rfl,fun e v he hd=>HB (J2 j) he fun hm=>hd _ hm rfl,fun k hk hn=>hk.nY hn,HC⟩,⟨dp,z,rows⟩,?_,?_⟩
      ·show aa _ (eN _ _ _)=_
       exact dJ
      ·show v=(if f j=f j then v else _)
       rw[aT rfl]
     have NZ:ms.headD .snap=ms.getD 0 .snap:=ig ms .snap
     cases hm:ms.headD .snap with
     |snap=>
      refine⟨φ,st,.snap [] none z rows,Made.refl h,⟨fun d hd=>(by cases hd),?_,fun o i f e=>(by cases e)⟩,fun o ho=>(by cases ho),?_⟩
      ·rw[←NZ,hm] at h0
       exact h0.fK fun k hk=> .inl hk
      ·simp only[aF,hm]
     |top=>
      obtain⟨φ1,m,hce⟩:=mk false (by rw[←NZ,hm];rfl);exact⟨φ1,_,_,m,hce,fun o ho=>by simpa [bY] using ho,by simp only[aF,hm]⟩
     |deep=>
      obtain⟨φ1,m,hce⟩:=mk true (by rw[←NZ,hm];rfl);exact⟨φ1,_,_,m,hce,fun o ho=>by simpa [bY] using ho,by simp only[aF,hm]⟩
   obtain⟨φ2,m2,l2,c2⟩:=fz J2 hinj cs (ms.drop 1) (j+1) bh φ1 vs (fun n=>X (n+1)) m1.rel (by simpa using hl) (fun n c' v' hn hv=>by
    rw[m1.I,dR]
    exact hc (n+1) c' v' (by simpa using hn) (by simpa using hv)) (fun n k hn hk=>m1.free k (hF (n+1) k (by simpa using hn) hk) fun hx0=>by
    have:=hd 0 (n+1) k cY (by simpa using hn) hx0 hk
    omega) (fun n n' k hn hn' hk hk'=>by
    have:=hd (n+1) (n'+1) k (by simpa using hn) (by simpa using hn') hk hk'
    omega)
   rw[I9];refine⟨φ2,m1.trans m2 (fun o ho=> ?_) (fun k hk=> ?_),by simp only[eT];rw[l2],fun n e v' hn hv=> ?_⟩
   ·rcases ho with ho|⟨n,n1,n2,n3⟩
    ·exact⟨j,bu _,by simp,ho⟩
    ·exact⟨n,by omega,by simp only[eT];omega,n3⟩
   ·rcases hk with hk|⟨n,n1,n2⟩
    ·exact⟨0,by simp,hk⟩
    ·exact⟨n+1,by simpa using n1,n2⟩
   ·cases n with
    |zero=>
     simp only[bG,aI] at hn hv;subst hn hv;refine⟨m2.keep _ _ Qe fun o ho ⟨n,n1,n2,n3⟩=> ?_,fun o ho=>⟨j,bu _,by simp,GO o ho⟩⟩;rw[GO o ho] at n3;have:=hinj _ _ n3;omega
    |succ n=>
     obtain⟨q1,q2⟩:=c2 n e v' (by simpa using hn) (by simpa using hv);refine⟨q1,fun o ho=> ?_⟩;obtain⟨n',n1,n2,n3⟩:=q2 o ho;exact⟨n',by omega,by simp only[eT];omega,n3⟩
theorem ak.MX (h:ak F A w0 φ st tm w) {b:Nat} {cs:List CE} (hw:lS b=true) (hs:(φ.β b).spot=none) (hf:gZ F w0 w φ st (φ.β b).block)
 (hc: ∀(j:Nat) (e:CE),cs[j]?=some e→ ∃v,w.cell? ((φ.β b).add j)=some v∧v.cells= #[v]∧aW st.ob w φ e v) (hz: ∀j,j<cs.length→w.frozen? ((φ.β b).add j)=false):ak F A w0 φ (st.r8 b cs) tm w:=by
 have look: ∀{c cs'},aa c (eN b cs st.bx)=some cs'→(c=b∧cs'=cs)∨(c≠b∧aa c st.bx=some cs'):=fun {c cs'} hl=>by
  rw[bP] at hl
  split at hl
  ·cases hl;exact .inl ⟨by assumption,rfl⟩
  ·exact .inr ⟨by assumption,hl⟩
 refine⟨h.tmp,fun c cs' hl j e he=> ?_,h.obj,?_,h.frm⟩
 ·rcases look hl with⟨rfl,rfl⟩|⟨_,hl⟩
  ·exact hc j e he
  ·exact h.box c cs' hl j e he
 ·exact {
   arg:=h.sep.arg,nz:=h.sep.nz,apart:=h.sep.apart,read:=h.sep.read,fresh:=h.sep.fresh,ro:=h.sep.ro,ez:=h.sep.ez
   box:=fun c cs' hl Ih=>by
    rcases look hl with⟨rfl,rfl⟩|⟨hne,qd⟩
    ·refine⟨hf.I,hf.S,hf.new,fun c' zP hl' hne=> ?_⟩
     rcases look hl' with⟨rfl,_⟩|⟨_,hl'⟩
     ·exact absurd rfl hne
     ·exact hf.B c' zP hl'
    ·obtain⟨a1,a2,a3,a4⟩:=h.sep.box c cs' qd Ih
     refine⟨a1,a2,a3,fun c' zP hl' N0=> ?_⟩;rcases look hl' with⟨rfl,_⟩|⟨_,hl'⟩
     ·exact fun e=>hf.B c cs' qd e.symm
     ·exact a4 c' zP hl' N0
   spot:=fun c cs' hl=>by
    rcases look hl with⟨rfl,rfl⟩|⟨_,hl⟩
    ·exact⟨fun _=>hs,hf.lt,fun e=>by rw[hw] at e;cases e⟩
    ·exact h.sep.spot c cs' hl
   soft:=fun c cs' j hl Ih hj=>by
    rcases look hl with⟨rfl,rfl⟩|⟨_,hl⟩
    ·exact hz j hj
    ·exact h.sep.soft c cs' j hl Ih hj}
theorem gZ.r8 {b k:Nat} {cs:List CE} (h:gZ F w0 w φ st k) (hk:(φ.β b).block≠k):gZ F w0 w φ (st.r8 b cs) k:=by
 refine⟨h.lt,h.new,h.I,h.S,fun c cs' hl=> ?_⟩;have hl:aa c (eN b cs st.bx)=some cs':=hl;rw[bP] at hl
 split at hl
 ·rename_i e;rw[e];exact hk
 ·exact h.B c cs' hl
end Go.T
namespace Go.T
variable {F : Nat → Prop} {A : Arg} {w0 w w' : World} {φ φ' φ1 : Fp} {st st' sta bh eZ : TS} {tm qc : Array Value} {C : dW}
variable {R : Type} {cf : Cf} {lp : Lp} {Q : R → Prop}
theorem tN {β:Nat→Addr} {XB:Nat→Nat→Nat→Prop} {E:Nat→Prop}: ∀(B:List (Nat×List Mode×List TC)) (st:TS) (φ:Fp),φ.β=β→ak F A w0 φ st tm w→(B.Pairwise fun x y=>x.1≠y.1)→
 (∀b ms ts,(b,ms,ts)∈B→lS b=true∧(β b).spot=none∧gZ F w0 w φ st (β b).block∧(∀b' ms' ts',(b',ms',ts')∈B→b'≠b→(β b').block≠(β b).block)∧ ¬E (β b).block∧
   (∀b' ms' ts' j,(b',ms',ts')∈B→j<ts'.length→ ¬XB b' j (β b).block)∧
   ∃us:List Value,us.length=ts.length∧(∀(j:Nat) (u:Value),us[j]?=some u→w.cell? ((β b).add j)=some u∧u.cells= #[u]∧w.frozen? ((β b).add j)=false)∧
    ∀(j:Nat) (c:TC),ts[j]?=some c→ ∃u,us[j]?=some u∧ah w φ.I (IF ms j) (XB b j) c u∧ ∀k,XB b j k→gZ F w0 w φ st k∧ ¬E k)→
 (∀b ms ts b' ms' ts' j j' k,(b,ms,ts)∈B→(b',ms',ts')∈B→j<ts.length→j'<ts'.length→XB b j k→XB b' j' k→b=b'∧j=j')→(∀k,E k→gZ F w0 w φ st k)→
 ∃φ',ak F A w0 φ' (qN B st) tm w∧φ'.β=β∧φ'.I=φ.I∧ ∀k,E k→gZ F w0 w φ' (qN B st) k
 |[],st,φ,hβ,h,_,_,_,hE=>⟨φ,h,hβ,rfl,hE⟩
 |(b,ms,ts)::r,st,φ,hβ,h,hp,hB,hX,hE=>by
  obtain⟨hw,hs,hf,GX,Qf,LJ,us,u1,u2,u3⟩:=hB b ms ts (.head _);have L3:=List.pairwise_cons.1 hp
  obtain⟨φ1,m,l1,c1⟩:=fz (f:=Jn b) (fun j=>by unfold Jn;omega) (fun j j' e=>by unfold Jn at e;omega) ts (Ac ms ts) 0 st φ us (XB b) h u1 (fun n c v hn hv=>by
   rw[AD (List.getElem?_eq_some_iff.1 hn).1];obtain⟨u,a1,a2,_⟩:=u3 n c hn;rw[hv] at a1;cases a1
   exact a2) (fun n k hn hk=>by
   obtain⟨u,_,_,a3⟩:=u3 n _ (aO hn)
   exact(a3 k hk).1) (fun n n' k hn hn' hk hk'=>(hX b ms ts b ms ts n n' k (.head _) (.head _) hn hn' hk hk').2)
  have hβ1:φ1.β=β:=m.β.trans hβ
  have hput:=m.rel.MX (b:=b) (cs:=(aF (Jn b) (Ac ms ts) 0 ts st).1) hw (by rw[hβ1];exact hs) (by rw[hβ1];exact m.free _ hf fun⟨n,n1,n2⟩=>LJ b ms ts n (.head _) n1 n2) (fun j e he=>by
   have hj:j<us.length:=by rw[u1,←l1];exact(List.getElem?_eq_some_iff.1 he).1
   obtain⟨q1,q2,q3⟩:=u2 j _ (aO hj)
   exact⟨_,by rw[hβ1];exact q1,q2,(c1 j e _ he (aO hj)).1⟩) (fun j hj=>by
   have hj:j<us.length:=by rw[u1,←l1];exact hj
   rw[hβ1];exact(u2 j _ (aO hj)).2.2)
  have stay: ∀k,gZ F w0 w φ st k→(∀n,n<ts.length→ ¬XB b n k)→(β b).block≠k→gZ F w0 w φ1 ((aF (Jn b) (Ac ms ts) 0 ts st).2.r8 b (aF (Jn b) (Ac ms ts) 0 ts st).1) k:=fun k hk hn hne=>
   (m.free k hk fun⟨n,n1,n2⟩=>hn n n1 n2).r8 (by rw[hβ1];exact hne)
  obtain⟨φ2,r1,r2,r3,r4⟩:=tN (E:=E) (XB:=XB) r _ φ1 hβ1 hput L3.2 (fun b' ms' ts' hm=>by
   obtain⟨a1,a2,a3,a4,a5,a6,us',v1,v2,v3⟩:=hB b' ms' ts' (.tail _ hm);have hne:b≠b':=L3.1 _ hm;refine⟨a1,a2,stay _ a3 (fun n hn=>a6 b ms ts n (.head _) hn) (a4 b ms ts (.head _) hne),fun b2 ms2 ts2 hm2=>a4 b2 ms2 ts2 (.tail _ hm2),a5,fun b2 ms2 ts2 j hm2=>a6 b2 ms2 ts2 j (.tail _ hm2),us',v1,v2,fun j c hj=> ?_⟩;obtain⟨u,w1,w2,w3⟩:=v3 j c hj;have hjl:=(List.getElem?_eq_some_iff.1 hj).1;refine⟨u,w1,by rw[m.I];exact w2,fun k hk=>⟨stay k (w3 k hk).1 (fun n hn hx=> ?_) (fun e=> ?_),(w3 k hk).2⟩⟩
   ·exact hne (hX b ms ts b' ms' ts' n j k (.head _) (.tail _ hm) hn hjl hx hk).1
   ·exact LJ b' ms' ts' j (.tail _ hm) hjl (by rw[e];exact hk))
   (fun b1 ms1 ts1 b2 ms2 ts2 j j' k h1 h2=>hX b1 ms1 ts1 b2 ms2 ts2 j j' k (.tail _ h1) (.tail _ h2)) (fun k hk=>stay k (hE k hk) (fun n hn hx=>by
     obtain⟨u,_,_,a3⟩:=u3 n _ (aO hn)
     exact(a3 k hx).2 hk) (fun e=>Qf (by rw[e];exact hk)))
  exact⟨φ2,r1,r2,r3.trans m.I,r4⟩
theorem iw {ms:List Mode}: ∀{cs:List TC} {vs:List Value} {n:Nat} {c:TC} {v:Value},cs[n]?=some c→vs[n]?=some v→(aY ms cs vs)[n]?=some (ms.getD n .snap,c,v):=by
 intro cs
 induction cs generalizing ms with
 |nil=>intro vs n c v h;simp at h
 |cons c0 cs ih=>
  intro vs n c v h1 h2
  cases vs with
  |nil=>simp at h2
  |cons v0 vs=>
   cases n with
   |zero=>simp only[bG,aI] at h1 h2;subst h1 h2;simp only[aY,bG,ig]
   |succ n=>
    simp only[aY,g7] at h1 h2 ⊢;rw[ih (ms:=ms.drop 1) h1 h2,dR]
theorem xV {ob:List (Nat×OB)} {a:Nat} {cs:List TC} {u:Value} (hc:AB a cs u) {cs':List CE} (hl:cs'.length=cs.length) (hce: ∀(n:Nat) (e:CE) (v:Value),cs'[n]?=some e→u.cells.toList[n]?=some v→aW ob w φ e v) (h1: ∀v∈u.cells.toList,v.cells= #[v]):dQ ob w φ (.mk (Nat.beq a 1) cs') u:=by
 obtain⟨ha,hsz,Qg,hno⟩:=hc
 match a,ha with
 |0,_=>
  have hu:=hno cY;rw[hu] at hsz
  have ud:cs'.length=1:=by rw[hl];simpa using hsz.symm
  match cs',ud with
  |[e],_=>exact⟨e,rfl,hu,hce 0 e u rfl (by rw[hu];rfl)⟩
 |1,_=>
  obtain⟨xs,rfl⟩:=Qg rfl;have hsz:xs.size=cs.length:=hsz;refine⟨xs,rfl,by rw[hl];exact hsz,fun j e he=> ?_⟩
  have hj:j<xs.size:=by rw[hsz,←hl];exact(List.getElem?_eq_some_iff.1 he).1
  have hx:(Value.agg xs).cells.toList[j]?=some xs[j]:=by show xs.toList[j]?=_;simp[hj]
  exact⟨xs[j],jM hj,h1 _ (c6 hx),hce j e _ he hx⟩
theorem uG {d k j j':Nat} (h:gY d k j=gY d k j'):j=j':=by unfold gY at h;omega
theorem FV {d k k':Nat} (h:jq d k=jq d k'):k=k':=by unfold jq at h;omega
theorem AL (d k:Nat):lS (jq d k)=true:=by
 unfold lS jq;rw[show Nat.ble 200000 (400000+20*d+k)=true from uN aA];exact uN aA
structure pX (F:Nat→Prop) (A:Arg) (w0 w:World) (φ φ':Fp) (st st':TS) (tm:Array Value) (nums nb Xs:Nat→Prop):Prop where
 rel:ak F A w0 φ' st' tm w
 β: ∀b,¬nb b→φ'.β b=φ.β b
 I:φ'.I=φ.I
 keep: ∀e v,aW st.ob w φ e v→(∀o∈bY e,¬nums o)→aW st'.ob w φ' e v
 free: ∀k,gZ F w0 w φ st k→ ¬Xs k→gZ F w0 w φ' st' k
theorem Made.MY {nums nb Xs:Nat→Prop} (h:Made F A w0 w φ φ' st st' tm nums Xs):pX F A w0 w φ φ' st st' tm nums nb Xs:=⟨h.rel,fun b _=>by rw[h.β],h.I,h.keep,h.free⟩
theorem pX.trans {φ2:Fp} {n1 n2 b1 b2 X1 X2 nums nb Xs:Nat→Prop} (h:pX F A w0 w φ φ1 st bh tm n1 b1 X1) (k:pX F A w0 w φ1 φ2 bh eZ tm n2 b2 X2) (hn: ∀o,n1 o∨n2 o→nums o) (hb: ∀o,b1 o∨b2 o→nb o) (hX: ∀x,X1 x∨X2 x→Xs x):pX F A w0 w φ φ2 st eZ tm nums nb Xs:=
 ⟨k.rel,fun b EJ=>(k.β b fun hc=>EJ (hb b (.inr hc))).trans (h.β b fun hc=>EJ (hb b (.inl hc))),k.I.trans h.I,fun e v he hd=>k.keep e v (h.keep e v he fun o ho hc=>hd o ho (hn o (.inl hc))) fun o ho hc=>hd o ho (hn o (.inr hc)),
   fun x hf hx=>k.free x (h.free x hf fun hc=>hx (hX x (.inl hc))) fun hc=>hx (hX x (.inr hc))⟩
theorem xW (h:ak F A w0 φ st tm w) {b:Nat} {cs:List CE} {ad:Addr} (hw:lS b=true) (hs:ad.spot=none) (hf:gZ F w0 w φ st ad.block)
 (hc: ∀(j:Nat) (e:CE),cs[j]?=some e→ ∃v,w.cell? (ad.add j)=some v∧v.cells= #[v]∧aW st.ob w φ e v) (hz: ∀j,j<cs.length→w.frozen? (ad.add j)=false):
 pX F A w0 w φ (φ.box b ad) st (r9 b cs st) tm (fun _=>False) (fun x=>x=b) (fun x=>x=ad.block):=by
 refine⟨h.r9 hw hs hf.lt hf.S hf.I hf.new (fun b' cs' hb' _=>hf.B b' cs' hb') hc hz,fun b' hb'=> ?_,rfl,fun e v he _=>(by cases e<;>exact he),fun k hk hx=>⟨hk.lt,hk.new,hk.I,hk.S,fun c cs' hl=> ?_⟩⟩
 ·show(if b'=b then ad else φ.β b')=_
  rw[aH hb']
 ·have hl:aa c (eN b cs (fT b st.bx))=some cs':=hl
  show((if c=b then ad else φ.β c)).block≠k;rw[bP,cD] at hl
  by_cases hcb:c=b
  ·rw[aT hcb];exact fun e=>hx e.symm
  ·rw[aH hcb,aH hcb] at hl
   rw[aH hcb];exact hk.B c cs' hl
theorem eo.shift {X:Nat→Nat→Prop} {a:Nat}: ∀{vs:List (Nat×List TC)} {n:Nat} {ms:List (List Mode)} {us:List Value} {aZ:List It},eo w X (a+n) ms vs us aZ→eo w (fun i=>X (a+i)) n ms vs us aZ
 |[],n,ms,[],aZ,h=>by cases ms<;>exact h
 |[],n,ms,_::_,aZ,h=>by cases ms<;>exact h.elim
 |(_,_)::_,n,ms,[],aZ,h=>by cases ms<;>exact h.elim
 |(a',cs)::r,n,ms,u::us,aZ,h=>by
  obtain⟨a0,b,h1,h2,h3⟩:=h;rw[kD] at h3;exact⟨a0,b,h1,h2,h3.shift⟩
theorem tO {d:Nat}: ∀(vs:List (Nat×List TC)) (k:Nat) (ms:List (List Mode)) (st:TS) (φ:Fp) (us:List Value) (aZ:List It) (X:Nat→Nat→Prop),ak F A w0 φ st tm w→eo w X 0 ms vs us aZ→o5 vs=true→
 (∀(n:Nat) (it:It),aZ[n]?=some it→ah w φ.I it.1 (X n) it.2.1 it.2.2)→(∀n x,n<aZ.length→X n x→gZ F w0 w φ st x)→(∀n n' x,n<aZ.length→n'<aZ.length→X n x→X n' x→n=n')→
 ∃φ',pX F A w0 w φ φ' st (cq d k ms vs st).2 tm (fun o=> ∃k' j,k≤k'∧j<20∧o=gY d k' j) (fun b=> ∃k',k≤k'∧b=jq d k') (fun x=> ∃n,n<aZ.length∧X n x)∧(cq d k ms vs st).1.length=vs.length∧us.length=vs.length∧
  ∀(n:Nat) (c:fR) (u:Value),(cq d k ms vs st).1[n]?=some c→us[n]?=some u→dQ (cq d k ms vs st).2.ob w φ' c u
 |[],k,ms,st,φ,us,aZ,X,h,hc,hs,_,_,_=>by
  cases us with
  |nil=>exact⟨φ,(Made.refl h).MY,rfl,rfl,fun n c u hn=>by simp[cq] at hn⟩
  |cons u us=>cases ms<;>exact hc.elim
 |(a,cs)::r,k,ms,st,φ,us,aZ,X,h,hc,hs,hi,hF,hd=>by
  cases us with
  |nil=>cases ms<;>exact hc.elim
  |cons u us=>
   obtain⟨a0,b,rfl,DL,DP⟩:=hc;have DP:=eo.shift (n:=0) (by rw[dZ] at DP;exact DP)
   have GH:cs.length≤20∧o5 r=true:=by
    simp only[o5] at hs
    split at hs
    ·exact⟨gD bO,hs⟩
    ·cases hs
   have tail: ∀{φ1:Fp} {bh:TS} {nums nb:Nat→Prop},pX F A w0 w φ φ1 st bh tm nums nb (fun x=> ∃n,n<a0.length∧X n x)→(∀o,nums o→ ∃j,j<20∧o=gY d k j)→(∀o,nb o→o=jq d k)→
    ∃φ',pX F A w0 w φ φ' st (cq d (k+1) (ms.drop 1) r bh).2 tm (fun o=> ∃k' j,k≤k'∧j<20∧o=gY d k' j) (fun b=> ∃k',k≤k'∧b=jq d k') (fun x=> ∃n,n<(a0++b).length∧X n x)∧
     pX F A w0 w φ1 φ' bh (cq d (k+1) (ms.drop 1) r bh).2 tm (fun o=> ∃k' j,k+1≤k'∧j<20∧o=gY d k' j) (fun b=> ∃k',k+1≤k'∧b=jq d k') (fun x=> ∃n,n<b.length∧X (a0.length+n) x)∧
     (cq d (k+1) (ms.drop 1) r bh).1.length=r.length∧us.length=r.length∧
     ∀(n:Nat) (c:fR) (u:Value),(cq d (k+1) (ms.drop 1) r bh).1[n]?=some c→us[n]?=some u→dQ (cq d (k+1) (ms.drop 1) r bh).2.ob w φ' c u:=fun {φ1 bh nums nb} m1 N3 LI=>by
    obtain⟨φ2,m2,l2,l3,c2⟩:=tO (d:=d) r (k+1) (ms.drop 1) bh φ1 us b (fun n=>X (a0.length+n)) m1.rel DP GH.2 (fun n it hn=>by
     rw[m1.I]
     exact hi (a0.length+n) it (by rw[eA aA,Nat.add_sub_cancel_left];exact hn)) (fun n x hn hx=>m1.free x (hF (a0.length+n) x (by rw[cL];omega) hx) fun⟨n',n1,n2⟩=>by
     have:=hd n' (a0.length+n) x (by rw[cL];omega) (by rw[cL];omega) n2 hx
     omega) (fun n n' x hn hn' hx hx'=>by
     have:=hd (a0.length+n) (a0.length+n') x (by rw[cL];omega) (by rw[cL];omega) hx hx'
     omega)
    refine⟨φ2,m1.trans m2 (fun o ho=> ?_) (fun o ho=> ?_) (fun x hx=> ?_),m2,l2,l3,c2⟩
    ·rcases ho with ho|⟨k',j,n1,n2,n3⟩
     ·obtain⟨j,j1,j2⟩:=N3 o ho
      exact⟨k,j,bu _,j1,j2⟩
     ·exact⟨k',j,by omega,n2,n3⟩
    ·rcases ho with ho|⟨k',n1,n3⟩
     ·exact⟨k,bu _,LI o ho⟩
     ·exact⟨k',by omega,n3⟩
    ·rcases hx with⟨n,n1,n2⟩|⟨n,n1,n2⟩
     ·exact⟨n,by rw[cL];omega,n2⟩
     ·exact⟨a0.length+n,by rw[cL];omega,n2⟩
   rcases DL with⟨hn2,DL,rfl⟩|⟨rfl,ad,us0,rfl,jl,uw,wN,KF,rfl⟩
   ·have uw:u.cells.toList.length=cs.length:=by rw[lT];exact DL.2.1
    have hcl:(aY (ms.headD []) cs u.cells.toList).length=cs.length:=dS uw.symm
    obtain⟨φ1,m1,l1,c1⟩:=fz (f:=gY d k) (fun j=>by unfold gY;omega) (fun j j' e=>uG e) cs (ms.headD []) 0 st φ u.cells.toList X h uw (fun n c v hn hv=>by
     have:=hi n _ (by rw[dY (by rw[hcl];exact(List.getElem?_eq_some_iff.1 hn).1)];exact iw hn hv)
     exact this) (fun n x hn hx=>hF n x (by rw[cL,hcl];omega) hx) (fun n n' x hn hn' hx hx'=>hd n n' x (by rw[cL,hcl];omega) (by rw[cL,hcl];omega) hx hx')
    obtain⟨φ2,m,m2,l2,l3,c2⟩:=tail (nums:=fun o=> ∃n,0≤n∧n<0+cs.length∧o=gY d k n) (nb:=fun _=>False) (by rw[hcl];exact m1.MY) (fun o ⟨n,_,n2,n3⟩=>⟨n,by omega,n3⟩) (fun o ho=>ho.elim);have hb2:Nat.beq a 2=false:=beq_false hn2
    have I9:cq d k ms ((a,cs)::r) st=(.mk (Nat.beq a 1) (aF (gY d k) (ms.headD []) 0 cs st).1::(cq d (k+1) (ms.drop 1) r (aF (gY d k) (ms.headD []) 0 cs st).2).1,(cq d (k+1) (ms.drop 1) r (aF (gY d k) (ms.headD []) 0 cs st).2).2):=by
     simp only[cq,hb2]
    rw[I9];refine⟨φ2,m,by simp only[eT];rw[l2],by simp only[eT];rw[l3],fun n c v hn hv=> ?_⟩
    cases n with
    |zero=>
     simp only[bG,aI] at hn hv;subst hn hv;refine xV DL l1 (fun n e v he hv=> ?_) fun v hv=> ?_
     ·obtain⟨q1,q2⟩:=c1 n e v he hv
      refine m2.keep e v q1 fun o ho ⟨k',j,n1,n2,n3⟩=> ?_;obtain⟨n',_,n4,n5⟩:=q2 o ho;rw[n5] at n3;unfold gY at n3;omega
     ·obtain⟨n,hn,rfl⟩:=List.mem_iff_getElem.1 hv
      have hn':n<cs.length:=by rw[←uw];exact hn
      have:=hi n _ (by rw[dY (by rw[hcl];exact hn')];exact iw (aO hn') (aO hn));exact this.cells
    |succ n=>exact c2 n c v (by simpa using hn) (by simpa using hv)
   ·have hcl:(aY (ms.headD []) cs us0).length=cs.length:=dS uw.symm
    have hit: ∀{n:Nat} {it:It},(aY (ms.headD []) cs us0)[n]?=some it→((zb::aY (ms.headD []) cs us0)++b)[1+n]?=some it:=fun {n it} hn=>by
     rw[dY (by rw[eT];have:=(List.getElem?_eq_some_iff.1 hn).1;omega),show 1+n=n+1 by omega,g7];exact hn
    have hlt: ∀{n:Nat},n<cs.length→1+n<((zb::aY (ms.headD []) cs us0)++b).length:=fun {n} hn=>by rw[cL,eT,hcl];omega
    obtain⟨φ1,m1,l1,c1⟩:=fz (f:=gY d k) (fun j=>by unfold gY;omega) (fun j j' e=>uG e) cs (ms.headD []) 0 st φ us0 (fun n=>X (1+n)) h uw (fun n c v hn hv=>hi (1+n) _ (hit (iw hn hv)))
     (fun n x hn hx=>hF (1+n) x (hlt hn) hx) (fun n n' x hn hn' hx hx'=>by have:=hd (1+n) (1+n') x (hlt hn) (hlt hn') hx hx';omega)
    have hfree:gZ F w0 w φ1 (aF (gY d k) (ms.headD []) 0 cs st).2 ad.block:=m1.free _ (hF 0 _ cY KF) fun⟨n,n1,n2⟩=>by
     have:=hd 0 (1+n) _ cY (hlt n1) KF n2;omega
    have mb:=xW m1.rel (b:=jq d k) (cs:=(aF (gY d k) (ms.headD []) 0 cs st).1) (AL d k) jl hfree (fun j e he=>by
     have hj:j<us0.length:=by rw[uw,←l1];exact(List.getElem?_eq_some_iff.1 he).1
     obtain⟨q1,q2,q3⟩:=wN j _ (aO hj)
     exact⟨_,q1,q2,(c1 j e _ he (aO hj)).1⟩) (fun j hj=>by
     have hj:j<us0.length:=by rw[uw,←l1];exact hj
     exact(wN j _ (aO hj)).2.2)
    have m12:=(m1.MY (nb:=fun _=>False)).trans mb (nums:=fun o=> ∃n,0≤n∧n<0+cs.length∧o=gY d k n) (nb:=fun x=>x=jq d k) (Xs:=fun x=> ∃n,n<(zb::aY (ms.headD []) cs us0).length∧X n x) (fun o ho=>ho.elim id fun hx=>hx.elim) (fun o ho=>ho.elim (fun hx=>hx.elim) id) (fun x hx=>by
     rcases hx with⟨n,n1,n2⟩|hx
     ·exact⟨1+n,by rw[eT,hcl];omega,n2⟩
     ·exact⟨0,by simp,by rw[hx];exact KF⟩)
    obtain⟨φ2,m,m2,l2,l3,c2⟩:=tail m12 (fun o ⟨n,_,n2,n3⟩=>⟨n,by omega,n3⟩) (fun o ho=>ho);have I9:cq d k ms ((2,cs)::r) st=(.ptr (jq d k)::(cq d (k+1) (ms.drop 1) r (r9 (jq d k) (aF (gY d k) (ms.headD []) 0 cs st).1 (aF (gY d k) (ms.headD []) 0 cs st).2)).1,(cq d (k+1) (ms.drop 1) r (r9 (jq d k) (aF (gY d k) (ms.headD []) 0 cs st).1 (aF (gY d k) (ms.headD []) 0 cs st).2)).2):=rfl;rw[I9];refine⟨φ2,m,by simp only[eT];rw[l2],by simp only[eT];rw[l3],fun n c v hn hv=> ?_⟩
    cases n with
    |zero=>
     simp only[bG,aI] at hn hv;subst hn hv;show Value.pointer (some ad)=Value.pointer (some (φ2.β (jq d k)));rw[m2.β _ fun⟨k',n1,n2⟩=>by have:=FV n2;omega];show _=Value.pointer (some (if jq d k=jq d k then ad else _));rw[aT rfl]
    |succ n=>exact c2 n c v (by simpa using hn) (by simpa using hv)
theorem FW {d:Nat} {ms:List (List Mode)} {r:TV} {v:Value} {aZ:List It} {X:Nat→Nat→Prop} (h:ak F A w0 φ st tm w) (hr:xM w X ms r v aZ) (hi: ∀(n:Nat) (it:It),aZ[n]?=some it→ah w φ.I it.1 (X n) it.2.1 it.2.2) (hF: ∀n x,n<aZ.length→X n x→gZ F w0 w φ st x)
 (hd: ∀n n' x,n<aZ.length→n'<aZ.length→X n x→X n' x→n=n') (hdt:d<tm.size) {st':TS} (ht:E2 d ms r st=some st'):Rel F A w0 st' (tm.setIfInBounds d v) w:=by
 have one: ∀(a:Nat) (cs:List TC),AB a cs v→aZ=aY (ms.headD []) cs v.cells.toList→Rel F A w0 ((aF (gY d 0) (ms.headD []) 0 cs st).2.set d (.v false [.mk (Nat.beq a 1) (aF (gY d 0) (ms.headD []) 0 cs st).1])) (tm.setIfInBounds d v) w:=fun a cs DL he=>by
  subst he
  have uw:v.cells.toList.length=cs.length:=by rw[lT];exact DL.2.1
  have hcl:(aY (ms.headD []) cs v.cells.toList).length=cs.length:=dS uw.symm
  obtain⟨φ1,m1,l1,c1⟩:=fz (f:=gY d 0) (fun j=>by unfold gY;omega) (fun j j' e=>uG e) cs (ms.headD []) 0 st φ v.cells.toList X h uw (fun n c u hn hv=>hi n _ (iw hn hv)) (fun n x hn hx=>hF n x (by rw[hcl];exact hn) hx)
   (fun n n' x hn hn' hx hx'=>hd n n' x (by rw[hcl];exact hn) (by rw[hcl];exact hn') hx hx')
  refine⟨φ1,m1.rel.wU hdt ⟨_,rfl,xV DL l1 (fun n e u he hv=>(c1 n e u he hv).1) fun u hu=> ?_⟩⟩;obtain⟨n,hn,rfl⟩:=List.mem_iff_getElem.1 hu
  have hn':n<cs.length:=by rw[←uw];exact hn
  exact(hi n _ (iw (aO hn') (aO hn))).cells
 cases r with
 |c c=>obtain⟨h1,h2⟩:=hr;cases ht;exact one 0 [c] h1 h2
 |ag cs=>obtain⟨h1,h2⟩:=hr;cases ht;exact one 1 cs h1 h2
 |bx cs=>
  have hc:eo w X 0 ms [(2,cs)] [v] aZ:=⟨aZ,[],by simp,.inr ⟨rfl,hr⟩,by cases ms.drop 1<;>rfl⟩;have GH: ∃b,o5 [(2,cs)]=b:=⟨_,rfl⟩;obtain⟨ad,us0,rfl,jl,uw,wN,KF,rfl⟩:=hr
  cases ht
  have hcl:(aY (ms.headD []) cs us0).length=cs.length:=dS uw.symm
  have hit: ∀{n:Nat} {it:It},(aY (ms.headD []) cs us0)[n]?=some it→(zb::aY (ms.headD []) cs us0)[1+n]?=some it:=fun {n it} hn=>by
   rw[show 1+n=n+1 by omega,g7];exact hn
  have hlt: ∀{n:Nat},n<cs.length→1+n<(zb::aY (ms.headD []) cs us0).length:=fun {n} hn=>by rw[eT,hcl];omega
  obtain⟨φ1,m1,l1,c1⟩:=fz (f:=gY d 0) (fun j=>by unfold gY;omega) (fun j j' e=>uG e) cs (ms.headD []) 0 st φ us0 (fun n=>X (1+n)) h uw (fun n c v hn hv=>hi (1+n) _ (hit (iw hn hv)))
   (fun n x hn hx=>hF (1+n) x (hlt hn) hx) (fun n n' x hn hn' hx hx'=>by have:=hd (1+n) (1+n') x (hlt hn) (hlt hn') hx hx';omega)
  have hfree:gZ F w0 w φ1 (aF (gY d 0) (ms.headD []) 0 cs st).2 ad.block:=m1.free _ (hF 0 _ cY KF) fun⟨n,n1,n2⟩=>by
   have:=hd 0 (1+n) _ cY (hlt n1) KF n2;omega
  have mb:=xW m1.rel (b:=jq d 0) (cs:=(aF (gY d 0) (ms.headD []) 0 cs st).1) (AL d 0) jl hfree (fun j e he=>by
   have hj:j<us0.length:=by rw[uw,←l1];exact(List.getElem?_eq_some_iff.1 he).1
   obtain⟨q1,q2,q3⟩:=wN j _ (aO hj)
   exact⟨_,q1,q2,(c1 j e _ he (aO hj)).1⟩) (fun j hj=>by
   have hj:j<us0.length:=by rw[uw,←l1];exact hj
   exact(wN j _ (aO hj)).2.2)
  refine⟨_,mb.rel.wU hdt ?_⟩;show Value.pointer (some ad)=Value.pointer (some ((if jq d 0=jq d 0 then ad else _).add 0));rw[aT rfl,Addr.add_zero']
 |tu vs=>
  obtain⟨us,rfl,hc⟩:=hr;simp only[E2] at ht
  split at ht
  ·rename_i hs
   cases ht
   obtain⟨φ1,m1,l1,l2,c1⟩:=tO (d:=d) vs 0 ms st φ us.toList aZ X h hc hs hi hF hd;refine⟨φ1,m1.rel.wU hdt ⟨us,rfl,by rw[l1,←l2];simp,fun n c hn=> ?_⟩⟩
   have hnl:n<us.toList.length:=by rw[l2,←l1];exact(List.getElem?_eq_some_iff.1 hn).1
   have O7:n<us.size:=by simpa using hnl
   exact⟨us[n],jM O7,c1 n c _ hn (by simp[O7])⟩
  ·cases ht
 |_=>cases ht
end Go.T
namespace Go.T
variable {F : Nat → Prop} {A : Arg} {w0 w w' : World} {φ φ' φ1 : Fp} {st st' sta bh eZ : TS} {tm qc : Array Value} {C : dW}
variable {R : Type} {cf : Cf} {lp : Lp} {Q : R → Prop}
def vw (n:Nat) (o:Oper):Bool:=match o.dst with|some d=>Nat.blt d n|none=>true
def ug (n:Nat):List Oper→Bool
 |[]=>true
 |o::r=>match vw n o with|true=>ug n r|false=>false
def iR (n:Nat):Code→Bool
 | .region _ ops _=>ug n ops.toList
 | .seq a b=>match iR n a with|true=>iR n b|false=>false
 | .cond _ a b=>match iR n a with|true=>iR n b|false=>false
 | .block _ b=>iR n b
 | .loop b=>iR n b
 |_=>true
structure COk (C:dW):Prop where
 ty:bZ C
 name: ∀(f:Nat) (fn:Func),C.P.funcs[f]?=some fn→(fn.name== "runtime.NumGoroutine")=false
 dst: ∀(f:Nat) (fn:Func) (c:Code),C.P.funcs[f]?=some fn→fn.body=some c→iR fn.ntmps c=true
structure zj (C:dW) (f:FuncId) (vs:List TV) (r:TV) (fs:List TV):Prop where
 body: ∃fn c,C.P.funcs[f]?=some fn∧fn.body=some c
 calls: ∀(w:World) (xs:List Value) (Rg BB:Nat→Prop) (X:Nat→Nat→Nat→Prop) (Y:Nat→Nat→Prop),za w (C.sig f).ps vs xs Rg BB X Y→(C.sig f).ps.length=xs.length→
  Calls C.P f xs.toArray w fun e w'=> ∃v,e= .returned v∧vj (jh X Y) (qZ true Rg BB) w w' (C.sig f) xs r fs v
def vz (C:dW) (cf:Cf):Prop:= ∀f vs r fs,cf f vs r fs→zj C f vs r fs
theorem zk (hC:COk C) {f:FuncId} {args:Array Value} (h: ∃fn c,C.P.funcs[f]?=some fn∧fn.body=some c):(callFunc f args).run C.P w= .ok (.enter f args) w:=by
 obtain⟨fn,c,h1,h2⟩:=h;unfold callFunc;simp only[Sem.run_bind];have:(program:Sem Program).run C.P w= .ok C.P w:=rfl;rw[this];simp only[Result.andThen,h1,hC.name f fn h1,h2]
 rfl
theorem AM {ps:List ay} {es:List TE} {own dX:List Nat} (h:ak F A w0 φ st tm w) (GZ:mU st ps es=some (own,dX)) {xs:List Value} (tq: ∀(i:Nat) (e:TE),es[i]?=some e→ ∃x,xs[i]?=some x∧aQ st.ob w φ e x) {k:Nat} (hk:jh (Cc w φ st ps es) (Dg φ ps es) k):
 Wr st φ (gi st ps es) k:=by
 have g:=mq GZ
 have mem: ∀{ps:List ay} {es:List TE} {i:Nat} {p:ay} {e:TE} {x:Nat},ps[i]?=some p→es[i]?=some e→p≠ .borrow→x∈oe st e→x∈gi st ps es:=by
  intro ps
  induction ps with
  |nil=>intro es i p e x h;simp at h
  |cons q ps ih=>
   intro es i p e x h1 h2 h3 h4
   cases es with
   |nil=>simp at h2
   |cons e0 es=>
    cases i with
    |zero=>
     simp only[bG,aI] at h1 h2;subst h1 h2
     cases q with
     |borrow=>exact absurd rfl h3
     |inout ms=>exact cM _ h4
     |consume ms=>exact cM _ h4
    |succ i=>
     have:=ih (by simpa using h1) (by simpa using h2) h3 h4
     cases q with
     |borrow=>exact this
     |inout ms=>exact eW _ this
     |consume ms=>exact eW _ this
 rcases hk with⟨i,j,hx⟩|⟨i,hy⟩
 ·obtain⟨p,e,e',o,l,h1,h2,h3,h4,h5,h6,h7,h8,_⟩:=rz h g tq hx
  refine .inr ⟨o,mem h1 h2 h3 ?_,h6,h7⟩
  have GO:o∈bY e':=by
   cases e' with
   |ref o1 cut=>cases h5;exact .head _
   |snap ds loc z rows=>cases loc with
    |none=>cases h5
    |some q=>
     obtain⟨o1,i1,f1⟩:=q
     cases h5
     obtain⟨x,_,ht⟩:=tq i e h2;obtain⟨v,hv⟩:=m8 h ht h4;exact(hv.2.2 o i1 f1 rfl).1
   |_=>cases h5
  have ok:=sF h8;rcases ok.form with⟨b,rfl⟩|⟨_,ag,cs,rfl,_⟩
  ·obtain⟨_,_,_,_,tw,_⟩:=ok.bx b 0 rfl
   simp only[oe,yN,tw];exact .tail _ (List.mem_map.2 ⟨o,List.mem_flatMap.2 ⟨e',c6 h4,GO⟩,rfl⟩)
  ·simp only[oe,cC,iL]
   exact List.mem_map.2 ⟨o,List.mem_flatMap.2 ⟨e',c6 h4,GO⟩,rfl⟩
 ·obtain⟨p,b,h1,h2,h3,rfl⟩:=hy
  obtain⟨l,ok,_⟩:=g.ow i p _ h1 h2 h3;obtain⟨_,_,pM,_,tw,_⟩:=ok.bx b 0 rfl;refine .inl ⟨b,_,mem h1 h2 h3 ?_,tw,pM,rfl⟩;simp only[oe,yN,tw];exact .head _
theorem kW: ∀{cs:List TC} {ms:List Mode} {j:Nat} {c:TC},fu ms cs=true→cs[j]?=some c→(∃v,c= .sc v)∨ms.getD j .snap= .deep
 |[],_,_,_,_,h=>by simp at h
 | .sc v::r,ms,0,c,ht,h=>by simp only[bG,aI] at h;exact .inl ⟨v,h.symm⟩
 | .sc v::r,ms,j+1,c,ht,h=>by
   have:=kW (ms:=ms.drop 1) ht (by simpa using h)
   rwa [dR] at this
 | .sub z rows::r,ms,j,c,ht,h=>by
   simp only[fu] at ht
   split at ht
   ·rename_i hm
    cases j with
    |zero=>rw[ig] at hm;exact .inr hm
    |succ j=>
     have:=kW (ms:=ms.drop 1) ht (by simpa using h)
     rwa [dR] at this
   ·cases ht
 | .any::r,ms,j,c,ht,h=>by
   simp only[fu] at ht
   split at ht
   ·rename_i hm
    cases j with
    |zero=>rw[ig] at hm;exact .inr hm
    |succ j=>
     have:=kW (ms:=ms.drop 1) ht (by simpa using h)
     rwa [dR] at this
   ·cases ht
def pn (it:It):Prop:=it.1= .deep∨ ∃v,it.2.1= .sc v
theorem gx {ms:List Mode} {cs:List TC} {vs:List Value} (ht:fu ms cs=true) {i:Nat} {it:It} (h:(aY ms cs vs)[i]?=some it):pn it:=by
 obtain⟨c,v,h1,h2,rfl⟩:=D0 h;exact(kW ht h1).elim .inr .inl
theorem xX {X:Nat→Nat→Prop} {n:Nat} {m:List Mode} {cs:List TC} {u:Value} {aZ:List It} (h:xL w X n m cs u aZ) (ht:fu m cs=true): ∀it∈aZ,pn it:=by
 obtain⟨_,us,_,_,_,_,_,rfl⟩:=h;intro it hi;rcases bg.1 hi with rfl|hi
 ·exact .inl rfl
 ·obtain⟨i,hi⟩:=List.mem_iff_getElem?.1 hi
  exact gx ht hi
theorem tP {X:Nat→Nat→Prop}: ∀{vs:List (Nat×List TC)} {n:Nat} {ms:List (List Mode)} {us:List Value} {aZ:List It},eo w X n ms vs us aZ→uD ms vs=true→ ∀it∈aZ,pn it
 |[],n,ms,[],aZ,h,_=>by
  have h:aZ=[]:=by cases ms<;>exact h
  rw[h];intro it hi;cases hi
 |[],n,ms,_::_,aZ,h,_=>by cases ms<;>exact h.elim
 |(_,_)::_,n,ms,[],aZ,h,_=>by cases ms<;>exact h.elim
 |(a,cs)::r,n,ms,u::us,aZ,h,ht=>by
  obtain⟨a0,b,rfl,h2,h3⟩:=h;simp only[uD] at ht
  split at ht
  ·rename_i hcs
   intro it hi;rcases List.mem_append.1 hi with hi|hi
   ·rcases h2 with⟨_,_,rfl⟩|⟨_,hb⟩
    ·obtain⟨i,hi⟩:=List.mem_iff_getElem?.1 hi
     exact gx hcs hi
    ·exact xX hb hcs it hi
   ·exact tP h3 ht it hi
  ·cases ht
theorem Ec {X:Nat→Nat→Prop} {ms:List (List Mode)} {r:TV} {v:Value} {aZ:List It} (h:xM w X ms r v aZ) (ht:CS ms r=true): ∀it∈aZ,pn it:=by
 cases r with
 |c c=>obtain⟨_,rfl⟩:=h;intro it hi;obtain⟨i,hi⟩:=List.mem_iff_getElem?.1 hi;exact gx ht hi
 |ag cs=>obtain⟨_,rfl⟩:=h;intro it hi;obtain⟨i,hi⟩:=List.mem_iff_getElem?.1 hi;exact gx ht hi
 |bx cs=>exact xX h ht
 |tu vs=>obtain⟨_,_,h⟩:=h;exact tP h ht
 |_=>exact h.elim
theorem xY {cs:List TC}:fu (Ac [] cs) cs=true:=by
 induction cs with
 |nil=>rfl
 |cons c r ih=>cases c<;>exact ih
theorem pz {NB:Nat→Prop}: ∀{ps:List ay} {xs:List Value} {fs:List TV} {aZ:List It},mj w NB ps xs fs aZ→yM ps=true→ ∀it∈aZ,pn it
 |[],[],fs,aZ,h,_=>by rw[h.2];intro it hi;cases hi
 |[],_::_,_,_,h,_=>h.elim
 |_::_,[],_,_,h,_=>h.elim
 |p::ps,x::xs,fs,aZ,h,ht=>by
  cases p with
  |inout ms=>
   cases ms with
   |cons m ms=>cases ht
   |nil=>
    cases fs with
    |nil=>exact h.elim
    |cons f fs=>
     obtain⟨a,b,rfl,h2,h3⟩:=h;intro it hi;rcases List.mem_append.1 hi with hi|hi
     ·cases f with
      |c c=>rw[h3.2] at hi;simp only[dw] at hi;rw[hi];exact .inl rfl
      |ag cs=>obtain⟨_,ys,_,_,rfl⟩:=h3;obtain⟨i,hi⟩:=List.mem_iff_getElem?.1 hi;exact gx xY hi
      |bx cs=>obtain⟨ad,us,_,_,_,_,rfl⟩:=h3;obtain⟨i,hi⟩:=List.mem_iff_getElem?.1 hi;exact gx xY hi
      |_=>exact h3.elim
     ·exact pz h2 ht it hi
  |borrow=>exact pz (ps:=ps) (xs:=xs) (fs:=fs) h ht
  |consume _=>exact pz (ps:=ps) (xs:=xs) (fs:=fs) h ht
theorem vj.tight {F:Nat→Prop} {Rg BB:Nat→Prop} {g:DR} {args:List Value} {r:TV} {fs:List TV} {v:Value} (h:vj F (qZ true Rg BB) w0 w g args r fs v) (ht:BN g r=true):vj F (qZ g.shares Rg BB) w0 w g args r fs v:=by
 unfold BN at ht
 cases hs:g.shares with
 |true=>exact h
 |false=>
  rw[hs] at ht;simp only at ht
  split at ht
  ·rename_i hps
   obtain⟨frm,I,X,ri,fi,hb,hr,hf⟩:=h;refine⟨frm,fun _=>False,X,ri,fi,⟨fun i it hi=> ?_,fun i k hi hk=>⟨(hb.rng i k hi hk).1,(hb.rng i k hi hk).2.1,id⟩,hb.apart,fun k hk=>hk.elim⟩,hr,hf.mono fun k hk=>⟨id,hk.2⟩⟩;have hc:=hb.ok i it hi;have:pn it:=(List.mem_append.1 (c6 hi)).elim (Ec hr ht it) (pz hf hps it);obtain⟨m,c,u⟩:=it;rcases this with e|⟨y,e⟩
   ·have e:m= .deep:=e
    subst e;exact hc.pU rfl
   ·have e:c= .sc y:=e
    subst e;have hc:ah w I m (X i) (.sc y) u:=hc
    cases hc with|sc _ _ _ h=>exact .sc _ _ _ h
  ·cases ht
theorem tQ (hC:COk C) (pN:vz C cf) {a:Act} (h:ak F A w0 φ st a.tmps w) {o:Oper} {f:FuncId} {es:List TE} {xs:List Value} (hlen:es.length=xs.length) (tq: ∀(i:Nat) (e:TE),es[i]?=some e→ ∃x,xs[i]?=some x∧aQ st.ob w φ e x)
 (L4:(execOp a.eval o).run C.P w=(callFunc f xs.toArray).run C.P w) (Ip:writes C st o=gi st (C.sig f).ps es) {K:TS→Ev R} (hd: ∀d,o.dst=some d→d<a.tmps.size) (hk:(qO C o.dst f es st K).holds cf lp Q) {Kc:Act→World→Prop} {Qc:Exit→Act→World→Prop}
 (hK: ∀st' v w',Rel F A w0 st' (a.put o.dst v).tmps w'→(K st').holds cf lp Q→w.heap.size≤w'.heap.size→(∀k,k<w.heap.size→ ¬Wr st φ (writes C st o) k→w'.heap[k]?=w.heap[k]?)→Kc (a.put o.dst v) w'):o.wp C.P a w Kc Qc:=by
 unfold qO at hk
 split at hk
 ·rename_i own dX GZ
  split at hk
  ·rename_i hn hm h0
   obtain⟨vs,hk,hin⟩:=Hz h GZ hn hm tq hk
   split at hk
   ·rename_i GH
    obtain⟨r,fs,hc,hk⟩:=hk;have hin:=hin GH;obtain⟨hbody,Kf⟩:=pN f vs r fs hc;have g:=mq GZ;have Qh:=Kf w xs _ _ _ _ hin (by rw[g.len,hlen]);unfold Oper.wp;rw[L4,zk hC hbody,Oper.upon_enter];refine Qh.mono fun e w' hpost=> ?_;obtain⟨v,rfl,hp⟩:=hpost;simp only;simp only at hk
    split at hk
    ·exact hk.elim
    rename_i Kg;have hp:=hp.tight Kg
    split at hk
    ·rename_i W B NT
     obtain⟨φ3,ri,fi,X,posB,af⟩:=Eb h GZ hn hm h0 tq hp NT;rw[gM] at hk
     obtain⟨φ4,r4,β4,I4,free4⟩:=tN (β:=φ.β) (XB:=fun b j=>X (posB b j)) (E:=fun k=> ∃i,i<ri.length∧X i k) B _ φ3 af.β af.rel af.ndB (fun b ms ts hm=>by
      obtain⟨b1,b2,b3,b4,b5,b6,us,b7,b8,b9⟩:=af.box b ms ts hm;refine⟨b1,b2,b4,b6,fun⟨i,hi,hx⟩=>b5 i (by rw[cL];omega) hx,fun b' ms' ts' j hm' hj hx=> ?_,us,b7,b8,fun j c hj=> ?_⟩
      ·obtain⟨_,_,_,_,_,_,us',_,_,c9⟩:=af.box b' ms' ts' hm'
       obtain⟨u,u1,u2,u3,u4⟩:=c9 j _ (aO hj);exact b5 _ (List.getElem?_eq_some_iff.1 u2).1 hx
      ·obtain⟨u,u1,u2,u3,u4⟩:=b9 j c hj
       refine⟨u,u1,af.item _ _ u2,fun k hk=>⟨u4 k hk,fun⟨i,hi,hx⟩=> ?_⟩⟩;have:=af.apart _ _ k (List.getElem?_eq_some_iff.1 u2).1 (by rw[cL];omega) hk hx
       omega)
      (fun b ms ts b' ms' ts' j j' k hm hm' hj hj' hx hx'=>by
        obtain⟨_,_,_,_,_,_,us,_,_,c9⟩:=af.box b ms ts hm;obtain⟨u,u1,u2,u3,u4⟩:=c9 j _ (aO hj);obtain⟨_,_,_,_,_,_,us',_,_,c9'⟩:=af.box b' ms' ts' hm';obtain⟨u',u1',u2',u3',u4'⟩:=c9' j' _ (aO hj')
        exact af.posI b ms ts b' ms' ts' j j' hm hm' hj hj' (af.apart _ _ k (List.getElem?_eq_some_iff.1 u2).1 (List.getElem?_eq_some_iff.1 u2').1 hx hx')) (fun k ⟨i,hi,hx⟩=>af.free i k hi hx)
     have hfr: ∀k,k<w.heap.size→ ¬Wr st φ (writes C st o) k→w'.heap[k]?=w.heap[k]?:=fun k hk hn=>hp.frm.block k hk fun hc=>hn (by rw[Ip];exact AM h GZ tq hc)
     cases dr:o.dst with
     |none=>
      rw[dr] at hk hK;exact hK _ v w' ⟨φ4,r4⟩ hk hp.frm.size hfr
     |some d=>
      rw[dr] at hk hK;simp only at hk
      split at hk
      ·rename_i st4 hres
       refine hK _ v w' ?_ hk hp.frm.size hfr
       exact FW r4 af.res (fun n it hn=>by rw[I4];exact af.item n it (by rw[dY (List.getElem?_eq_some_iff.1 hn).1];exact hn)) (fun n x hn hx=>free4 x ⟨n,hn,hx⟩)
        (fun n n' x hn hn' hx hx'=>af.apart n n' x (by rw[cL];omega) (by rw[cL];omega) hx hx') (hd d dr) hres
      ·exact hk.elim
    ·exact hk.elim
   ·exact hk.elim
  ·exact hk.elim
 ·exact hk.elim
theorem vA (hT:bZ C) {a:Act} (h:ak F A w0 φ st a.tmps w): ∀(xs:List Operand) (ts:List TypeId),xs.length=ts.length→(qP C st xs ts).length=xs.length∧ ∀(i:Nat) (e:TE),(qP C st xs ts)[i]?=some e→ ∃x,(xs.map a.eval)[i]?=some x∧aQ st.ob w φ e x
 |[],[],_=>⟨rfl,fun i e h=>by simp[qP] at h⟩
 |[],_::_,h=>by cases h
 |_::_,[],h=>by cases h
 |x::xs,t::ts,hl=>by
  obtain⟨h1,h2⟩:=vA hT h xs ts (by simpa using hl);refine⟨by simp[qP,h1],fun i e he=> ?_⟩
  cases i with
  |zero=>simp only[qP,bG,aI] at he;subst he;exact⟨_,rfl,bH hT h t x⟩
  |succ i=>exact h2 i e (by simpa [qP] using he)
theorem AN (hC:COk C) (pN:vz C cf) {a:Act} (h:ak F A w0 φ st a.tmps w) {o:Oper} {K:TS→Ev R} (hd: ∀d,o.dst=some d→d<a.tmps.size) (hk:(fe C st o K).holds cf lp Q) {Kc:Act→World→Prop} {Qc:Exit→Act→World→Prop}
 (hK: ∀st' v w',Rel F A w0 st' (a.put o.dst v).tmps w'→(K st').holds cf lp Q→w.heap.size≤w'.heap.size→(∀k,k<w.heap.size→ ¬Wr st φ (writes C st o) k→w'.heap[k]?=w.heap[k]?)→Kc (a.put o.dst v) w'):o.wp C.P a w Kc Qc:=by
 have hT:=hC.ty
 have did:BD C F A w0 φ st o a w K cf lp Q→o.wp C.P a w Kc Qc:=fun⟨nx,v,w',st',h1,h2,h3,h4,h5,h6⟩=>by
  unfold Oper.wp;rw[h1];rcases h2 with rfl|⟨rfl,rfl⟩
  ·exact hK st' v w' h3 h4 h5 h6
  ·exact hK st' undef w' h3 h4 h5 h6
 have r7:=hk;unfold fe at hk
 split at hk
 ·rename_i e;exact did (FH hT h e hd r7)
 ·rename_i e;exact did (JC hT h e hd r7)
 ·rename_i e;exact did (FI hT h e r7)
 ·rename_i e;exact did (wW hT h e hd r7)
 ·rename_i e;exact did (zh hT h e hd r7)
 ·rename_i e;exact did (FK hT h e hd r7)
 ·rename_i e;exact did (D5 hT h e hd r7)
 ·rename_i e;exact did (Hv hT h e hd r7)
 ·rename_i f args ts e
  split at hk
  ·rename_i hl
   have hl:=cw hl;obtain⟨g1,g2⟩:=vA hT h args.toList ts.toList hl;refine tQ hC pN h (xs:=args.toList.map a.eval) (by rw[g1];simp) g2 ?_ ?_ hd hk hK
   ·unfold execOp
    rw[e];simp only[resolve,Act.eval,Deferred.ofValue,Sem.run_bind,Sem.run_pure,Result.andThen,invoke]
    congr 2
    apply Array.ext'
    simp[Act.eval]
   ·unfold writes;rw[e]
  ·exact hk.elim
 ·rename_i i args ts e
  split at hk
  ·rename_i hl
   have hl:=cw hl
   split at hk
   ·rename_i f caps hf
    obtain⟨g1,g2⟩:=vA hT h args.toList ts.toList hl;have MP:=h.tmp i;rw[hf] at MP;have MP:a.tmps.getD i undef= .func (.func f) #[] (caps.map fun b=>Value.pointer (some (φ.β b))).toArray:=MP;refine tQ hC pN h (xs:=args.toList.map a.eval++caps.map fun b=>Value.pointer (some (φ.β b))) (by rw[cL,cL,g1];simp) (fun j e' he=> ?_) ?_ ?_ hd hk hK
    ·by_cases hlt:j<(qP C st args.toList ts.toList).length
     ·rw[dY hlt] at he
      obtain⟨x,x1,x2⟩:=g2 j e' he;exact⟨x,by rw[dY (by rw[g9,←g1];exact hlt)];exact x1,x2⟩
     ·rw[eA aA,dK] at he
      rw[eA (by rw[g9,←g1];omega),g9,←g1,dK]
      cases hb:caps[j-(qP C st args.toList ts.toList).length]? with
      |none=>rw[hb] at he;cases he
      |some b=>
       rw[hb] at he;simp only[dO,aI] at he;subst he;exact⟨_,rfl,by show _=Value.pointer (some ((φ.β b).add 0));rw[Addr.add_zero']⟩
    ·unfold execOp
     rw[e];simp only[resolve,Sem.run_bind];have Qi:a.eval (.tmp i)= .func (.func f) #[] (caps.map fun b=>Value.pointer (some (φ.β b))).toArray:=MP;rw[Qi];simp only[Deferred.ofValue,Sem.run_pure,Result.andThen,invoke]
     congr 2
     apply Array.ext'
     simp
    ·unfold writes;rw[e];simp only[hf]
   ·exact hk.elim
  ·exact hk.elim
 ·exact did (Db hT h hd hk)
end Go.T
namespace Go.T
variable {F : Nat → Prop} {A : Arg} {w0 w w' : World} {φ φ' φ1 : Fp} {st st' sta bh eZ : TS} {tm qc : Array Value} {C : dW}
variable {R : Type} {cf : Cf} {lp : Lp} {Q : R → Prop}
structure Inv (F:Nat→Prop) (A:Arg) (w0:World) (fx:List Nat) (g:Nat→Value) (n:Nat) (st:TS) (a:Act) (w:World):Prop where
 rel:Rel F A w0 st a.tmps w
 fix: ∀i∈fx,a.tmps.getD i undef=g i
 defers:a.defers=[]
 size:n≤a.tmps.size
variable {fx : List Nat} {g : Nat → Value} {n : Nat}
theorem rA (a:Act) (d:Option Tmp) (v:Value):(a.put d v).tmps.size=a.tmps.size:=by cases d<;>simp[Act.put]
theorem put_defers (a:Act) (d:Option Tmp) (v:Value):(a.put d v).defers=a.defers:=by cases d<;>rfl
theorem zl {a:Act} {o:Oper} (ho:CU fx o=true) (hf: ∀i∈fx,a.tmps.getD i undef=g i) (v:Value): ∀i∈fx,(a.put o.dst v).tmps.getD i undef=g i:=fun i hi=>by
 cases hd:o.dst with
 |none=>exact hf i hi
 |some d=>
  have hne:i≠d:=fun e=>by
   subst e;unfold CU at ho;rw[hd] at ho;simp only[nF] at ho;exact bC.1 ho hi
  show(a.tmps.setIfInBounds d v).getD i undef=g i;rw[getD_set_ne _ _ _ _ _ hne];exact hf i hi
theorem qt {ops:Array Oper} {a:Act} {j t:Nat} {oj:Oper} {b:Bool} (hj:ops[j]?=some oj) (ht:oj.dst=some t) (hv:a.tmps.getD t undef= .bool b):yielded ops a.tmps j=some b:=by
 unfold yielded;rw[hj];simp only[Option.bind_some,ht]
 have hlt:t<a.tmps.size:=by
  rcases Nat.lt_or_ge t a.tmps.size with h|h
  ·exact h
  ·rw[jd,Array.getElem?_eq_none h] at hv
   cases hv
 rw[jM hlt];rw[jd,jM hlt] at hv;simp only[Option.getD_some] at hv;rw[hv]
theorem vC {ops:Array Oper} {a:Act} {j t:Nat} {oj:Oper} (hj:ops[j]?=some oj) (ht:oj.dst=some t) (hv:a.tmps.getD t undef=undef):yielded ops a.tmps j=none:=by
 unfold yielded;rw[hj];simp only[Option.bind_some,ht];rw[jd] at hv
 cases h:a.tmps[t]? with
 |none=>rfl
 |some v=>
  rw[h] at hv;simp only[Option.getD_some] at hv;rw[hv]
  rfl
theorem Di {ob:List (Nat×OB)} {v:Value} (h:aQ ob w φ (.v true []) v):v=undef:=by
 obtain⟨vs,rfl,h1,_⟩:=h;have:vs= #[]:=Array.eq_empty_of_size_eq_zero h1;rw[this];rfl
theorem FX {ob:List (Nat×OB)}:aQ ob w φ (.v true []) undef:=⟨#[],rfl,rfl,fun k c h=>by simp at h⟩
theorem ak.MZ {tm:Array Value} (h:ak F A w0 φ st tm w) {d:Nat}:ak F A w0 φ (st.set d (.v true [])) (tm.setIfInBounds d undef) w where
 tmp i:=by
  rw[yQ]
  by_cases hi:i=d
  ·subst hi
   rw[aT rfl]
   have:(tm.setIfInBounds i undef).getD i undef=undef:=by
    rw[jd,xp];simp only[if_true]
    split<;>rfl
   rw[this];exact FX
  ·rw[aH hi,getD_set_ne _ _ _ _ _ hi];exact h.tmp i
 box:=h.box
 obj:=h.obj
 sep:=h.sep
 frm:=h.frm
theorem HD (h:ak F A w0 φ st tm w) {fx:List Nat} {o:Oper}: ∃φ1,ak F A w0 φ1 (Jo C fx st o) tm w:=by
 unfold Jo
 split
 ·split
  ·obtain⟨φ1,h1,_⟩:=jx (CT C st _ _) st φ h
   exact⟨φ1,h1⟩
  ·exact⟨φ,h⟩
 ·split
  ·exact⟨φ,h⟩
  ·obtain⟨φ1,h1,_⟩:=jx (xC st _ _) st φ h
   exact⟨φ1,h1⟩
 ·exact⟨φ,h⟩
theorem lH {fl:List Nat} {ops:Array Oper} {a:Act} (h:ak F A w0 φ st a.tmps w) {o:Oper} {K:TS→Ev R} (hk:(guarded C fx fl ops st o K).holds cf lp Q):
 CU fx o=true∧((Region.wanted o (yielded ops a.tmps)=true∧ ∃bh φ1,ak F A w0 φ1 bh a.tmps w∧og C ops bh o fl=true∧(fe C bh o K).holds cf lp Q)∨
  (Region.wanted o (yielded ops a.tmps)=false∧ ∃bh,ak F A w0 φ bh (a.put o.dst undef).tmps w∧(K bh).holds cf lp Q)):=by
 have fs: ∀{st:TS},ak F A w0 φ st a.tmps w→(Ae C fx fl ops st o K).holds cf lp Q→ ∃bh φ1,ak F A w0 φ1 bh a.tmps w∧og C ops bh o fl=true∧(fe C bh o K).holds cf lp Q:=fun {st} h hk=>by
  unfold Ae at hk;rw[gM] at hk
  split at hk
  ·obtain⟨φ1,h1⟩:=HD (C:=C) (fx:=fx) (o:=o) h
   exact⟨_,φ1,h1,by assumption,hk⟩
  ·exact hk.elim
 have skip: ∀{st:TS},ak F A w0 φ st a.tmps w→(Af st o K).holds cf lp Q→ ∃bh,ak F A w0 φ bh (a.put o.dst undef).tmps w∧(K bh).holds cf lp Q:=fun {st} h hk=>by
  unfold Af at hk
  cases hd:o.dst with
  |none=>rw[hd] at hk;exact⟨st,h,hk⟩
  |some d=>
   rw[hd] at hk;exact⟨_,h.MZ,hk⟩
 have gg: ∀{st:TS} {b want:Bool} {j:Nat},ak F A w0 φ st a.tmps w→o.guard=some (j,want)→yielded ops a.tmps j=some b→(BO C fx fl ops st o b want K).holds cf lp Q→
  (Region.wanted o (yielded ops a.tmps)=true∧ ∃bh φ1,ak F A w0 φ1 bh a.tmps w∧og C ops bh o fl=true∧(fe C bh o K).holds cf lp Q)∨
  (Region.wanted o (yielded ops a.tmps)=false∧ ∃bh,ak F A w0 φ bh (a.put o.dst undef).tmps w∧(K bh).holds cf lp Q):=fun {st b want j} h hg hy hk=>by
  have GP:Region.wanted o (yielded ops a.tmps)=(b==want):=by
   unfold Region.wanted;rw[hg];simp only[hy]
   cases b<;>cases want<;>rfl
  have no:(b==want)=false→(Af st o K).holds cf lp Q→Region.wanted o (yielded ops a.tmps)=false∧ ∃bh,ak F A w0 φ bh (a.put o.dst undef).tmps w∧(K bh).holds cf lp Q:=fun hb hk=>by
   exact⟨by rw[GP];exact hb,skip h hk⟩
  cases b with
  |true=>
   cases want with
   |true=>exact .inl ⟨by rw[GP];rfl,fs h hk⟩
   |false=>exact .inr (no rfl hk)
  |false=>
   cases want with
   |true=>exact .inr (no rfl hk)
   |false=>exact .inl ⟨by rw[GP];rfl,fs h hk⟩
 unfold guarded at hk
 split at hk
 ·exact hk.elim
 ·rename_i hok
  refine⟨hok,?_⟩
  split at hk
  ·rename_i hg
   exact .inl ⟨by unfold Region.wanted;rw[hg],fs h hk⟩
  ·rename_i j want hg
   split at hk
   ·rename_i oj hj
    split at hk
    ·rename_i t ht
     have KG:=h.tmp t
     split at hk
     ·rename_i b hb
      rw[hb] at KG;exact gg h hg (qt hj ht KG) hk
     ·rename_i b hb
      rw[hb] at KG;have hv:=fj KG;exact gg (h.G4 (d:=t) (e:= .kb b) hv) hg (qt hj ht hv) hk
     ·rename_i hb
      rw[hb] at KG;refine .inr ⟨?_,skip h hk⟩;unfold Region.wanted;rw[hg];simp only[vC hj ht (Di KG)]
      rfl
     ·exact hk.elim
    ·exact hk.elim
   ·exact hk.elim
theorem Ch (hC:COk C) (pN:vz C cf) {fl:List Nat} {ops:Array Oper} {a:Act} (hi:Inv F A w0 fx g n st a w) {o:Oper} (zU:vw n o=true) {K:TS→Ev R} (hk:(guarded C fx fl ops st o K).holds cf lp Q) {Kc:Act→World→Prop} {Qc:Exit→Act→World→Prop}
 (hK: ∀st' v w',Inv F A w0 fx g n st' (a.put o.dst v) w'→(K st').holds cf lp Q→Kc (a.put o.dst v) w'):if Region.wanted o (yielded ops a.tmps) then o.wp C.P a w Kc Qc else Kc (a.put o.dst undef) w:=by
 obtain⟨⟨φ,h⟩,GQ,GR,hsz⟩:=hi;obtain⟨hok,hc⟩:=lH h hk;have mk: ∀{st' v w'},Rel F A w0 st' (a.put o.dst v).tmps w'→Inv F A w0 fx g n st' (a.put o.dst v) w':=fun hr=>⟨hr,zl hok GQ _,by rw[put_defers];exact GR,by rw[rA];exact hsz⟩;rcases hc with⟨hw,bh,φ1,h1,_,tE⟩|⟨hw,bh,h1,tE⟩
 ·rw[aT hw]
  exact AN hC pN h1 (fun d hd=>by
   unfold vw at zU;rw[hd] at zU;have zU:Nat.ble (d+1) n=true:=zU
   exact cW (show d<n from gD zU) hsz) tE fun st' v w' hr hk' _ _=>hK st' v w' (mk hr) hk'
 ·rw[aH (by rw[hw];exact Bool.false_ne_true)]
  exact hK bh undef w (mk ⟨φ,h1⟩) tE
theorem xZ (hC:COk C) (pN:vz C cf) {l:List Nat} {ops:Array Oper} {K:TS→Ev R} {Qc:Exit→Act→World→Prop} (hQ: ∀st a w,Inv F A w0 fx g n st a w→(K st).holds cf lp Q→Qc .normal a w):
 ∀(os:List Oper) (st:TS) (a:Act) (w:World),ug n os=true→Inv F A w0 fx g n st a w→(yO C fx l ops os st K).holds cf lp Q→wpList C.P ops Qc os a w
 |[],st,a,w,_,hi,hk=>by
  simp only[yO] at hk;rw[gM] at hk;obtain⟨⟨φ,h⟩,h2,h3,h4⟩:=hi;exact hQ _ a w ⟨⟨φ,h.keep l⟩,h2,h3,h4⟩ hk
 |o::r,st,a,w,hb,hi,hk=>by
  simp only[ug] at hb
  split at hb
  ·rename_i hd
   have:=Ch hC pN hi hd hk (Kc:=wpList C.P ops Qc r) (Qc:=Qc) fun st' v w' hi' hk'=>by
    rw[gM] at hk';exact xZ hC pN hQ r st' _ w' hb hi' hk'
   unfold wpList
   split
   ·rename_i hw;rw[aT hw] at this;exact .inl this
   ·rename_i hw;rw[aH hw] at this;exact this
  ·cases hb
end Go.T
