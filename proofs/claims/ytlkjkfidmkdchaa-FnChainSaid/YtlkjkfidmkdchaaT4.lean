import Derived.Test.YtlkjkfidmkdchaaT3
import Derived.OrdersHeld
set_option linter.all false
namespace Go.T
variable {F : Nat → Prop} {A : Arg} {w0 w w' : World} {φ φ' : Fp} {st st' sta cG lR : TS} {tm AK : Array Value} {C : jC}
variable {R : Type} {cf : Cf} {lp : Lp} {Q : R → Prop}
theorem AX: ∀{l:List Nat},AP l=true↔l.Nodup
 |[]=>by simp[AP]
 |a::r=>by
  simp only[AP,List.nodup_cons]
  cases h:jc a r with
  |true=>simp[iz.1 h]
  |false=>simp only[AX (l:=r)];have:=cV.1 h;simp[this]
def Dk (w:World) (φ:Fp) (st:TS) (o:Nat) (i:Int) (f:Nat) (T0:Nat→Prop):Prop:=
 ∀b ad n c tc v,aa o st.ob=some b→b.deep=true→φ.V o= .slice (some ad) n c→sW b.rows i.toNat f=some tc→w.cell? (ad.add (i.toNat*b.z+f))=some v→
  ai w φ.I .deep T0 tc v∧(∀k,T0 k→φ.S o k)∧ ∀(w':World) (tc':TC) (Rd' T1:Nat→Prop),ai w' Rd' .deep T1 tc' v→(∀k,φ.S o k→ ¬T0 k→w'.heap[k]?=w.heap[k]?)→(∀k,T1 k→T0 k∨ ¬φ.S o k)→
   ai w' Rd' .deep (fun k=>(φ.S o k∧ ¬T0 k)∨T1 k) (.sub b.z (nG b.rows i.toNat f [tc'])) (φ.V o)
theorem SA (h:aH F A w0 φ st tm w) (o:Nat) (i:Int) (f:Nat): ∃T0,Dk w φ st o i f T0:=by
 by_cases hx: ∃b ad n c tc v,aa o st.ob=some b∧b.deep=true∧φ.V o= .slice (some ad) n c∧sW b.rows i.toNat f=some tc∧w.cell? (ad.add (i.toNat*b.z+f))=some v
 ·obtain⟨b,ad,n,c,tc,v,h1,h2,h3,h4,h5⟩:=hx
  have hO:=h.obj o b h1;unfold kz at hO;rw[h3] at hO
  have hm:b.m= .deep:=by unfold OB.m;rw[h2];rfl
  rw[hm] at hO;obtain⟨V1,T0,v1,v2,v3,_,v5⟩:=ai.inner hO h4;refine⟨T0,fun b' ad' n' c' tc' v' g1 g2 g3 g4 g5=> ?_⟩;rw[h1] at g1;cases g1;rw[h3] at g3;cases g3;rw[h4] at g4;cases g4;rw[h5] at g5;cases g5;rw[h5] at v1;cases v1;refine⟨v2,fun k hk=>(v3 k hk).1,fun w' tc' Rd' T1 k1 k2 k3=> ?_⟩;rw[h3];exact(v5 w' tc' T1 (k1.As rfl) k2 k3).As rfl
 ·exact⟨C2,fun b ad n c tc v h1 h2 h3 h4 h5=>absurd ⟨b,ad,n,c,tc,v,h1,h2,h3,h4,h5⟩ hx⟩
noncomputable def SB (w:World) (φ:Fp) (st:TS) (o:Nat) (i:Int) (f:Nat):Nat→Prop:=Classical.epsilon (Dk w φ st o i f)
theorem Dl (h:aH F A w0 φ st tm w) (o:Nat) (i:Int) (f:Nat):Dk w φ st o i f (SB w φ st o i f):=Classical.epsilon_spec (SA h o i f)
noncomputable def qB (w:World) (φ:Fp) (st:TS) (e:CE):Nat→Prop:=match e with
 | .ref o _=>φ.S o
 | .snap _ (some (o,i,f)) _ _=>SB w φ st o i f
 |_=>C2
def iU:CE→Option Nat
 | .ref o _=>some o
 | .snap _ (some (o,_,_)) _ _=>some o
 |_=>none
theorem yL {o:Nat} (h:sR st o=true): ∃z rows,aa o st.ob=some ⟨true,z,rows⟩:=by
 unfold sR at h
 split at h
 ·rename_i z rows hl;exact⟨z,rows,hl⟩
 ·cases h
def SC (st:TS) (c:Bool) (e:CE):Prop:=match e with
 | .sc _=>True
 | .nil _=>True
 | .ref o none=>sR st o=true
 | .ref o (some _)=>c=true∧sR st o=true
 | .snap _ (some (o,_,_)) _ _=>c=false∧sR st o=true
 |_=>False
def QJ (e:CE):Prop:=match e with
 | .sc _=>True
 | .nil _=>True
 | .snap [] none _ _=>True
 |_=>False
def PS (st:TS) (e:CE):Prop:=match e with
 | .sc _=>True
 | .nil _=>True
 | .ref o none=>C8 st o=true
 |_=>False
def Au (st:TS) (c:Bool) (m:Mode) (e:CE):Prop:=(m= .snap∧QJ e)∨(m= .deep∧SC st c e)∨(m= .top∧PS st e)
def UH (st:TS) (c:Bool) (e:CE):Prop:=match e with
 | .sc _=>True
 | .nil _=>True
 | .ref _ none=>True
 | .ref _ (some _)=>c=true
 | .snap _ (some (o,_,_)) _ _=>c=false∧sR st o=true
 |_=>False
theorem QL {o:Nat} (h:C8 st o=true): ∃z rows,aa o st.ob=some ⟨false,z,rows⟩:=by
 unfold C8 at h
 split at h
 ·rename_i z rows hl;exact⟨z,rows,hl⟩
 ·cases h
theorem QJ.key {e:CE} (h:QJ e):iU e=none:=by
 unfold QJ at h
 split at h<;>first|rfl|exact h.elim
theorem Au.key {c:Bool} {m:Mode} {e:CE} {o:Nat} (h:Au st c m e) (hk:iU e=some o):UH st c e:=by
 rcases h with⟨_,h⟩|⟨_,h⟩|⟨_,h⟩
 ·rw[h.key] at hk;cases hk
 ·unfold SC at h
  unfold UH
  split at h<;>first|trivial|exact h.1|exact h|exact h.elim
 ·unfold PS at h
  unfold UH
  split at h<;>first|trivial|exact h.elim
def QM (ms:List Mode) (j:Nat):Mode:=(bu.inout ms).mc j
theorem GU (ms:List Mode):QM ms 0=ms.headD .deep:=by cases ms<;>rfl
theorem MH (ms:List Mode) (j:Nat):QM ms (j+1)=QM (ms.drop 1) j:=by cases ms<;>rfl
structure yM (st:TS) (c:Bool) (ms:List Mode) (cs:List CE) (l:List Nat):Prop where
 one: ∀(j:Nat) (e:CE),cs[j]?=some e→Au st c (QM ms j) e∧ ∀o,iU e=some o→2*o∈l
 mem: ∀x∈l,∃o,x=2*o∧ ∃(j:Nat) (e:CE),cs[j]?=some e∧iU e=some o
 uniq:l.Nodup→ ∀(j j':Nat) (e e':CE) (o:Nat),cs[j]?=some e→cs[j']?=some e'→iU e=some o→iU e'=some o→j=j'
theorem yM.plain {c:Bool} {ms:List Mode} {e0:CE} {r:List CE} {l:List Nat} (ih:yM st c (ms.drop 1) r l) (ho:Au st c (QM ms 0) e0) (hk:iU e0=none):yM st c ms (e0::r) l:=by
 refine⟨fun j e he=> ?_,fun x hx=> ?_,fun hn j j' e e' o he he' By hk2=> ?_⟩
 ·cases j with
  |zero=>simp only[cZ,aU] at he;subst he;exact⟨ho,fun o h=>by rw[hk] at h;cases h⟩
  |succ j=>rw[MH];exact ih.one j e (by simpa using he)
 ·obtain⟨o,a1,j,e,a2,a3⟩:=ih.mem x hx
  exact⟨o,a1,j+1,e,by simpa using a2,a3⟩
 ·cases j with
  |zero=>simp only[cZ,aU] at he;subst he;rw[hk] at By;cases By
  |succ j=>
   cases j' with
   |zero=>simp only[cZ,aU] at he';subst he';rw[hk] at hk2;cases hk2
   |succ j'=>rw[ih.uniq hn j j' e e' o (by simpa using he) (by simpa using he') By hk2]
theorem yM.keyed {c:Bool} {ms:List Mode} {e0:CE} {r:List CE} {l0:List Nat} (ih:yM st c (ms.drop 1) r l0) {o0:Nat} (ho:Au st c (QM ms 0) e0) (hk:iU e0=some o0):yM st c ms (e0::r) ((2*o0)::l0):=by
 refine⟨fun j e he=> ?_,fun x hx=> ?_,fun hn j j' e e' o he he' By hk2=> ?_⟩
 ·cases j with
  |zero=>simp only[cZ,aU] at he;subst he;exact⟨ho,fun o h=>by rw[hk] at h;cases h;exact .head _⟩
  |succ j=>rw[MH];obtain⟨a,b⟩:=ih.one j e (by simpa using he);exact⟨a,fun o h=> .tail _ (b o h)⟩
 ·rcases cw.1 hx with rfl|hx
  ·exact⟨o0,rfl,0,e0,rfl,hk⟩
  ·obtain⟨o,a1,j,e,a2,a3⟩:=ih.mem x hx
   exact⟨o,a1,j+1,e,by simpa using a2,a3⟩
 ·have hn':=List.nodup_cons.1 hn
  cases j with
  |zero=>
   simp only[cZ,aU] at he;subst he;rw[hk] at By;cases By
   cases j' with
   |zero=>rfl
   |succ j'=>exact absurd ((ih.one j' e' (by simpa using he')).2 _ hk2) hn'.1
  |succ j=>
   cases j' with
   |zero=>
    simp only[cZ,aU] at he';subst he';rw[hk] at hk2;cases hk2;exact absurd ((ih.one j e (by simpa using he)).2 _ By) hn'.1
   |succ j'=>rw[ih.uniq hn'.2 j j' e e' o (by simpa using he) (by simpa using he') By hk2]
theorem rH {c:Bool}: ∀{ms:List Mode} {cs:List CE} {l:List Nat},oA st c ms cs=some l→yM st c ms cs l
 |ms,[],l,h=>by
  have h:l=[]:=by cases ms<;>(cases h;rfl)
  subst h;exact⟨fun j e he=>by simp at he,fun x hx=>(by cases hx),fun _ j j' e e' o he=>by simp at he⟩
 |ms,e0::r,l,h=>by
  simp only[oA] at h
  cases hr:oA st c (ms.drop 1) r with
  |none=>rw[hr] at h;cases h
  |some l0=>
   rw[hr] at h;have ih:=rH hr
   by_cases hm:ms.headD .deep= .snap
   ·have hz:QM ms 0= .snap:=by rw[GU,hm]
    rw[hm] at h
    have pl:QJ e0→l0=l→yM st c ms (e0::r) l:=fun hf e=>by
     subst e;exact ih.plain (.inl ⟨hz,hf⟩) hf.key
    cases e0 with
    |sc v=>cases h;exact pl trivial rfl
    |nil z=>cases h;exact pl trivial rfl
    |snap ds loc z rows=>
     cases ds with
     |nil=>cases loc with
      |none=>cases h;exact pl trivial rfl
      |some q=>cases h
     |cons d ds=>cases h
    |_=>cases h
   ·by_cases ht:ms.headD .deep= .top
    ·have hz:QM ms 0= .top:=by rw[GU,ht]
     rw[ht] at h
     cases e0 with
     |sc v=>cases h;exact ih.plain (.inr (.inr ⟨hz,trivial⟩)) rfl
     |nil z=>cases h;exact ih.plain (.inr (.inr ⟨hz,trivial⟩)) rfl
     |ref o cut=>
      cases cut with
      |none=>
       have h:(match C8 st o with|true=>some ((2*o)::l0)|false=>none)=some l:=h
       cases hd:C8 st o with
       |false=>rw[hd] at h;cases h
       |true=>rw[hd] at h;cases h;exact ih.keyed (o0:=o) (.inr (.inr ⟨hz,hd⟩)) rfl
      |some q=>cases h
     |snap ds loc z rows=>cases ds<;>cases loc<;>cases h
     |gone=>cases h
    ·have hd':ms.headD .deep= .deep:=by revert hm ht;cases ms.headD .deep<;>simp
     have hz:QM ms 0= .deep:=by rw[GU,hd']
     rw[hd'] at h
     cases e0 with
     |sc v=>cases h;exact ih.plain (.inr (.inl ⟨hz,trivial⟩)) rfl
     |nil z=>cases h;exact ih.plain (.inr (.inl ⟨hz,trivial⟩)) rfl
     |ref o cut=>
      cases cut with
      |none=>
       have h:(match sR st o with|true=>some ((2*o)::l0)|false=>none)=some l:=h
       cases hd:sR st o with
       |false=>rw[hd] at h;cases h
       |true=>rw[hd] at h;cases h;exact ih.keyed (o0:=o) (.inr (.inl ⟨hz,hd⟩)) rfl
      |some q=>
       cases c with
       |false=>cases h
       |true=>
        have h:sR st o=true∧some ((2*o)::l0)=some l:=by
         simp only at h;split at h<;>first|exact⟨by assumption,h⟩|cases h
        obtain⟨hd,h⟩:=h
        cases h
        exact ih.keyed (o0:=o) (.inr (.inl ⟨hz,rfl,hd⟩)) rfl
     |snap ds loc z rows=>
      cases loc with
      |none=>cases ds<;>cases h
      |some q=>
       obtain⟨o,i,f⟩:=q
       cases c with
       |true=>cases ds<;>cases h
       |false=>
        have h:sR st o=true∧some ((2*o)::l0)=some l:=by
         cases ds<;>(simp only at h;split at h<;>first|exact⟨by assumption,h⟩|cases h)
        obtain⟨hd,h⟩:=h
        cases h
        exact ih.keyed (o0:=o) (.inr (.inl ⟨hz,rfl,hd⟩)) rfl
     |gone=>cases h
theorem j6: ∀{cs:List CE} {ts:List TC},qF st cs=some ts→ts.length=cs.length∧ ∀(j:Nat) (c:TC),ts[j]?=some c→ ∃e,cs[j]?=some e∧vV st e=some c
 |[],ts,h=>by cases h;exact⟨rfl,fun j c hj=>by simp at hj⟩
 |e::r,ts,h=>by
  simp only[qF] at h
  split at h
  ·rename_i c cs' h1 h2
   cases h
   obtain⟨g1,g2⟩:=j6 h2;refine⟨by simp[g1],fun j c' hj=> ?_⟩
   cases j with
   |zero=>simp only[cZ,aU] at hj;subst hj;exact⟨e,rfl,h1⟩
   |succ j=>obtain⟨e',a,b⟩:=g2 j c' (by simpa using hj);exact⟨e',by simpa using a,b⟩
  ·cases h
theorem Dm (h:aH F A w0 φ st tm w) {e:CE} {v:Value} (he:cq st.ob w φ e v) {c:TC} (hc:vV st e=some c):ai w (rd φ (ee e)) .snap C2 c v∧ ∀d∈ee e,d=0∨aA st.ob d:=by
 unfold vV at hc
 split at hc
 ·cases hc
  obtain⟨rfl,hs⟩:=he;exact⟨.sc _ _ _ hs,fun d hd=>by cases hd⟩
 ·split at hc
  ·rename_i z rows hr
   cases hc
   exact oe h he hr
  ·cases hc
theorem SD (h:aH F A w0 φ st tm w) {e:CE} {v:Value} (he:cq st.ob w φ e v) {c:TC} (hc:vV st e=some c) {cb:Bool} (ho:SC st cb e) {Rd:Nat→Prop}:ai w Rd .deep (qB w φ st e) c v∧(∀k,qB w φ st e k→ ∃o,iU e=some o∧aA st.ob o∧φ.S o k):=by
 cases e with
 |sc x=>cases hc;obtain⟨rfl,hs⟩:=he;exact⟨.sc _ _ _ hs,fun k hk=>hk.elim⟩
 |nil z=>cases hc;obtain⟨rfl,hz⟩:=he;exact⟨tf hz,fun k hk=>hk.elim⟩
 |ref o cut=>
  have hd:sR st o=true:=by cases cut with
   |none=>exact ho
   |some _=>exact ho.2
  obtain⟨z,rows,hl⟩:=yL hd;obtain⟨b,h1,h2⟩:=he;rw[hl] at h1;cases h1;simp only[vV,kY,hl] at hc
  cases hc
  exact⟨(kz.cut (h.obj o _ hl) h2:ai w φ.I .deep (φ.S o) _ _).As rfl,fun k hk=>⟨o,rfl,⟨_,hl⟩,hk⟩⟩
 |snap ds loc z rows=>
  cases loc with
  |none=>exact ho.elim
  |some q=>
   obtain⟨o,i,f⟩:=q;obtain⟨z0,lS,hl⟩:=yL ho.2;obtain⟨h1,h2,h3⟩:=he;obtain⟨_,b,g1,g2,g3,ad,n,c',g4,g5⟩:=h3 o i f rfl;rw[hl] at g1;cases g1;simp only[vV,kY] at hc
   cases hc
   obtain⟨k1,k2,_⟩:=Dl h o i f _ ad n c' _ v hl rfl g4 g3 g5;exact⟨k1.As rfl,fun k hk=>⟨o,rfl,⟨_,hl⟩,k2 k hk⟩⟩
 |gone=>exact ho.elim
def yN (φ:Fp) (st:TS) (jY:List Nat) (k:Nat):Prop:=φ.I k∨ ∃o,2*o∈jY∧(o=0∨aA st.ob o)∧φ.S o k
def IE (φ:Fp) (st:TS) (jY:List Nat) (k:Nat):Prop:=yN φ st jY k∨ ∃b cs,2*b+1∈jY∧aa b st.bx=some cs∧k=(φ.β b).block
theorem rg_of {ds jY:List Nat} (hd: ∀d∈ds,d=0∨aA st.ob d) (hr: ∀d∈ds,2*d∈jY) {k:Nat} (hk:rd φ ds k):yN φ st jY k:=by
 rcases hk with hk|⟨d,hm,hk⟩
 ·exact .inl hk
 ·exact .inr ⟨d,hr d hm,hd d hm,hk⟩
theorem JL (h:aH F A w0 φ st tm w) {b:Nat} {cs:List CE} (hb:aa b st.bx=some cs) {off:Nat} {ts:List TC} (hc:qF st (cs.drop off)=some ts) {jY:List Nat} (hr: ∀d∈vZ st b,d∈jY):
 IE φ st jY (φ.β b).block∧ ∀(j:Nat) (c:TC),ts[j]?=some c→ ∃u,w.cell? (((φ.β b).add off).add j)=some u∧ai w (yN φ st jY) .snap C2 c u:=by
 have hbd:vZ st b=(2*b+1)::(cs.flatMap ee).map (2* ·):=by unfold vZ;rw[hb]
 rw[hbd] at hr;refine⟨.inr ⟨b,cs,hr _ (.head _),hb,rfl⟩,fun j c hj=> ?_⟩;obtain⟨e,he,hce⟩:=(j6 hc).2 j c hj;rw[lY] at he;obtain⟨u,u1,u2,u3⟩:=h.box b cs hb _ e he;obtain⟨k1,k2⟩:=Dm h u3 hce;refine⟨u,by rw[Addr.add_add];exact u1,k1.mU fun k hk=>rg_of k2 (fun d hd=>hr _ (.tail _ (List.mem_map.2 ⟨d,List.mem_flatMap.2 ⟨e,fC he,hd⟩,rfl⟩))) hk⟩
theorem GV: ∀{caps:List Nat} {xs:List (List TC)},Ku st caps=some xs→xs.length=caps.length∧ ∀(i:Nat) (ts:List TC),xs[i]?=some ts→ ∃b cs,caps[i]?=some b∧aa b st.bx=some cs∧qF st cs=some ts
 |[],xs,h=>by cases h;exact⟨rfl,fun i ts hi=>by simp at hi⟩
 |b::r,xs,h=>by
  simp only[Ku] at h
  split at h
  ·rename_i cs hb
   split at h
   ·rename_i c cs' h1 h2
    cases h
    obtain⟨g1,g2⟩:=GV h2;refine⟨by simp[g1],fun i ts hi=> ?_⟩
    cases i with
    |zero=>simp only[cZ,aU] at hi;subst hi;exact⟨b,cs,rfl,hb,h1⟩
    |succ i=>obtain⟨b',cs',a,b'',c⟩:=g2 i ts (by simpa using hi);exact⟨b',cs',by simpa using a,b'',c⟩
   ·cases h
  ·cases h
theorem Oq (h:aH F A w0 φ st tm w) {e:TE} {x:Value} (ht:bP st.ob w φ e x) {jY:List Nat} (hr: ∀d∈oz st e,d∈jY) {X:Nat→Nat→Prop} {Y:Nat→Prop} {K:TV→Ev R} (hk:(RO st e K).holds cf lp Q):
 ∃v,vl w .borrow (yN φ st jY) (IE φ st jY) X Y v x∧(K v).holds cf lp Q:=by
 have cells: ∀{cs:List CE} {ts:List TC} {xs:Array Value},qF st cs=some ts→(∀d∈cs.flatMap ee,2*d∈jY)→(∀(j:Nat) (e:CE),cs[j]?=some e→ ∃y,xs[j]?=some y∧y.cells= #[y]∧cq st.ob w φ e y)→
  ∀(j:Nat) (c:TC),ts[j]?=some c→ ∃u,xs[j]?=some u∧ ∀X:Nat→Prop,ai w (yN φ st jY) .snap X c u:=fun {cs ts xs} hc hd hx j c hj=>by
  obtain⟨e,he,hce⟩:=(j6 hc).2 j c hj;obtain⟨y,y1,_,y3⟩:=hx j e he;obtain⟨k1,k2⟩:=Dm h y3 hce;exact⟨y,y1,fun X=>k1.mU fun k hk=>rg_of k2 (fun d hd'=>hd d (List.mem_flatMap.2 ⟨e,fC he,hd'⟩)) hk⟩
 unfold RO at hk
 split at hk
 ·rename_i ag cs
  obtain⟨c0,e0,ht⟩:=ht
  cases e0
  have Qi: ∀d∈cs.flatMap ee,2*d∈jY:=fun d hd=>hr _ (List.mem_map.2 ⟨d,by simp only[fH,lX];exact hd,rfl⟩)
  split at hk
  ·rename_i ts hc
   split at hk
   ·obtain⟨xs,rfl,hsz,hx⟩:=ht
    refine⟨.ag ts,⟨xs,rfl,by rw[(j6 hc).1];exact hsz,fun j c hj=> ?_⟩,hk⟩;obtain⟨u,u1,u2⟩:=cells hc Qi hx j c hj;exact⟨u,u1,u2 _⟩
   ·rename_i c
    obtain⟨e1,rfl,hv,hce⟩:=ht
    obtain⟨u,u1,u2⟩:=cells (xs:= #[x]) hc Qi (fun j e he=>by
     cases j with
     |zero=>simp only[cZ,aU] at he;subst he;exact⟨x,rfl,hv,hce⟩
     |succ j=>simp at he) 0 c rfl
    have:x=u:=by simpa using u1
    subst this;exact⟨.c c,u2 _,hk⟩
   ·exact hk.elim
  ·exact hk.elim
 ·rename_i b
  have ht:x= .bool b:=ht;exact⟨.c (.sc (.bool b)),(by rw[ht];exact .sc _ _ _ trivial:ai w (yN φ st jY) (bu.borrow.mc 0) (X 0) (.sc (.bool b)) x),hk⟩
 ·rename_i b off
  have ht:x= .pointer (some ((φ.β b).add off)):=ht
  split at hk
  ·rename_i cs hb
   split at hk
   ·rename_i ts hc
    obtain⟨b1,b2⟩:=JL h hb hc (jY:=jY) hr;refine⟨.bx ts,⟨_,ht,by rw[bH];exact(h.sep.spot b cs hb).2.1,fun _=>by rw[bH];exact b1,fun hn=>absurd rfl hn,fun j c hj=> ?_⟩,hk⟩;obtain⟨u,u1,u2⟩:=b2 j c hj;exact⟨u,u1,u2.mU fun _ h=>h⟩
   ·exact hk.elim
  ·exact hk.elim
 ·rename_i ds c0 XM
  obtain⟨hd,ad,hv,hb,hc⟩:=ht;have Zo: ∀{k},rd φ ds k→yN φ st jY k:=fun hk=>rg_of hd (fun d hm=>hr _ (List.mem_map.2 ⟨d,hm,rfl⟩)) hk;have Zq:=hb eO;refine⟨.bx _,⟨ad,hv,h.sep.WN h.frm.size hd Zq,fun _=> .inl (Zo Zq),fun hn=>absurd rfl hn,fun j c hj=> ?_⟩,hk⟩;obtain⟨u,u1,u2⟩:=hc j c hj;exact⟨u,u1,u2.mU fun k hk=>Zo hk⟩
 ·rename_i r p i f
  obtain⟨b0,hb0,_⟩:=id ht;obtain⟨ad,XM,hv,hb,hc,hk,_⟩:=GH h.obj ht hk
  have hd: ∀d∈[r],d=0∨aA st.ob d:=fun d hm=>by simp only[jz] at hm;subst hm;exact .inr ⟨_,hb0⟩
  have Zo: ∀{k},rd φ [r] k→yN φ st jY k:=fun hk=>rg_of hd (fun d hm=>hr _ (by simp only[jz] at hm;subst hm;exact .head _)) hk
  split at hk
  ·exact hk.elim
  ·rename_i c1 abd
   have Zq:=hb eO;refine⟨.bx _,⟨ad,hv,h.sep.WN h.frm.size hd Zq,fun _=> .inl (Zo Zq),fun hn=>absurd rfl hn,fun j c hj=> ?_⟩,hk⟩;obtain⟨u,u1,u2⟩:=hc j c hj;exact⟨u,u1,u2.mU fun k hk=>Zo hk⟩
 ·rename_i f caps
  have ht:x= .func (.func f) #[] (caps.map fun b=>Value.pointer (some (φ.β b))).toArray:=ht
  split at hk
  ·rename_i xs hc
   obtain⟨g1,g2⟩:=GV hc;refine⟨.fn f xs,⟨rfl,caps.map φ.β,by rw[dB,g1],by rw[ht,List.map_map];rfl,fun i ts hi=> ?_⟩,hk⟩;obtain⟨b,cs,c1,c2,c3⟩:=g2 i ts hi;obtain⟨b1,b2⟩:=JL h c2 (off:=0) (by rw[List.drop_zero];exact c3) (jY:=jY) (fun d hd=>hr d (List.mem_flatMap.2 ⟨b,fC c1,hd⟩));refine⟨φ.β b,by rw[gY,c1];rfl,(h.sep.spot b cs c2).2.1,b1,fun j c hj=> ?_⟩;obtain⟨u,u1,u2⟩:=b2 j c hj;rw[Addr.add_zero'] at u1
   exact⟨u,u1,u2⟩
  ·exact hk.elim
 ·exact hk.elim
def eH (st:TS):TE→List CE
 | .v false [.mk _ cs]=>cs
 | .bp b _=>match aa b st.bx with|some cs=>cs|none=>[]
 |_=>[]
def vn:bu→Bool
 | .consume _=>true
 |_=>false
theorem Dn (h:aH F A w0 φ st tm w) {e:CE} {v:Value} (he:cq st.ob w φ e v) {c:TC} (hc:vV st e=some c) {cb:Bool} {m:Mode} (ho:Au st cb m e) {Rd:Nat→Prop} (hR: ∀k,φ.I k→Rd k):ai w Rd m (qB w φ st e) c v:=by
 rcases ho with⟨rfl,hf⟩|⟨rfl,ho⟩|⟨rfl,ho⟩
 ·obtain⟨k1,_⟩:=Dm h he hc
  have hd:ee e=[]:=by
   unfold QJ at hf
   split at hf<;>first|rfl|exact hf.elim
  rw[hd] at k1
  exact k1.mU fun k hk=>hk.elim (hR k) fun⟨d,hd,_⟩=>by cases hd
 ·exact(SD h he hc ho).1
 ·cases e with
  |sc x=>cases hc;obtain⟨rfl,hs⟩:=he;exact .sc _ _ _ hs
  |nil z=>cases hc;obtain⟨rfl,hz⟩:=he;exact tf hz
  |ref o cut=>
   cases cut with
   |some q=>exact ho.elim
   |none=>
    obtain⟨z,rows,hl⟩:=QL ho;obtain⟨b,h1,h2⟩:=he;rw[hl] at h1;cases h1;simp only[vV,kY,hl] at hc
    cases hc
    exact(kz.cut (h.obj o _ hl) h2:ai w φ.I .top (φ.S o) _ _).move (fun k hk=>⟨hR k hk,rfl⟩) (fun _ _ _=>rfl)
  |snap ds loc z rows=>exact ho.elim
  |gone=>exact ho.elim
theorem VZ {p:bu} (hp:p≠ .borrow) (j:Nat):p.mc j=QM p.ms j:=by
 cases p with
 |borrow=>exact absurd rfl hp
 |inout ms=>rfl
 |consume ms=>rfl
theorem UI (h:aH F A w0 φ st tm w) {e:TE} {x:Value} (ht:bP st.ob w φ e x) {p:bu} (hp:p≠ .borrow) {l:List Nat} (ho:nQ st (vn p) p.ms e=some l) {Rg BB:Nat→Prop} (hR: ∀k,φ.I k→Rg k) {K:TV→Ev R} (hk:(RO st e K).holds cf lp Q):
 ∃v,vl w p Rg BB (fun j=>qB w φ st ((eH st e).getD j .gone)) (fun k=> ∃b,e= .bp b 0∧k=(φ.β b).block) v x∧(K v).holds cf lp Q:=by
 unfold RO at hk
 split at hk
 ·rename_i ag cs
  have ho:oA st (vn p) p.ms cs=some l:=by
   have ho:(match vn p,p.ms with|true,ms=>oA st true ms cs|false,[]=>oA st false [] cs|_,_=>none)=some l:=ho
   split at ho
   ·rename_i h1;rw[h1];exact ho
   ·rename_i h1 h2;rw[h1,h2];exact ho
   ·cases ho
  obtain⟨o1,o2,o3⟩:=rH ho;obtain⟨c0,e0,ht⟩:=ht
  cases e0
  have wR: ∀{j:Nat} {e:CE},cs[j]?=some e→(eH st (.v false [.mk ag cs])).getD j .gone=e:=fun {j e} he=>by simp[eH,List.getD,he]
  have hmc: ∀j,p.mc j=QM p.ms j:=fun j=>by rw[VZ hp]
  split at hk
  ·rename_i ts hc
   split at hk
   ·obtain⟨xs,rfl,hsz,hx⟩:=ht
    refine⟨.ag ts,⟨xs,rfl,by rw[(j6 hc).1];exact hsz,fun j c hj=> ?_⟩,hk⟩;obtain⟨e,he,hce⟩:=(j6 hc).2 j c hj;obtain⟨y,y1,_,y3⟩:=hx j e he;refine⟨y,y1,?_⟩;show ai w Rg (p.mc j) (qB w φ st ((eH st (.v false [.mk true cs])).getD j .gone)) c y;rw[wR he];exact Dn h y3 hce (by rw[hmc];exact(o1 j e he).1) hR
   ·rename_i c
    obtain⟨e1,rfl,hv,hce⟩:=ht;obtain⟨e,he,hcc⟩:=(j6 hc).2 0 c rfl;simp only[cZ,aU] at he;subst he;refine⟨.c c,?_,hk⟩;show ai w Rg (p.mc 0) _ c x;exact Dn h hce hcc (by rw[hmc];exact(o1 0 _ rfl).1) hR
   ·exact hk.elim
  ·exact hk.elim
 ·cases ho
 ·rename_i b off
  have ht:x= .pointer (some ((φ.β b).add off)):=ht;unfold nQ at ho
  split at ho
  ·rename_i e0;cases e0
  ·rename_i e0
   cases e0
   split at ho
   ·rename_i cs hcb Aj hb
    split at ho
    ·rename_i l0 hl
     obtain⟨o1,o2,o3⟩:=rH hl;rw[hb] at hk;simp only[List.drop_zero] at hk
     split at hk
     ·rename_i ts hc
      rw[Addr.add_zero'] at ht;obtain⟨g1,g2⟩:=j6 hc;refine⟨.bx ts,⟨_,ht,(h.sep.spot b cs hb).2.1,fun e=>absurd e hp,fun _=>⟨(h.sep.spot b cs hb).1 Aj,⟨b,rfl,rfl⟩,fun j hj=>h.sep.soft b cs j hb Aj ax⟩,fun j c hj=> ?_⟩,hk⟩;obtain⟨e,he,hce⟩:=g2 j c hj;obtain⟨u,u1,u2,u3⟩:=h.box b cs hb j e he;refine⟨u,u1,?_⟩
      have:(eH st (.bp b 0)).getD j .gone=e:=by simp[eH,hb,List.getD,he]
      show ai w Rg (p.mc j) (qB w φ st ((eH st (.bp b 0)).getD j .gone)) c u;rw[this];exact Dn h u3 hce (by rw[VZ hp];exact(o1 j e he).1) hR
     ·exact hk.elim
    ·cases ho
   ·cases ho
  ·cases ho
 ·cases ho
 ·cases ho
 ·cases ho
 ·exact hk.elim
end Go.T
namespace Go.T
variable {F : Nat → Prop} {A : Arg} {w0 w w' : World} {φ φ' : Fp} {st st' sta cG lR : TS} {tm AK : Array Value} {C : jC}
variable {R : Type} {cf : Cf} {lp : Lp} {Q : R → Prop}
theorem SE (h:aH F A w0 φ st tm w) {e:CE} {v:Value} (he:cq st.ob w φ e v) {cb:Bool} {m:Mode} (ho:Au st cb m e) {k:Nat} (hk:qB w φ st e k): ∃o,iU e=some o∧aA st.ob o∧φ.S o k:=by
 cases e with
 |sc x=>exact hk.elim
 |nil z=>exact hk.elim
 |ref o cut=>obtain⟨b,h1,_⟩:=he;exact⟨o,rfl,⟨b,h1⟩,hk⟩
 |snap ds loc z rows=>
  cases loc with
  |none=>exact hk.elim
  |some q=>
   obtain⟨o,i,f⟩:=q;have ho:=ho.key (o:=o) rfl;obtain⟨z0,lS,hl⟩:=yL ho.2;obtain⟨_,_,h3⟩:=he;obtain⟨_,b,g1,g2,g3,ad,n,c',g4,g5⟩:=h3 o i f rfl;rw[hl] at g1;cases g1;exact⟨o,rfl,⟨_,hl⟩,(Dl h o i f _ ad n c' _ v hl rfl g4 g3 g5).2.1 k hk⟩
 |gone=>exact hk.elim
structure SF (st:TS) (c:Bool) (ms:List Mode) (e:TE) (l:List Nat):Prop where
 one: ∀(j:Nat) (e':CE),(eH st e)[j]?=some e'→(∃cb m,Au st cb m e'∧(c=true→cb=true))∧ ∀o,iU e'=some o→2*o∈l
 mem: ∀o,2*o∈l→ ∃(j:Nat) (e':CE),(eH st e)[j]?=some e'∧iU e'=some o
 uniq:l.Nodup→ ∀(j j':Nat) (e1 e2:CE) (o:Nat),(eH st e)[j]?=some e1→(eH st e)[j']?=some e2→iU e1=some o→iU e2=some o→j=j'
 bx: ∀b off,e= .bp b off→off=0∧c=false∧u0 b=true∧2*b+1∈l∧aa b st.bx=some (eH st e)∧ ∀(j:Nat) (e':CE),(eH st e)[j]?=some e'→Au st true (QM ms j) e'
 form:(∃b,e= .bp b 0)∨((c=true∨ms=[])∧ ∃ag cs,e= .v false [.mk ag cs]∧ ∀(j:Nat) (e':CE),cs[j]?=some e'→Au st c (QM ms j) e')
theorem Dp {c:Bool} {ms:List Mode} {e:TE} {l:List Nat} (h:nQ st c ms e=some l):SF st c ms e l:=by
 unfold nQ at h
 split at h
 ·rename_i ag cs
  obtain⟨NR,h⟩:(c=true∨ms=[])∧oA st c ms cs=some l:=by
   split at h
   ·exact⟨.inl rfl,h⟩
   ·exact⟨.inr rfl,h⟩
   ·cases h
  have ok:=rH h;refine⟨fun j e' he=>⟨⟨c,_,(ok.one j e' he).1,id⟩,(ok.one j e' he).2⟩,fun o ho=> ?_,fun hn j j' e1 e2 o h1 h2=>ok.uniq hn j j' e1 e2 o h1 h2,fun b off e=>(by cases e),.inr ⟨NR,ag,cs,rfl,fun j e' he=>(ok.one j e' he).1⟩⟩;obtain⟨o',e1,j,e',h1,h2⟩:=ok.mem _ ho
  have:o=o':=by omega
  subst this;exact⟨j,e',h1,h2⟩
 ·rename_i b
  split at h
  ·rename_i cs hw hb
   split at h
   ·rename_i l0 hl
    cases h
    have ok:=rH hl
    have hcs:eH st (.bp b 0)=cs:=by simp[eH,hb]
    refine⟨fun j e' he=> ?_,fun o ho=> ?_,fun hn j j' e1 e2 o h1 h2=> ?_,fun b' off e=> ?_,.inl ⟨b,rfl⟩⟩
    ·rw[hcs] at he
     exact⟨⟨true,_,(ok.one j e' he).1,fun _=>rfl⟩,fun o ho=> .tail _ ((ok.one j e' he).2 o ho)⟩
    ·rw[hcs]
     rcases cw.1 ho with ho|ho
     ·omega
     ·obtain⟨o',e1,j,e',h1,h2⟩:=ok.mem _ ho
      have:o=o':=by omega
      subst this;exact⟨j,e',h1,h2⟩
    ·rw[hcs] at h1 h2
     exact ok.uniq (List.nodup_cons.1 hn).2 j j' e1 e2 o h1 h2
    ·cases e
     rw[hcs];exact⟨rfl,rfl,hw,.head _,hb,fun j e' he=>(ok.one j e' he).1⟩
   ·cases h
  ·cases h
 ·cases h
theorem wq (h:aH F A w0 φ st tm w) {e:TE} {x:Value} (ht:bP st.ob w φ e x) {j:Nat} {e':CE} (he:(eH st e)[j]?=some e'): ∃v,cq st.ob w φ e' v:=by
 unfold eH at he
 split at he
 ·rename_i ag cs
  obtain⟨y,_,_,h3⟩:=(pg (cs:=cs) ht rfl).2 j e' he;exact⟨y,h3⟩
 ·split at he
  ·rename_i cs hb
   obtain⟨v,_,_,h3⟩:=h.box _ cs hb j e' he;exact⟨v,h3⟩
  ·simp at he
 ·simp at he
structure uK (st:TS) (ps:List bu) (es:List TE) (own jY:List Nat):Prop where
 len:ps.length=es.length
 rd: ∀(i:Nat) (e:TE),ps[i]?=some .borrow→es[i]?=some e→ ∀d∈oz st e,d∈jY
 ow: ∀(i:Nat) (p:bu) (e:TE),ps[i]?=some p→es[i]?=some e→p≠ .borrow→ ∃l,SF st (vn p) p.ms e l∧(∀x∈l,x∈own)∧(own.Nodup→l.Nodup)∧nQ st (vn p) p.ms e=some l
 uniq:own.Nodup→ ∀(i i':Nat) (p p':bu) (e e':TE) (l l':List Nat) (x:Nat),ps[i]?=some p→ps[i']?=some p'→es[i]?=some e→es[i']?=some e'→p≠ .borrow→p'≠ .borrow→nQ st (vn p) p.ms e=some l→nQ st (vn p') p'.ms e'=some l'→x∈l→x∈l'→i=i'
 mem: ∀x∈own,∃(i:Nat) (p:bu) (e:TE) (l:List Nat),ps[i]?=some p∧es[i]?=some e∧p≠ .borrow∧nQ st (vn p) p.ms e=some l∧x∈l
theorem vo: ∀{ps:List bu} {es:List TE} {own jY:List Nat},v7 st ps es=some (own,jY)→uK st ps es own jY
 |[],[],own,jY,h=>by
  cases h
  exact⟨rfl,fun i e h=>by simp at h,fun i p e h=>by simp at h,fun _ i i' p p' e e' l l' x h=>by simp at h,fun x hx=>by cases hx⟩
 |[],_::_,_,_,h=>by cases h
 |_::_,[],_,_,h=>by cases h
 |p::ps,e::es,own,jY,h=>by
  simp only[v7] at h
  split at h
  ·rename_i own0 rd0 hg
   have ih:=vo hg
   by_cases hp:p= .borrow
   ·subst hp
    cases h
    refine⟨by simp[ih.len],fun i e' h1 h2 d hd=> ?_,fun i p' e' h1 h2 LO=> ?_,fun hn i i' p' p'' e' e'' l l' x h1 h2 h3 h4 Ye NN h5 h6 h7 h8=> ?_,fun x hx=> ?_⟩
    ·cases i with
     |zero=>simp only[cZ,aU] at h2;subst h2;exact gr _ hd
     |succ i=>exact lG _ (ih.rd i e' (by simpa using h1) (by simpa using h2) d hd)
    ·cases i with
     |zero=>simp only[cZ,aU] at h1;exact absurd h1.symm LO
     |succ i=>exact ih.ow i p' e' (by simpa using h1) (by simpa using h2) LO
    ·cases i with
     |zero=>simp only[cZ,aU] at h1;exact absurd h1.symm Ye
     |succ i=>
      cases i' with
      |zero=>simp only[cZ,aU] at h2;exact absurd h2.symm NN
      |succ i'=>rw[ih.uniq hn i i' p' p'' e' e'' l l' x (by simpa using h1) (by simpa using h2) (by simpa using h3) (by simpa using h4) Ye NN h5 h6 h7 h8]
    ·obtain⟨i,p',e',l,a1,a2,a3⟩:=ih.mem x hx
     exact⟨i+1,p',e',l,by simpa using a1,by simpa using a2,a3⟩
   ·obtain⟨l0,AM,hown⟩: ∃l0,nQ st (vn p) p.ms e=some l0∧(own,jY)=(l0++own0,rd0):=by
     cases p with
     |borrow=>exact absurd rfl hp
     |inout ms=>simp only at h;split at h;(rename_i l hl;exact⟨l,hl,by cases h;rfl⟩);cases h
     |consume ms=>simp only at h;split at h;(rename_i l hl;exact⟨l,hl,by cases h;rfl⟩);cases h
    cases hown
    refine⟨by simp[ih.len],fun i e' h1 h2 d hd=> ?_,fun i p' e' h1 h2 LO=> ?_,fun hn i i' p' p'' e' e'' l l' x h1 h2 h3 h4 Ye NN h5 h6 h7 h8=> ?_,fun x hx=> ?_⟩
    ·cases i with
     |zero=>simp only[cZ,aU] at h1;exact absurd h1 hp
     |succ i=>exact ih.rd i e' (by simpa using h1) (by simpa using h2) d hd
    ·cases i with
     |zero=>
      simp only[cZ,aU] at h1 h2;subst h1 h2;exact⟨l0,Dp AM,fun x hx=>gr _ hx,fun hn=>(List.nodup_append.1 hn).1,AM⟩
     |succ i=>
      obtain⟨l,a,b,c,d⟩:=ih.ow i p' e' (by simpa using h1) (by simpa using h2) LO;exact⟨l,a,fun x hx=>lG _ (b x hx),fun hn=>c (List.nodup_append.1 hn).2.1,d⟩
    ·have hd:=List.nodup_append.1 hn
     have tail: ∀{i:Nat} {p':bu} {e':TE} {l:List Nat},ps[i]?=some p'→es[i]?=some e'→p'≠ .borrow→nQ st (vn p') p'.ms e'=some l→x∈l→x∈own0:=fun {i p' e' l} a1 a2 a3 a4 a5=>by
      obtain⟨l2,_,b,_,d⟩:=ih.ow i p' e' a1 a2 a3;rw[a4] at d;cases d;exact b x a5
     cases i with
     |zero=>
      simp only[cZ,aU] at h1 h3;subst h1 h3;rw[AM] at h5;cases h5
      cases i' with
      |zero=>rfl
      |succ i'=>exact absurd rfl (hd.2.2 x h7 x (tail (by simpa using h2) (by simpa using h4) NN h6 h8))
     |succ i=>
      cases i' with
      |zero=>
       simp only[cZ,aU] at h2 h4;subst h2 h4;rw[AM] at h6;cases h6;exact absurd rfl (hd.2.2 x h8 x (tail (by simpa using h1) (by simpa using h3) Ye h5 h7))
      |succ i'=>rw[ih.uniq hd.2.1 i i' p' p'' e' e'' l l' x (by simpa using h1) (by simpa using h2) (by simpa using h3) (by simpa using h4) Ye NN h5 h6 h7 h8]
    ·rcases List.mem_append.1 hx with hx|hx
     ·exact⟨0,p,e,l0,rfl,rfl,hp,AM,hx⟩
     ·obtain⟨i,p',e',l,a1,a2,a3⟩:=ih.mem x hx
      exact⟨i+1,p',e',l,by simpa using a1,by simpa using a2,a3⟩
  ·cases h
noncomputable def Ot (w:World) (φ:Fp) (st:TS) (ps:List bu) (es:List TE) (i j k:Nat):Prop:=
 ∃p e,ps[i]?=some p∧es[i]?=some e∧p≠ .borrow∧qB w φ st ((eH st e).getD j .gone) k
def PT (φ:Fp) (ps:List bu) (es:List TE) (i k:Nat):Prop:= ∃p b,ps[i]?=some p∧es[i]?=some (.bp b 0)∧p≠ .borrow∧k=(φ.β b).block
theorem B6 (h:aH F A w0 φ st tm w) {ps:List bu} {es:List TE} {own jY:List Nat} (g:uK st ps es own jY) {xs:List Value} (Eh: ∀(i:Nat) (e:TE),es[i]?=some e→ ∃x,xs[i]?=some x∧bP st.ob w φ e x) {i j k:Nat} (hx:Ot w φ st ps es i j k):
 ∃p e e' o l,ps[i]?=some p∧es[i]?=some e∧p≠ .borrow∧(eH st e)[j]?=some e'∧iU e'=some o∧aA st.ob o∧φ.S o k∧nQ st (vn p) p.ms e=some l∧2*o∈l∧2*o∈own:=by
 obtain⟨p,e,h1,h2,hp,hk⟩:=hx;obtain⟨l,ok,hl,_,AM⟩:=g.ow i p e h1 h2 hp;obtain⟨x,_,ht⟩:=Eh i e h2
 cases he:(eH st e)[j]? with
 |none=>rw[List.getD,he] at hk;exact hk.elim
 |some e'=>
  rw[List.getD,he] at hk;obtain⟨v,hv⟩:=wq h ht he;obtain⟨⟨cb,_,ho,_⟩,hkey⟩:=ok.one j e' he;obtain⟨o,k1,k2,k3⟩:=SE h hv ho hk;exact⟨p,e,e',o,l,h1,h2,hp,he,k1,k2,k3,AM,hkey o k1,hl _ (hkey o k1)⟩
theorem SG (h:aH F A w0 φ st tm w) {jY:List Nat} {Xs:Nat→Nat→Nat→Prop} {Ys:Nat→Nat→Prop}: ∀(ps:List bu) (es:List TE) (xs:List Value) (K:List TV→Ev R),ps.length=es.length→(∀(i:Nat) (e:TE),es[i]?=some e→ ∃x,xs[i]?=some x∧bP st.ob w φ e x)→
 (∀(i:Nat) (e:TE),ps[i]?=some .borrow→es[i]?=some e→ ∀d∈oz st e,d∈jY)→(∀(i:Nat) (p:bu) (e:TE),ps[i]?=some p→es[i]?=some e→p≠ .borrow→ ∃l,nQ st (vn p) p.ms e=some l)→
 (∀(i:Nat) (p:bu) (e:TE) (v:TV) (x:Value),ps[i]?=some p→es[i]?=some e→p≠ .borrow→vl w p (yN φ st jY) (IE φ st jY) (fun j=>qB w φ st ((eH st e).getD j .gone)) (fun k=> ∃b,e= .bp b 0∧k=(φ.β b).block) v x→vl w p (yN φ st jY) (IE φ st jY) (Xs i) (Ys i) v x)→
 (Ma st es K).holds cf lp Q→ ∃vs,vs.length=es.length∧(∀(i:Nat) (v:TV),vs[i]?=some v→ ∃x,xs[i]?=some x∧vl w (ps.getD i .borrow) (yN φ st jY) (IE φ st jY) (Xs i) (Ys i) v x)∧(K vs).holds cf lp Q:=by
 intro ps es
 induction es generalizing ps Xs Ys with
 |nil=>intro xs K _ _ _ _ _ hk;exact⟨[],rfl,fun i v hv=>by simp at hv,hk⟩
 |cons e es ih=>
  intro xs K hl Eh hr ho hXY hk
  cases ps with
  |nil=>cases hl
  |cons p ps=>
   obtain⟨x,hx,ht⟩:=Eh 0 e rfl
   obtain⟨v,hv,hk⟩: ∃v,vl w p (yN φ st jY) (IE φ st jY) (Xs 0) (Ys 0) v x∧(Ma st es fun vs=>K (v::vs)).holds cf lp Q:=by
    by_cases hp:p= .borrow
    ·subst hp
     exact Oq h ht (hr 0 e rfl rfl) hk
    ·obtain⟨l,hl⟩:=ho 0 p e rfl rfl hp
     obtain⟨v,a,b⟩:=UI (Rg:=yN φ st jY) (BB:=IE φ st jY) h ht hp hl (fun _ hI=>Or.inl hI) hk;exact⟨v,hXY 0 p e v x rfl rfl hp a,b⟩
   obtain⟨vs,v1,v2,v3⟩:=ih (Xs:=fun i=>Xs (i+1)) (Ys:=fun i=>Ys (i+1)) ps (xs.drop 1) (fun vs=>K (v::vs)) (by simpa using hl) (fun i e' he=>by
    obtain⟨x',a,b⟩:=Eh (i+1) e' (by simpa using he)
    exact⟨x',by rw[lY,Nat.add_comm];exact a,b⟩) (fun i e' h1 h2=>hr (i+1) e' (by simpa using h1) (by simpa using h2)) (fun i p' e' h1 h2 h3=>ho (i+1) p' e' (by simpa using h1) (by simpa using h2) h3)
    (fun i p' e' v' x' h1 h2 h3 h4=>hXY (i+1) p' e' v' x' (by simpa using h1) (by simpa using h2) h3 h4) hk
   refine⟨v::vs,by simp[v1],fun i v' hi=> ?_,v3⟩
   cases i with
   |zero=>simp only[cZ,aU] at hi;subst hi;exact⟨x,hx,by simpa using hv⟩
   |succ i=>
    obtain⟨x',a,b⟩:=v2 i v' (by simpa using hi);refine⟨x',by rw[lY,Nat.add_comm] at a;exact a,?_⟩;simpa using b
theorem UJ (h:aH F A w0 φ st tm w) {ps:List bu} {es:List TE} {own jY:List Nat} (hg:v7 st ps es=some (own,jY)) (hn:AP own=true) (hm:qy own jY=false) {xs:List Value} (Eh: ∀(i:Nat) (e:TE),es[i]?=some e→ ∃x,xs[i]?=some x∧bP st.ob w φ e x)
 {K:List TV→Ev R} (hk:(Ma st es K).holds cf lp Q): ∃vs,(K vs).holds cf lp Q∧(rA vs=true→KO w ps vs xs (yN φ st jY) (IE φ st jY) (Ot w φ st ps es) (PT φ ps es)):=by
 have g:=vo hg;have L0:=AX.1 hn
 obtain⟨vs,v1,v2,v3⟩:=SG h (jY:=jY) (Xs:=Ot w φ st ps es) (Ys:=PT φ ps es) ps es xs K g.len Eh g.rd (fun i p e h1 h2 hp=>let ⟨l,_,_,_,hl⟩:=g.ow i p e h1 h2 hp;⟨l,hl⟩) (fun i p e v x h1 h2 hp hin=>by
  have hXe: ∀j,Ot w φ st ps es i j=qB w φ st ((eH st e).getD j .gone):=fun j=>by
   funext k
   refine propext ⟨?_,fun hk=>⟨p,e,h1,h2,hp,hk⟩⟩;rintro⟨p',e',a1,a2,a3,a4⟩;rw[h2] at a2;cases a2;exact a4
  have hYe:PT φ ps es i=fun k=> ∃b,e= .bp b 0∧k=(φ.β b).block:=by
   funext k
   refine propext ⟨?_,?_⟩
   ·rintro⟨p',b,a1,a2,a3,a4⟩
    rw[h2] at a2;cases a2;exact⟨b,rfl,a4⟩
   ·rintro⟨b,rfl,hk⟩
    exact⟨p,b,h1,h2,hp,hk⟩
  have:Ot w φ st ps es i=fun j=>qB w φ st ((eH st e).getD j .gone):=funext hXe;rw[this,hYe]
  exact hin) hk
 have notRg: ∀{o k},2*o∈own→aA st.ob o→φ.S o k→ ¬yN φ st jY k:=fun {o k} ho hd hS hr=>by
  rcases hr with hr|⟨o',r1,r2,r3⟩
  ·exact h.sep.read o k hd hS hr
  ·rcases r2 with rfl|r2
   ·rw[h.sep.arg] at r3
    have:=h.sep.kk k r3;rcases (h.sep.fresh o k hd hS).2 with h3|h3
    ·omega
    ·exact this.2 h3
   ·have:=h.sep.apart o o' k hd r2 hS r3
    subst this;exact oc hm ho r1
 have notBB: ∀{o k},2*o∈own→aA st.ob o→φ.S o k→ ¬IE φ st jY k:=fun {o k} ho hd hS hb=>by
  rcases hb with hb|⟨b,cs,b1,b2,b3⟩
  ·exact notRg ho hd hS hb
  ·exact h.kZ hd hS b2 b3.symm
 have yb: ∀{i k},PT φ ps es i k→ ∃p b l,ps[i]?=some p∧es[i]?=some (.bp b 0)∧p≠ .borrow∧k=(φ.β b).block∧u0 b=true∧(∃cs,aa b st.bx=some cs)∧nQ st (vn p) p.ms (.bp b 0)=some l∧2*b+1∈l∧2*b+1∈own:=fun {i k} ⟨p,b,h1,h2,hp,hk⟩=>by
  obtain⟨l,ok,hl,_,AM⟩:=g.ow i p _ h1 h2 hp;obtain⟨_,_,hw,hb1,hb2,_⟩:=ok.bx b 0 rfl;exact⟨p,b,l,h1,h2,hp,hk,hw,⟨_,hb2⟩,AM,hb1,hl _ hb1⟩
 refine⟨vs,v3,fun hs=>⟨v2,hs,fun i j k hk=> ?_,fun i k hk=> ?_,fun k hk=> ?_,fun k hk=> ?_⟩⟩
 ·obtain⟨p,e,e',o,l,h1,h2,hp,he,hkey,hd,hS,AM,hol,Yc⟩:=B6 h g Eh hk
  refine⟨(h.sep.fresh o k hd hS).1,notRg Yc hd hS,notBB Yc hd hS,fun i' hy=> ?_,fun i' j' hk'=> ?_⟩
  ·obtain⟨_,b,_,_,_,_,Yf,_,⟨cs,hb⟩,_⟩:=yb hy
   exact h.kZ hd hS hb Yf.symm
  ·obtain⟨p',e2,e2',o',l',g1,g2,gp,ge,gkey,gd,gS,gl0,gol,goo⟩:=B6 h g Eh hk'
   have:=h.sep.apart o o' k hd gd hS gS;subst this;have hii:=g.uniq L0 i i' p p' e e2 l l' (2*o) h1 g1 h2 g2 hp gp AM gl0 hol gol;subst hii;rw[h2] at g2;cases g2;rw[h1] at g1;cases g1;obtain⟨l2,ok,_,Zr,AL⟩:=g.ow i p e h1 h2 hp;exact⟨rfl,(ok.uniq (Zr L0) j j' e' e2' o he ge hkey gkey).symm⟩
 ·obtain⟨p,b,l,h1,h2,hp,rfl,hw,⟨cs,hb⟩,AM,RB,hbo⟩:=yb hk
  obtain⟨x1,x2,x3,x4⟩:=h.sep.box b cs hb hw
  have nrg: ¬yN φ st jY (φ.β b).block:=fun hr=>by
   rcases hr with hr|⟨o',r1,r2,r3⟩
   ·exact x1 hr
   ·rcases r2 with rfl|r2
    ·rw[h.sep.arg] at r3
     have:=h.sep.kk _ r3;rcases x3 with h3|h3
     ·omega
     ·exact this.2 h3
    ·exact x2 o' r2 r3
  refine⟨(h.sep.spot b cs hb).2.1,nrg,fun Ix=> ?_,fun i' hy=> ?_⟩
  ·rcases Ix with hr|⟨b',cs',r1,r2,r3⟩
   ·exact nrg hr
   ·by_cases Ix:b'=b
    ·subst Ix;exact oc hm hbo r1
    ·exact x4 b' cs' r2 Ix r3.symm
  ·obtain⟨p',b',l',g1,g2,gp,gk,gw,⟨cs',gb⟩,gl0,gbl,gbo⟩:=yb hy
   have Ix:b'=b:=Classical.byContradiction fun hne=>x4 b' cs' gb hne gk.symm;subst Ix;exact(g.uniq L0 i i' p p' _ _ l l' (2*b'+1) h1 g1 h2 g2 hp gp AM gl0 RB gbl).symm
 ·rcases hk with hk|⟨o,_,ho,hk⟩
  ·exact(h.sep.ro k hk).1
  ·exact h.sep.lt h.frm.size ho hk
 ·rcases hk with(hk|⟨o,_,ho,hk⟩)|⟨b,cs,_,hb,rfl⟩
  ·exact(h.sep.ro k hk).1
  ·exact h.sep.lt h.frm.size ho hk
  ·exact(h.sep.spot b cs hb).2.1
end Go.T
namespace Go.T
variable {F : Nat → Prop} {A : Arg} {w0 w w' : World} {φ φ' : Fp} {st st' sta cG lR : TS} {tm AK : Array Value} {C : jC}
variable {R : Type} {cf : Cf} {lp : Lp} {Q : R → Prop}
structure uL (st st':TS) (os bs:List Nat):Prop where
 ob: ∀o,aa o st'.ob=if o∈os then none else aa o st.ob
 bx: ∀b cs,aa b st'.bx=some cs→b∉bs∧ ∃cs0,aa b st.bx=some cs0∧cs.length=cs0.length
theorem uL.refl (st:TS):uL st st [] []:=⟨fun o=>by simp,fun b cs h=>⟨by simp,cs,h,rfl⟩⟩
theorem uL.trans {a b c:TS} {o1 o2 b1 b2:List Nat} (h:uL a b o1 b1) (k:uL b c o2 b2):uL a c (o1++o2) (b1++b2):=by
 refine⟨fun o=> ?_,fun x cs hx=> ?_⟩
 ·rw[k.ob,h.ob]
  by_cases h1:o∈o1<;>by_cases h2:o∈o2<;>simp[h1,h2]
 ·obtain⟨n2,cs1,g1,g2⟩:=k.bx x cs hx
  obtain⟨n1,cs0,g3,g4⟩:=h.bx x cs1 g1;exact⟨fun hm=>(List.mem_append.1 hm).elim n1 n2,cs0,g3,g2.trans g4⟩
theorem uL.kill (st:TS) (o:Nat):uL st (ku o st) [o] []:=by
 refine⟨fun d=> ?_,fun b cs h=>⟨by simp,eR _ b cs h⟩⟩
 by_cases hd:d=o
 ·subst hd
  rw[aP (.head _)]
  cases hl:aa d (ku d st).ob with
  |none=>rfl
  |some b=>exact absurd rfl (ig.1 ⟨b,hl⟩).1
 ·rw[Jw hd,aF (by simpa using hd)]
def m4:List CE→List Nat
 |[]=>[]
 | .ref o _::r=>o::m4 r
 |_::r=>m4 r
theorem yO {o:Nat}: ∀{cs:List CE},o∈m4 cs↔ ∃(j:Nat) (cut:Option (Int×Int)),cs[j]?=some (.ref o cut)
 |[]=>by simp[m4]
 |e::r=>by
  have ih:=yO (o:=o) (cs:=r);have shift:(∃(j:Nat) (cut:Option (Int×Int)),r[j]?=some (.ref o cut))→ ∃(j:Nat) (cut:Option (Int×Int)),(e::r)[j]?=some (.ref o cut):=fun⟨j,cut,h⟩=>⟨j+1,cut,by simpa using h⟩
  cases e with
  |ref p cut=>
   simp only[m4,cw]
   constructor
   ·rintro(rfl|h)
    ·exact⟨0,cut,rfl⟩
    ·exact shift (ih.1 h)
   ·rintro⟨j,c,h⟩
    cases j with
    |zero=>simp only[cZ,aU,CE.ref.injEq] at h;exact .inl h.1.symm
    |succ j=>exact .inr (ih.2 ⟨j,c,by simpa using h⟩)
  |_=>
   simp only[m4];rw[ih]
   constructor
   ·exact shift
   ·rintro⟨j,c,h⟩
    cases j with
    |zero=>simp at h
    |succ j=>exact⟨j,c,by simpa using h⟩
theorem wu: ∀(cs:List CE) (st:TS),aH F A w0 φ st tm w→aH F A w0 φ (qG cs st) tm w∧uL st (qG cs st) (m4 cs) []
 |[],st,h=>⟨h,uL.refl st⟩
 |e::r,st,h=>by
  cases e with
  |ref o cut=>
   obtain⟨h1,h2⟩:=wu r (ku o st) (h.ku o);exact⟨h1,(uL.kill st o).trans h2⟩
  |_=>exact wu r st h
theorem UK (h:aH F A w0 φ st tm w) (b:Nat):aH F A w0 φ ⟨st.tm,ni b st.bx,st.ob⟩ tm w∧uL st ⟨st.tm,ni b st.bx,st.ob⟩ [] [b]:=by
 refine⟨h.less (fun i=> .inr rfl) (fun b' cs hb=> ?_) rfl,fun o=>by simp,fun b' cs hb=> ?_⟩
 ·simp only[fI] at hb
  split at hb
  ·cases hb
  ·exact hb
 ·simp only[fI] at hb
  split at hb
  ·cases hb
  ·rename_i hne
   exact⟨by simpa using hne,cs,hb,rfl⟩
def fA (m9:TS):List bu→List TE→List Nat
 |p::ps,e::es=>match p,e with
  | .consume _,.v false [.mk _ cs]=>m4 cs++fA m9 ps es
  | .inout _,.bp b _=>match aa b m9.bx with
    |some cs=>m4 cs++fA m9 ps es
    |none=>fA m9 ps es
  |_,_=>fA m9 ps es
 |_,_=>[]
def k9 (m9:TS):List bu→List TE→List Nat
 |p::ps,e::es=>match p,e with
  | .inout _,.bp b _=>match aa b m9.bx with
    |some cs=>b::k9 m9 ps es
    |none=>k9 m9 ps es
  |_,_=>k9 m9 ps es
 |_,_=>[]
theorem MI {m9:TS}: ∀(ps:List bu) (es:List TE) (st:TS),aH F A w0 φ st tm w→aH F A w0 φ (pZ m9 ps es st) tm w∧uL st (pZ m9 ps es st) (fA m9 ps es) (k9 m9 ps es)
 |[],es,st,h=>by simp only[pZ,fA,k9];exact⟨h,uL.refl st⟩
 |p::ps,[],st,h=>by simp only[pZ,fA,k9];exact⟨h,uL.refl st⟩
 |p::ps,e::es,st,h=>by
  have ih:=MI (m9:=m9) ps es
  by_cases hc:(∃ms,p= .consume ms)∧ ∃ag cs,e= .v false [.mk ag cs]
  ·obtain⟨⟨ms,rfl⟩,ag,cs,rfl⟩:=hc
   obtain⟨h1,h2⟩:=wu cs st h;obtain⟨h3,h4⟩:=ih _ h1;exact⟨h3,(by simpa using h2.trans h4:uL st (pZ m9 ps es (qG cs st)) (m4 cs++fA m9 ps es) (k9 m9 ps es))⟩
  ·by_cases hi:(∃ms,p= .inout ms)∧ ∃b off,e= .bp b off
   ·obtain⟨⟨ms,rfl⟩,b,off,rfl⟩:=hi
    simp only[pZ,fA,k9]
    cases hb:aa b m9.bx with
    |none=>exact ih st h
    |some cs=>
     simp only;obtain⟨h1,h2⟩:=wu cs st h;obtain⟨h3,h4⟩:=UK h1 b;obtain⟨h5,h6⟩:=ih _ h3;have:=(h2.trans h4).trans h6;simp only[lX,oW,List.singleton_append] at this;exact⟨h5,this⟩
   ·have e1:pZ m9 (p::ps) (e::es) st=pZ m9 ps es st:=by
     simp only[pZ]
     split
     ·exact absurd ⟨⟨_,rfl⟩,_,_,rfl⟩ hc
     ·exact absurd ⟨⟨_,rfl⟩,_,_,rfl⟩ hi
     ·rfl
    have e2:fA m9 (p::ps) (e::es)=fA m9 ps es:=by
     simp only[fA]
     split
     ·exact absurd ⟨⟨_,rfl⟩,_,_,rfl⟩ hc
     ·exact absurd ⟨⟨_,rfl⟩,_,_,rfl⟩ hi
     ·rfl
    have e3:k9 m9 (p::ps) (e::es)=k9 m9 ps es:=by
     simp only[k9]
     split
     ·exact absurd ⟨⟨_,rfl⟩,_,_,rfl⟩ hi
     ·rfl
    rw[e1,e2,e3];exact ih st h
theorem wz {m9:TS} {o:Nat}: ∀{ps:List bu} {es:List TE},o∈fA m9 ps es↔ ∃(i:Nat) (p:bu) (e:TE),ps[i]?=some p∧es[i]?=some e∧
 (((∃ms,p= .consume ms)∧ ∃ag cs,e= .v false [.mk ag cs]∧o∈m4 cs)∨((∃ms,p= .inout ms)∧ ∃b off cs,e= .bp b off∧aa b m9.bx=some cs∧o∈m4 cs))
 |[],es=>by simp[fA]
 |p::ps,[]=>by simp[fA]
 |p::ps,e::es=>by
  have ih:=wz (m9:=m9) (o:=o) (ps:=ps) (es:=es)
  have shift:o∈fA m9 ps es→ ∃(i:Nat) (p':bu) (e':TE),(p::ps)[i]?=some p'∧(e::es)[i]?=some e'∧
   (((∃ms,p'= .consume ms)∧ ∃ag cs,e'= .v false [.mk ag cs]∧o∈m4 cs)∨((∃ms,p'= .inout ms)∧ ∃b off cs,e'= .bp b off∧aa b m9.bx=some cs∧o∈m4 cs)):=fun h=>by
   obtain⟨i,p',e',a,b,c⟩:=ih.1 h;exact⟨i+1,p',e',by simpa using a,by simpa using b,c⟩
  have back: ∀{i:Nat} {p':bu} {e':TE},(p::ps)[i+1]?=some p'→(e::es)[i+1]?=some e'→
   (((∃ms,p'= .consume ms)∧ ∃ag cs,e'= .v false [.mk ag cs]∧o∈m4 cs)∨((∃ms,p'= .inout ms)∧ ∃b off cs,e'= .bp b off∧aa b m9.bx=some cs∧o∈m4 cs))→o∈fA m9 ps es:=fun {i p' e'} a b c=>
   ih.2 ⟨i,p',e',by simpa using a,by simpa using b,c⟩
  simp only[fA]
  split
  ·rename_i ag cs
   rw[List.mem_append]
   constructor
   ·rintro(h|h)
    ·exact⟨0,_,_,rfl,rfl,.inl ⟨⟨_,rfl⟩,ag,cs,rfl,h⟩⟩
    ·exact shift h
   ·rintro⟨i,p',e',a,b,c⟩
    cases i with
    |zero=>
     simp only[cZ,aU] at a b;subst a b;rcases c with⟨_,ag',cs',e1,h⟩|⟨e1,_⟩
     ·cases e1;exact .inl h
     ·obtain⟨_,e1⟩:=e1;cases e1
    |succ i=>exact .inr (back a b c)
  ·rename_i b off
   split
   ·rename_i cs hb
    rw[List.mem_append]
    constructor
    ·rintro(h|h)
     ·exact⟨0,_,_,rfl,rfl,.inr ⟨⟨_,rfl⟩,b,off,cs,rfl,hb,h⟩⟩
     ·exact shift h
    ·rintro⟨i,p',e',a,b',c⟩
     cases i with
     |zero=>
      simp only[cZ,aU] at a b';subst a b';rcases c with⟨⟨_,e1⟩,_⟩|⟨_,b2,off2,cs2,e1,h2,h⟩
      ·cases e1
      ·cases e1;rw[hb] at h2;cases h2;exact .inl h
     |succ i=>exact .inr (back a b' c)
   ·rename_i hb
    constructor
    ·exact shift
    ·rintro⟨i,p',e',a,b',c⟩
     cases i with
     |zero=>
      simp only[cZ,aU] at a b';subst a b';rcases c with⟨⟨_,e1⟩,_⟩|⟨_,b2,off2,cs2,e1,h2,h⟩
      ·cases e1
      ·cases e1;rw[hb] at h2;cases h2
     |succ i=>exact back a b' c
  ·rename_i n1 n2
   constructor
   ·exact shift
   ·rintro⟨i,p',e',a,b',c⟩
    cases i with
    |zero=>
     simp only[cZ,aU] at a b';subst a b';rcases c with⟨⟨_,rfl⟩,ag,cs,rfl,h⟩|⟨⟨ms,rfl⟩,b2,off2,cs2,rfl,h2,h⟩
     ·exact(n1 _ _ _ rfl rfl).elim
     ·exact(n2 _ _ _ rfl rfl).elim
    |succ i=>exact back a b' c
theorem AY {m9:TS} {b:Nat}: ∀{ps:List bu} {es:List TE},b∈k9 m9 ps es↔ ∃(i:Nat) (ms:List Mode) (off:Nat) (cs:List CE),ps[i]?=some (.inout ms)∧es[i]?=some (.bp b off)∧aa b m9.bx=some cs
 |[],es=>by simp[k9]
 |p::ps,[]=>by simp[k9]
 |p::ps,e::es=>by
  have ih:=AY (m9:=m9) (b:=b) (ps:=ps) (es:=es)
  have shift:b∈k9 m9 ps es→ ∃(i:Nat) (ms:List Mode) (off:Nat) (cs:List CE),(p::ps)[i]?=some (.inout ms)∧(e::es)[i]?=some (.bp b off)∧aa b m9.bx=some cs:=fun h=>by
   obtain⟨i,ms,off,cs,x,y,z⟩:=ih.1 h;exact⟨i+1,ms,off,cs,by simpa using x,by simpa using y,z⟩
  simp only[k9]
  split
  ·rename_i b' off'
   split
   ·rename_i cs hb
    rw[cw]
    constructor
    ·rintro(rfl|h)
     ·exact⟨0,_,off',cs,rfl,rfl,hb⟩
     ·exact shift h
    ·rintro⟨i,ms,off,cs',x,y,z⟩
     cases i with
     |zero=>simp only[cZ,aU,TE.bp.injEq] at y;exact .inl y.1.symm
     |succ i=>exact .inr (ih.2 ⟨i,ms,off,cs',by simpa using x,by simpa using y,z⟩)
   ·rename_i hb
    constructor
    ·exact shift
    ·rintro⟨i,ms,off,cs',x,y,z⟩
     cases i with
     |zero=>simp only[cZ,aU,TE.bp.injEq] at y;rw[y.1] at hb;rw[hb] at z;cases z
     |succ i=>exact ih.2 ⟨i,ms,off,cs',by simpa using x,by simpa using y,z⟩
  ·rename_i n1
   constructor
   ·exact shift
   ·rintro⟨i,ms,off,cs',x,y,z⟩
    cases i with
    |zero=>
     simp only[cZ,aU] at x y;subst x y;exact(n1 _ _ _ rfl rfl).elim
    |succ i=>exact ih.2 ⟨i,ms,off,cs',by simpa using x,by simpa using y,z⟩
theorem qO: ∀(os:List Nat) (st:TS) (φ:Fp),aH F A w0 φ st tm w→ ∃φ',aH F A w0 φ' (o8 st os) tm w∧φ'.β=φ.β∧φ'.V=φ.V∧φ'.S=φ.S∧(∀k,φ'.I k↔φ.I k∨ ∃o∈os,aA st.ob o∧φ.S o k)∧uL st (o8 st os) os []
 |[],st,φ,h=>⟨φ,h,rfl,rfl,rfl,fun k=>by simp,uL.refl st⟩
 |o::r,st,φ,h=>by
  obtain⟨φ1,h1,a1,a2,a3,a4⟩:=h.sP o
  have hl:uL st (sP st o) [o] []:=by
   unfold T.sP
   cases hb:aa o st.ob with
   |none=>
    refine⟨fun d=> ?_,fun b cs hb=>⟨by simp,cs,hb,rfl⟩⟩
    by_cases hd:d=o
    ·subst hd;rw[aP (.head _)];exact hb
    ·rw[aF (by simpa using hd)]
   |some b=>
    refine⟨fun d=> ?_,fun b cs hb=>⟨by simp,eR _ b cs hb⟩⟩;show aa d (ni o st.ob)=_;rw[fI]
    by_cases hd:d=o<;>simp[hd]
  obtain⟨φ2,h2,b1,b2,b3,b4,b5⟩:=qO r (sP st o) φ1 h1;refine⟨φ2,h2,b1.trans a1,b2.trans a2,b3.trans a3,fun k=> ?_,hl.trans b5⟩;rw[b4,a4,a3]
  constructor
  ·rintro((hk|hk)|⟨o',ho',hd,hk⟩)
   ·exact .inl hk
   ·exact .inr ⟨o,.head _,hk⟩
   ·refine .inr ⟨o',.tail _ ho',?_,hk⟩
    obtain⟨b,hb⟩:=hd;rw[hl.ob] at hb
    split at hb
    ·cases hb
    ·exact⟨b,hb⟩
  ·rintro(hk|⟨o',ho',hd,hk⟩)
   ·exact .inl (.inl hk)
   ·by_cases he:o'=o
    ·subst he;exact .inl (.inr ⟨hd,hk⟩)
    ·refine .inr ⟨o',(cw.1 ho').resolve_left he,?_,hk⟩
     obtain⟨b,hb⟩:=hd;exact⟨b,by rw[hl.ob,aF (by simpa using he)];exact hb⟩
theorem Ou {e:TE} {o:Nat}:o∈yx st e↔2*o∈oz st e:=by
 have key: ∀(l:List Nat),2*o∈l.map (2* ·)↔o∈l:=fun l=>by
  rw[List.mem_map]
  constructor
  ·rintro⟨x,hx,e⟩
   have:x=o:=by omega
   subst this;exact hx
  ·intro h;exact⟨o,h,rfl⟩
 have bxk: ∀b,2*o∈vZ st b↔o∈(match aa b st.bx with|some cs=>cs.flatMap ee|none=>[]):=fun b=>by
  unfold vZ
  cases aa b st.bx with
  |none=>simp;omega
  |some cs=>
   simp only[cw];rw[key]
   constructor
   ·rintro(h|h)
    ·omega
    ·exact h
   ·exact .inr
 cases e with
 |v t es=>simp only[yx,oz,uF];exact(key _).symm
 |ep d cells=>simp only[yx,oz,uF];exact(key _).symm
 |er r p i f=>simp only[yx,oz,uF,jz];constructor<;>intro h<;>omega
 |bp b off=>simp only[yx,oz];exact(bxk b).symm
 |fn f caps=>
  simp only[yx,oz,List.mem_flatMap]
  constructor
  ·rintro⟨b,h1,h2⟩;exact⟨b,h1,(bxk b).2 h2⟩
  ·rintro⟨b,h1,h2⟩;exact⟨b,h1,(bxk b).1 h2⟩
 |_=>simp[yx,oz,uF]
theorem rI {o:Nat}: ∀{ps:List bu} {es:List TE} {own jY:List Nat},v7 st ps es=some (own,jY)→(o∈borrowed st ps es↔2*o∈jY)
 |[],[],own,jY,h=>by cases h;simp[borrowed]
 |[],_::_,_,_,h=>by cases h
 |_::_,[],_,_,h=>by cases h
 |p::ps,e::es,own,jY,h=>by
  simp only[v7] at h
  split at h
  ·rename_i own0 rd0 hg
   have ih:=rI (o:=o) hg
   cases p with
   |borrow=>cases h;simp only[borrowed,List.mem_append];rw[Ou,ih]
   |inout ms=>
    simp only at h
    split at h
    ·cases h;exact ih
    ·cases h
   |consume ms=>
    simp only at h
    split at h
    ·cases h;exact ih
    ·cases h
  ·cases h
end Go.T
namespace Go.T
variable {F : Nat → Prop} {A : Arg} {w0 w w' : World} {φ φ' : Fp} {st st' sta cG lR : TS} {tm AK : Array Value} {C : jC}
variable {R : Type} {cf : Cf} {lp : Lp} {Q : R → Prop}
def Gd:List bu→List TV→Nat→Option TV
 |[],_,_=>none
 |p::ps,fs,i=>match p with
  | .inout _=>match fs with
    |[]=>none
    |f::fs=>match i with
     |0=>some f
     |i+1=>Gd ps fs i
  |_=>match i with
   |0=>none
   |i+1=>Gd ps fs i
def PU (w:World) (NB:Nat→Prop) (cc:List It) (pos:Nat→Nat) (ms:List Mode) (f:TV) (x:Value):Prop:=match f with
 | .c c=>cc[pos 0]?=some (.deep,c,x)
 | .ag cs=> ∃ys:Array Value,x= .agg ys∧ys.size=cs.length∧ ∀(j:Nat) (c:TC),cs[j]?=some c→ ∃u,ys[j]?=some u∧cc[pos j]?=some (.deep,c,u)
 | .bx cs=> ∃(ad:Addr) (us:List Value),x= .pointer (some ad)∧us.length=cs.length∧NB ad.block∧(∀(j:Nat) (u:Value),us[j]?=some u→w.cell? (ad.add j)=some u∧u.cells= #[u]∧w.frozen? (ad.add j)=false)∧
     ∀(j:Nat) (c:TC),cs[j]?=some c→ ∃u,us[j]?=some u∧cc[pos j]?=some (VX ms j,c,u)
 |_=>False
structure WY (w:World) (NB:Nat→Prop) (ps:List bu) (xs:List Value) (fs:List TV) (cc:List It) (pos:Nat→Nat→Nat):Prop where
 lt: ∀i f j,Gd ps fs i=some f→j<(dK f).length→pos i j<cc.length
 inj: ∀i i' f f' j j',Gd ps fs i=some f→j<(dK f).length→Gd ps fs i'=some f'→j'<(dK f').length→pos i j=pos i' j'→i=i'∧j=j'
 at': ∀i f,Gd ps fs i=some f→ ∃ms,ps[i]?=some (.inout ms)∧ ∃x,xs[i]?=some x∧PU w NB cc (pos i) ms f x
theorem JM {cs:List TC}: ∀{ms:List Mode} {vs:List Value} {j:Nat} {c:TC} {v:Value},cs[j]?=some c→vs[j]?=some v→(cz (Mb ms cs) cs vs)[j]?=some (VX ms j,c,v):=by
 induction cs with
 |nil=>intro ms vs j c v h;simp at h
 |cons c0 cs ih=>
  intro ms vs j c v h1 h2
  cases vs with
  |nil=>simp at h2
  |cons v0 vs=>
   cases j with
   |zero=>simp only[cZ,aU] at h1 h2;subst h1 h2;rw[So];rfl
   |succ j=>rw[Sp];exact ih (ms:=ms.drop 1) (by simpa using h1) (by simpa using h2)
theorem KX {cs:List TC} {vs:List Value} {j:Nat} {c:TC} {v:Value} (h1:cs[j]?=some c) (h2:vs[j]?=some v):(cz (Mb [] cs) cs vs)[j]?=some (.deep,c,v):=JM h1 h2
theorem PU.shift {NB:Nat→Prop} {a b:List It} {pos:Nat→Nat} {ms:List Mode} {f:TV} {x:Value} (h:PU w NB b pos ms f x):PU w NB (a++b) (fun j=>a.length+pos j) ms f x:=by
 have sh: ∀{n:Nat} {it:It},b[n]?=some it→(a++b)[a.length+n]?=some it:=fun {n it} hn=>by rw[kr ax,Nat.add_sub_cancel_left];exact hn
 cases f with
 |c c=>exact sh h
 |ag cs=>obtain⟨ys,h1,h2,h3⟩:=h;exact⟨ys,h1,h2,fun j c hj=>let ⟨u,a1,a2⟩:=h3 j c hj;⟨u,a1,sh a2⟩⟩
 |bx cs=>obtain⟨ad,us,h1,h2,h3,h4,h5⟩:=h;exact⟨ad,us,h1,h2,h3,h4,fun j c hj=>let ⟨u,a1,a2⟩:=h5 j c hj;⟨u,a1,sh a2⟩⟩
 |_=>exact h
theorem Ov {NB:Nat→Prop}: ∀{ps:List bu} {xs:List Value} {fs:List TV} {cc:List It},td w NB ps xs fs cc→ ∃pos,WY w NB ps xs fs cc pos
 |[],[],fs,cc,h=>⟨fun _ _=>0,fun i f j h=>by simp[Gd] at h,fun i i' f f' j j' h=>by simp[Gd] at h,fun i f h=>by simp[Gd] at h⟩
 |[],_::_,_,_,h=>h.elim
 |_::_,[],_,_,h=>h.elim
 |p::ps,x::xs,fs,cc,h=>by
  by_cases hp: ∃ms,p= .inout ms
  ·obtain⟨ms,rfl⟩:=hp
   cases fs with
   |nil=>exact h.elim
   |cons f fs=>
    obtain⟨a,b,rfl,hr,hf⟩:=h;obtain⟨pos,p1,p2,p3⟩:=Ov hr
    have hlen:(dK f).length=a.length:=by
     cases f with
     |c c=>have hf:a=[(.deep,c,x)]:=hf.2;subst hf;rfl
     |ag cs=>obtain⟨_,ys,_,h2,rfl⟩:=hf;exact(jL (ms:=Mb [] cs) (cs:=cs) (vs:=ys.toList) (by simp[h2])).symm
     |bx cs=>obtain⟨ad,us,_,h2,_,_,rfl⟩:=hf;exact(jL (ms:=Mb ms cs) (cs:=cs) (vs:=us) h2.symm).symm
     |_=>exact hf.elim
    refine⟨fun i j=>match i with|0=>j|i+1=>a.length+pos i j,fun i f' j hi hj=> ?_,fun i i' f1 f2 j j' h1 h2 h3 h4 he=> ?_,fun i f' hi=> ?_⟩
    ·rw[bX]
     cases i with
     |zero=>simp only[Gd,aU] at hi;subst hi;simp only;omega
     |succ i=>have:=p1 i f' j hi hj;simp only;omega
    ·cases i with
     |zero=>
      simp only[Gd,aU] at h1;subst h1
      cases i' with
      |zero=>exact⟨rfl,he⟩
      |succ i'=>simp only at he;omega
     |succ i=>
      cases i' with
      |zero=>
       simp only[Gd,aU] at h3;subst h3;simp only at he;omega
      |succ i'=>
       simp only at he;obtain⟨e1,e2⟩:=p2 i i' f1 f2 j j' h1 h2 h3 h4 ax;exact⟨by omega,e2⟩
    ·cases i with
     |zero=>
      simp only[Gd,aU] at hi;subst hi
      have lf: ∀{n:Nat} {it:It},a[n]?=some it→(a++b)[n]?=some it:=fun {n it} hn=>by rw[iR (List.getElem?_eq_some_iff.1 hn).1];exact hn
      refine⟨ms,rfl,x,rfl,?_⟩
      cases f with
      |c c=>have hf:a=[(.deep,c,x)]:=hf.2;subst hf;rfl
      |ag cs=>
       obtain⟨_,ys,h1,h2,rfl⟩:=hf;refine⟨ys,h1,h2,fun j c hj=> ?_⟩
       have hlt:j<ys.size:=by rw[h2];exact(List.getElem?_eq_some_iff.1 hj).1
       exact⟨ys[j],qw hlt,lf (KX hj (by simp[hlt]))⟩
      |bx cs=>
       obtain⟨ad,us,h1,h2,h3,h4,rfl⟩:=hf;refine⟨ad,us,h1,h2,h3,h4,fun j c hj=> ?_⟩
       have hlt:j<us.length:=by rw[h2];exact(List.getElem?_eq_some_iff.1 hj).1
       exact⟨us[j],aZ hlt,lf (JM hj (aZ hlt))⟩
      |_=>exact hf.elim
     |succ i=>
      obtain⟨ms',y0,y,y1,y2⟩:=p3 i f' hi;exact⟨ms',by simpa using y0,y,by simpa using y1,y2.shift⟩
  ·have hr:td w NB ps xs fs cc:=by cases p<;>first|exact h|exact absurd ⟨_,rfl⟩ hp
   obtain⟨pos,p1,p2,p3⟩:=Ov hr
   have hz: ∀fs,Gd (p::ps) fs 0=none:=fun fs=>by cases p<;>first|rfl|exact absurd ⟨_,rfl⟩ hp
   have hs: ∀fs i,Gd (p::ps) fs (i+1)=Gd ps fs i:=fun fs i=>by cases p<;>first|rfl|exact absurd ⟨_,rfl⟩ hp
   refine⟨fun i j=>pos (i-1) j,fun i f j hi hj=> ?_,fun i i' f1 f2 j j' h1 h2 h3 h4 he=> ?_,fun i f hi=> ?_⟩
   ·cases i with
    |zero=>rw[hz] at hi;cases hi
    |succ i=>rw[hs] at hi;exact p1 i f j hi hj
   ·cases i with
    |zero=>rw[hz] at h1;cases h1
    |succ i=>
     cases i' with
     |zero=>rw[hz] at h3;cases h3
     |succ i'=>rw[hs] at h1 h3;obtain⟨e1,e2⟩:=p2 i i' f1 f2 j j' h1 h2 h3 h4 he;exact⟨by omega,e2⟩
   ·cases i with
    |zero=>rw[hz] at hi;cases hi
    |succ i=>
     rw[hs] at hi;obtain⟨ms',y0,y,y1,y2⟩:=p3 i f hi;exact⟨ms',by simpa using y0,y,by simpa using y1,y2⟩
structure wA (st:TS) (ps:List bu) (es:List TE) (fs:List TV) (W:List (Nat×OB)) (B:List (Nat×List Mode×List TC)):Prop where
 memW: ∀o b',(o,b')∈W→ ∃(i:Nat) (ms:List Mode) (f:TV) (ag:Bool) (cs:List CE) (j:Nat) (c:TC) (e':CE),ps[i]?=some (.inout ms)∧es[i]?=some (.v false [.mk ag cs])∧Gd ps fs i=some f∧(dK f)[j]?=some c∧cs[j]?=some e'∧o7 st e' c=some [(o,b')]∧(f= .c c∧ag=false∧cs=[e']∨ ∃ts,f= .ag ts∧ag=true)
 allW: ∀(i:Nat) (ms:List Mode) (ag:Bool) (cs:List CE),ps[i]?=some (.inout ms)→es[i]?=some (.v false [.mk ag cs])→ ∃f,Gd ps fs i=some f∧ ∀(j:Nat) (e':CE),cs[j]?=some e'→ ∃c l,(dK f)[j]?=some c∧o7 st e' c=some l∧ ∀x∈l,x∈W
 memB: ∀b ms ts,(b,ms,ts)∈B→ ∃(i:Nat) (cs:List CE),ps[i]?=some (.inout ms)∧es[i]?=some (.bp b 0)∧Gd ps fs i=some (.bx ts)∧aa b st.bx=some cs∧cs.length=ts.length
 ndB:(∀(i i' b:Nat) (ms ms':List Mode),ps[i]?=some (.inout ms)→ps[i']?=some (.inout ms')→es[i]?=some (.bp b 0)→es[i']?=some (.bp b 0)→i=i')→B.Pairwise fun x y=>x.1≠y.1
theorem wB {e:CE} {c:TC} {l:List (Nat×OB)} (h:o7 st e c=some l):l=[]∨ ∃o b',l=[(o,b')]∧iU e=some o:=by
 unfold o7 at h
 split at h
 ·cases h;exact .inl rfl
 ·cases h;exact .inl rfl
 ·split at h
  ·split at h
   ·cases h;exact .inr ⟨_,_,rfl,rfl⟩
   ·cases h
  ·cases h
 ·split at h
  ·cases h;exact .inr ⟨_,_,rfl,rfl⟩
  ·cases h
 ·cases h
theorem Ew: ∀{cs:List CE} {ts:List TC} {l:List (Nat×OB)},Ga st cs ts=some l→ts.length=cs.length∧(∀x∈l,∃(j:Nat) (e':CE) (c:TC) (l':List (Nat×OB)),cs[j]?=some e'∧ts[j]?=some c∧o7 st e' c=some l'∧x∈l')∧
 ∀(j:Nat) (e':CE),cs[j]?=some e'→ ∃c l',ts[j]?=some c∧o7 st e' c=some l'∧ ∀x∈l',x∈l
 |[],[],l,h=>by cases h;exact⟨rfl,fun x hx=>(by cases hx),fun j e' he=>by simp at he⟩
 |[],_::_,_,h=>by cases h
 |_::_,[],_,h=>by cases h
 |e::r,c::cs,l,h=>by
  simp only[Ga] at h
  split at h
  ·rename_i a b h1 h2
   cases h
   obtain⟨g1,g2,g3⟩:=Ew h2;refine⟨by simp[g1],fun x hx=> ?_,fun j e' he=> ?_⟩
   ·rcases List.mem_append.1 hx with hx|hx
    ·exact⟨0,e,c,a,rfl,rfl,h1,hx⟩
    ·obtain⟨j,e',c',l',a1,a2,a3,a4⟩:=g2 x hx
     exact⟨j+1,e',c',l',by simpa using a1,by simpa using a2,a3,a4⟩
   ·cases j with
    |zero=>simp only[cZ,aU] at he;subst he;exact⟨c,a,rfl,h1,fun x hx=>gr _ hx⟩
    |succ j=>
     obtain⟨c',l',a1,a2,a3⟩:=g3 j e' (by simpa using he);exact⟨c',l',by simpa using a1,a2,fun x hx=>lG _ (a3 x hx)⟩
  ·cases h
theorem wA.skip {p:bu} {ps:List bu} {e:TE} {es:List TE} {fs:List TV} {W:List (Nat×OB)} {B:List (Nat×List Mode×List TC)} (ih:wA st ps es fs W B) (hp: ¬ ∃ms,p= .inout ms):wA st (p::ps) (e::es) fs W B:=by
 have hs: ∀fs i,Gd (p::ps) fs (i+1)=Gd ps fs i:=fun fs i=>by cases p<;>first|rfl|exact absurd ⟨_,rfl⟩ hp
 refine⟨fun o b' hm=> ?_,fun i ms ag cs h1 h2=> ?_,fun b ms ts hm=> ?_,fun hu=>ih.ndB fun i i' b ms ms' h1 h2 h3 h4=> ?_⟩
 ·obtain⟨i,ms,f,ag,cs,j,c,e',a1,a2,a3,a4⟩:=ih.memW o b' hm
  exact⟨i+1,ms,f,ag,cs,j,c,e',by simpa using a1,by simpa using a2,by rw[hs];exact a3,a4⟩
 ·cases i with
  |zero=>simp only[cZ,aU] at h1;exact absurd ⟨_,h1⟩ hp
  |succ i=>
   obtain⟨f,a1,a2⟩:=ih.allW i ms ag cs (by simpa using h1) (by simpa using h2);exact⟨f,by rw[hs];exact a1,a2⟩
 ·obtain⟨i,cs,a1,a2,a3,a4⟩:=ih.memB b ms ts hm
  exact⟨i+1,cs,by simpa using a1,by simpa using a2,by rw[hs];exact a3,a4⟩
 ·have:=hu (i+1) (i'+1) b ms ms' (by simpa using h1) (by simpa using h2) (by simpa using h3) (by simpa using h4)
  omega
theorem rJ: ∀{ps:List bu} {es:List TE} {fs:List TV} {W:List (Nat×OB)} {B:List (Nat×List Mode×List TC)},qH st ps es fs=some (W,B)→wA st ps es fs W B
 |[],[],[],W,B,h=>by
  cases h
  exact⟨fun o b' hm=>(by cases hm),fun i ms ag cs h=>by simp at h,fun b ms ts hm=>(by cases hm),fun _=> .nil⟩
 |[],[],_::_,_,_,h=>by cases h
 |[],_::_,_,_,_,h=>by cases h
 |_::_,[],_,_,_,h=>by cases h
 |p::ps,e::es,fs,W,B,h=>by
  by_cases hp: ∃ms,p= .inout ms
  ·obtain⟨ms0,rfl⟩:=hp
   have shiftW: ∀{f:TV} {fs:List TV} {W:List (Nat×OB)} {B:List (Nat×List Mode×List TC)},wA st ps es fs W B→ ∀o b',(o,b')∈W→ ∃(i:Nat) (ms:List Mode) (f':TV) (ag:Bool) (cs:List CE) (j:Nat) (c:TC) (e':CE),(bu.inout ms0::ps)[i]?=some (.inout ms)∧(e::es)[i]?=some (.v false [.mk ag cs])∧Gd (.inout ms0::ps) (f::fs) i=some f'∧(dK f')[j]?=some c∧cs[j]?=some e'∧o7 st e' c=some [(o,b')]∧
    (f'= .c c∧ag=false∧cs=[e']∨ ∃ts,f'= .ag ts∧ag=true):=fun ih o b' hm=>by
    obtain⟨i,ms,f',ag,cs,j,c,e',a1,a2,a3,a4⟩:=ih.memW o b' hm;exact⟨i+1,ms,f',ag,cs,j,c,e',by simpa using a1,by simpa using a2,a3,a4⟩
   have shiftB: ∀{f:TV} {fs:List TV} {W:List (Nat×OB)} {B:List (Nat×List Mode×List TC)},wA st ps es fs W B→ ∀b ms ts,(b,ms,ts)∈B→ ∃(i:Nat) (cs:List CE),(bu.inout ms0::ps)[i]?=some (.inout ms)∧(e::es)[i]?=some (.bp b 0)∧Gd (.inout ms0::ps) (f::fs) i=some (.bx ts)∧aa b st.bx=some cs∧cs.length=ts.length:=fun ih b ms ts hm=>by
    obtain⟨i,cs,a1,a2,a3,a4⟩:=ih.memB b ms ts hm;exact⟨i+1,cs,by simpa using a1,by simpa using a2,a3,a4⟩
   have shiftU: ∀{fs:List TV} {W:List (Nat×OB)} {B:List (Nat×List Mode×List TC)},wA st ps es fs W B→(∀(i i' b:Nat) (ms ms':List Mode),(bu.inout ms0::ps)[i]?=some (.inout ms)→(bu.inout ms0::ps)[i']?=some (.inout ms')→(e::es)[i]?=some (.bp b 0)→(e::es)[i']?=some (.bp b 0)→i=i')→B.Pairwise fun x y=>x.1≠y.1:=fun ih hu=>by
    refine ih.ndB fun i i' b ms ms' h1 h2 h3 h4=> ?_;have:=hu (i+1) (i'+1) b ms ms' (by simpa using h1) (by simpa using h2) (by simpa using h3) (by simpa using h4);omega
   simp only[qH] at h
   split at h
   ·rename_i e0 c0 fs0
    split at h
    ·rename_i a b bs h1 h2
     cases h
     have ih:=rJ h2;refine⟨fun o b' hm=> ?_,fun i ms ag cs g1 g2=> ?_,shiftB ih,shiftU ih⟩
     ·rcases List.mem_append.1 hm with hm|hm
      ·rcases wB h1 with rfl|⟨o1,b1,rfl,_⟩
       ·cases hm
       ·simp only[jz] at hm
        cases hm
        exact⟨0,_,_,false,[e0],0,c0,e0,rfl,rfl,rfl,rfl,rfl,h1,.inl ⟨rfl,rfl,rfl⟩⟩
      ·exact shiftW ih o b' hm
     ·cases i with
      |zero=>
       simp only[cZ,aU,TE.v.injEq,List.cons.injEq,nh.mk.injEq,and_true,true_and] at g2;obtain⟨rfl,rfl⟩:=g2;refine⟨_,rfl,fun j e' he=> ?_⟩
       cases j with
       |zero=>simp only[cZ,aU] at he;subst he;exact⟨c0,a,rfl,h1,fun x hx=>gr _ hx⟩
       |succ j=>simp at he
      |succ i=>
       obtain⟨f,a1,a2⟩:=ih.allW i ms ag cs (by simpa using g1) (by simpa using g2);refine⟨f,a1,fun j e' he=> ?_⟩;obtain⟨c,l,b1,b2,b3⟩:=a2 j e' he;exact⟨c,l,b1,b2,fun x hx=>lG _ (b3 x hx)⟩
    ·cases h
   ·rename_i cs0 ts0 fs0
    split at h
    ·rename_i a b bs h1 h2
     cases h
     have ih:=rJ h2;obtain⟨q1,q2,q3⟩:=Ew h1;refine⟨fun o b' hm=> ?_,fun i ms ag cs g1 g2=> ?_,shiftB ih,shiftU ih⟩
     ·rcases List.mem_append.1 hm with hm|hm
      ·obtain⟨j,e',c,l',x1,x2,x3,x4⟩:=q2 _ hm
       rcases wB x3 with rfl|⟨o1,b1,rfl,_⟩
       ·cases x4
       ·simp only[jz] at x4
        cases x4
        exact⟨0,_,_,true,cs0,j,c,e',rfl,rfl,rfl,x2,x1,x3,.inr ⟨_,rfl,rfl⟩⟩
      ·exact shiftW ih o b' hm
     ·cases i with
      |zero=>
       simp only[cZ,aU,TE.v.injEq,List.cons.injEq,nh.mk.injEq,and_true,true_and] at g2;obtain⟨rfl,rfl⟩:=g2;refine⟨_,rfl,fun j e' he=> ?_⟩;obtain⟨c,l',x1,x2,x3⟩:=q3 j e' he;exact⟨c,l',x1,x2,fun x hx=>gr _ (x3 x hx)⟩
      |succ i=>
       obtain⟨f,a1,a2⟩:=ih.allW i ms ag cs (by simpa using g1) (by simpa using g2);refine⟨f,a1,fun j e' he=> ?_⟩;obtain⟨c,l,b1,b2,b3⟩:=a2 j e' he;exact⟨c,l,b1,b2,fun x hx=>lG _ (b3 x hx)⟩
    ·cases h
   ·rename_i b0 ts0 fs0
    split at h
    ·rename_i cs0 a bs hb h2
     split at h
     ·rename_i hl
      cases h
      have ih:=rJ h2;refine⟨shiftW ih,fun i ms ag cs g1 g2=> ?_,fun b ms ts hm=> ?_,fun hu=> ?_⟩
      ·cases i with
       |zero=>simp at g2
       |succ i=>exact ih.allW i ms ag cs (by simpa using g1) (by simpa using g2)
      ·rcases cw.1 hm with hm|hm
       ·cases hm
        exact⟨0,cs0,rfl,rfl,rfl,hb,fk hl⟩
       ·exact shiftB ih b ms ts hm
      ·refine List.pairwise_cons.2 ⟨fun x hx e=> ?_,shiftU ih hu⟩
       obtain⟨b,ms,ts⟩:=x;have e:b0=b:=e;subst e;obtain⟨i,cs,a1,a2,_⟩:=ih.memB b0 ms ts hx;have:=hu 0 (i+1) b0 _ _ rfl (by simpa using a1) rfl (by simpa using a2);omega
     ·cases h
    ·cases h
   ·cases h
  ·have h2:qH st ps es fs=some (W,B):=by cases p<;>first|exact h|exact absurd ⟨_,rfl⟩ hp
   exact(rJ h2).skip hp
end Go.T
namespace Go.T
variable {F : Nat → Prop} {A : Arg} {w0 w w' : World} {φ φ' : Fp} {st st' sta cG lR : TS} {tm AK : Array Value} {C : jC}
variable {R : Type} {cf : Cf} {lp : Lp} {Q : R → Prop}
structure QN (st:TS) (ps:List bu) (es:List TE) (i j:Nat) (p:bu) (e:TE) (e':CE):Prop where
 hp:ps[i]?=some p
 he:es[i]?=some e
 hb:p≠ .borrow
 hc:(eH st e)[j]?=some e'
theorem uK.key {ps:List bu} {es:List TE} {own jY:List Nat} (g:uK st ps es own jY) {i j:Nat} {p:bu} {e:TE} {e':CE} (a:QN st ps es i j p e e') {o:Nat} (ho:iU e'=some o):2*o∈own:=by
 obtain⟨l,ok,hl,_,_⟩:=g.ow i p e a.hp a.he a.hb;exact hl _ ((ok.one j e' a.hc).2 o ho)
theorem uK.pos {ps:List bu} {es:List TE} {own jY:List Nat} (g:uK st ps es own jY) {o:Nat} (ho:2*o∈own): ∃i j p e e',QN st ps es i j p e e'∧iU e'=some o:=by
 obtain⟨i,p,e,l,h1,h2,h3,h4,h5⟩:=g.mem _ ho;obtain⟨j,e',h6,h7⟩:=(Dp h4).mem o h5;exact⟨i,j,p,e,e',⟨h1,h2,h3,h6⟩,h7⟩
theorem uK.GW {ps:List bu} {es:List TE} {own jY:List Nat} (g:uK st ps es own jY) (hn:own.Nodup) {o i j i2 j2:Nat} {p p2:bu} {e e2:TE} {e' e2':CE} (a:QN st ps es i j p e e') (b:QN st ps es i2 j2 p2 e2 e2') (ha:iU e'=some o) (hb:iU e2'=some o):
 i=i2∧j=j2∧p=p2∧e=e2∧e'=e2':=by
 obtain⟨l,ok,hl,Zr,AM⟩:=g.ow i p e a.hp a.he a.hb;obtain⟨l2,ok2,AL,_,XN⟩:=g.ow i2 p2 e2 b.hp b.he b.hb;have hi:=g.uniq hn i i2 p p2 e e2 l l2 (2*o) a.hp b.hp a.he b.he a.hb b.hb AM XN ((ok.one j e' a.hc).2 o ha) ((ok2.one j2 e2' b.hc).2 o hb);subst hi;have h1:=a.hp.symm.trans b.hp;have h2:=a.he.symm.trans b.he
 cases h1;cases h2
 have hj:=ok.uniq (Zr hn) j j2 e' e2' o a.hc b.hc ha hb;subst hj;have h3:=a.hc.symm.trans b.hc
 cases h3
 exact⟨rfl,rfl,rfl,rfl,rfl⟩
theorem Ow {e:CE} {c:TC} {l:List (Nat×OB)} (h:o7 st e c=some l) {o:Nat} (ho:iU e=some o): ∃b',l=[(o,b')]:=by
 rcases wB h with rfl|⟨o1,b1,rfl,h1⟩
 ·unfold o7 at h
  split at h
  ·cases ho
  ·cases ho
  ·split at h
   ·split at h<;>cases h
   ·cases h
  ·split at h<;>cases h
  ·cases h
 ·rw[ho] at h1;cases h1;exact⟨b1,rfl⟩
theorem GX {ps:List bu} {es:List TE} {own jY:List Nat} (g:uK st ps es own jY) {o:Nat} (ho:o∈fA st ps es): ∃i j p e e',QN st ps es i j p e e'∧iU e'=some o∧((∃ms,p= .consume ms)∨(∃ms,p= .inout ms)∧ ∃b off,e= .bp b off):=by
 obtain⟨i,p,e,h1,h2,h3⟩:=wz.1 ho;rcases h3 with⟨⟨ms,rfl⟩,ag,cs,rfl,hr⟩|⟨⟨ms,rfl⟩,b,off,cs,rfl,hb,hr⟩
 ·obtain⟨j,cut,hj⟩:=yO.1 hr
  exact⟨i,j,_,_,_,⟨h1,h2,by simp,hj⟩,rfl,.inl ⟨_,rfl⟩⟩
 ·obtain⟨j,cut,hj⟩:=yO.1 hr
  exact⟨i,j,_,_,_,⟨h1,h2,by simp,by simp only[eH,hb];exact hj⟩,rfl,.inr ⟨⟨_,rfl⟩,b,off,rfl⟩⟩
theorem QO {ps:List bu} {es:List TE} {own jY:List Nat} {fs:List TV} {W:List (Nat×OB)} {B:List (Nat×List Mode×List TC)} (g:uK st ps es own jY) (po:wA st ps es fs W B) {o:Nat} (ho:2*o∈own):o∈fA st ps es∨ ∃b',(o,b')∈W:=by
 obtain⟨i,j,p,e,e',a,hk⟩:=g.pos ho;obtain⟨l,ok,_,_,AM⟩:=g.ow i p e a.hp a.he a.hb
 have refOf:UH st true e'→ ∃cut,e'= .ref o cut:=fun TW=>by
  cases e' with
  |ref o' cut=>cases hk;exact⟨cut,rfl⟩
  |snap ds loc z rows=>cases loc with
   |none=>cases hk
   |some q=>obtain⟨o1,i1,f1⟩:=q;exact absurd TW.1 eO
  |_=>cases hk
 cases p with
 |borrow=>exact absurd rfl a.hb
 |consume ms=>
  rcases ok.form with⟨b,rfl⟩|⟨_,ag,cs,rfl,hcs⟩
  ·have:=(ok.bx b 0 rfl).2.1;cases this
  ·obtain⟨cut,rfl⟩:=refOf ((hcs j e' a.hc).key hk)
   exact .inl (wz.2 ⟨i,_,_,a.hp,a.he,.inl ⟨⟨_,rfl⟩,ag,cs,rfl,yO.2 ⟨j,cut,a.hc⟩⟩⟩)
 |inout ms=>
  rcases ok.form with⟨b,rfl⟩|⟨_,ag,cs,rfl,hcs⟩
  ·obtain⟨_,_,_,_,hb,TW⟩:=ok.bx b 0 rfl
   obtain⟨cut,rfl⟩:=refOf ((TW j e' a.hc).key hk);exact .inl (wz.2 ⟨i,_,_,a.hp,a.he,.inr ⟨⟨_,rfl⟩,b,0,_,rfl,hb,yO.2 ⟨j,cut,a.hc⟩⟩⟩)
  ·obtain⟨f,_,hall⟩:=po.allW i ms ag cs a.hp a.he
   obtain⟨c,l',_,h2,h3⟩:=hall j e' a.hc;obtain⟨b',rfl⟩:=Ow h2 hk;exact .inr ⟨b',h3 _ (.head _)⟩
theorem pR {ps:List bu} {es:List TE} {fs:List TV} {W:List (Nat×OB)} {B:List (Nat×List Mode×List TC)} (po:wA st ps es fs W B) {o:Nat} {b':OB} (hm:(o,b')∈W):
 ∃i j ms e' ag cs f c,QN st ps es i j (.inout ms) (.v false [.mk ag cs]) e'∧iU e'=some o∧Gd ps fs i=some f∧(dK f)[j]?=some c∧o7 st e' c=some [(o,b')]∧(f= .c c∧ag=false∧cs=[e']∧j=0∨ ∃ts,f= .ag ts∧ag=true):=by
 obtain⟨i,ms,f,ag,cs,j,c,e',h1,h2,h3,h4,h5,h6,h7⟩:=po.memW o b' hm;refine⟨i,j,ms,e',ag,cs,f,c,⟨h1,h2,by simp,h5⟩,?_,h3,h4,h6,?_⟩
 ·rcases wB h6 with e0|⟨o1,b1,e0,hk⟩
  ·cases e0
  ·cases e0;exact hk
 ·rcases h7 with⟨rfl,rfl,rfl⟩|h7
  ·refine .inl ⟨rfl,rfl,rfl,?_⟩
   have:=(List.getElem?_eq_some_iff.1 h5).1;simp at this;exact this
  ·exact .inr h7
structure Yv (F:Nat→Prop) (A:Arg) (w0 w':World) (φ φ3:Fp) (gS:Qu) (st3:TS) (tm:Array Value) (B:List (Nat×List Mode×List TC)) (r:TV) (v:Value) (ri fi:List It) (X:Nat→Nat→Prop) (posB:Nat→Nat→Nat):Prop where
 rel:aH F A w0 φ3 st3 tm w'
 β:φ3.β=φ.β
 res:JE w' X gS.res r v ri
 item: ∀(i:Nat) (it:It),(ri++fi)[i]?=some it→ai w' φ3.I it.1 (X i) it.2.1 it.2.2
 apart: ∀(i j k:Nat),i<(ri++fi).length→j<(ri++fi).length→X i k→X j k→i=j
 free: ∀(i k:Nat),i<ri.length→X i k→oS F w0 w' φ3 st3 k
 box: ∀b ms ts,(b,ms,ts)∈B→u0 b=true∧(φ.β b).spot=none∧(∀cs,aa b st3.bx≠some cs)∧oS F w0 w' φ3 st3 (φ.β b).block∧(∀i,i<(ri++fi).length→ ¬X i (φ.β b).block)∧
  (∀b' ms' ts',(b',ms',ts')∈B→b'≠b→(φ.β b').block≠(φ.β b).block)∧
  ∃us:List Value,us.length=ts.length∧(∀(j:Nat) (u:Value),us[j]?=some u→w'.cell? ((φ.β b).add j)=some u∧u.cells= #[u]∧w'.frozen? ((φ.β b).add j)=false)∧
   ∀(j:Nat) (c:TC),ts[j]?=some c→ ∃u,us[j]?=some u∧(ri++fi)[posB b j]?=some (VX ms j,c,u)∧ri.length≤posB b j∧ ∀k,X (posB b j) k→oS F w0 w' φ3 st3 k
 posI: ∀b ms ts b' ms' ts' j j',(b,ms,ts)∈B→(b',ms',ts')∈B→j<ts.length→j'<ts'.length→posB b j=posB b' j'→b=b'∧j=j'
 ndB:B.Pairwise fun x y=>x.1≠y.1
end Go.T
namespace Go.T
variable {F : Nat → Prop} {A : Arg} {w0 w w' : World} {φ φ' : Fp} {st st' sta cG lR : TS} {tm AK : Array Value} {C : jC}
variable {R : Type} {cf : Cf} {lp : Lp} {Q : R → Prop}
def GY (sh:Bool) (st:TS) (ps:List bu) (es:List TE):List Nat:=match sh with
 |true=>fA st ps es++borrowed st ps es
 |false=>fA st ps es
theorem WZ (h:aH F A w0 φ st tm w) (sh:Bool) (ps:List bu) (es:List TE): ∃φ2,aH F A w0 φ2 (yy sh st ps es) tm w∧φ2.β=φ.β∧φ2.V=φ.V∧φ2.S=φ.S∧(∀k,φ.I k→φ2.I k)∧
 (∀k,φ2.I k→φ.I k∨(sh=true∧ ∃o∈borrowed st ps es,aA st.ob o∧φ.S o k))∧(sh=true→ ∀o∈borrowed st ps es,o∉fA st ps es→aA st.ob o→ ∀k,φ.S o k→φ2.I k)∧uL st (yy sh st ps es) (GY sh st ps es) (k9 st ps es):=by
 obtain⟨h1,l1⟩:=MI (m9:=st) ps es st h
 cases sh with
 |false=>exact⟨φ,h1,rfl,rfl,rfl,fun _ h=>h,fun _ h=> .inl h,fun e=>(by cases e),l1⟩
 |true=>
  obtain⟨φ2,h2,a1,a2,a3,a4,a5⟩:=qO (borrowed st ps es) _ _ h1
  have dom1: ∀o,aA (pZ st ps es st).ob o↔o∉fA st ps es∧aA st.ob o:=fun o=>by
   unfold aA;rw[l1.ob]
   by_cases ho:o∈fA st ps es
   ·simp[ho]
   ·simp[ho]
  refine⟨φ2,h2,a1,a2,a3,fun k hk=>(a4 k).2 (.inl hk),fun k hk=>((a4 k).1 hk).imp id fun⟨o,o1,o2,o3⟩=>⟨rfl,o,o1,((dom1 o).1 o2).2,o3⟩,fun _ o o1 o2 o3 k hk=>(a4 k).2 (.inr ⟨o,o1,(dom1 o).2 ⟨o2,o3⟩,hk⟩),?_⟩;have:=l1.trans a5;exact(by simpa using this:uL st (o8 (pZ st ps es st) (borrowed st ps es)) (fA st ps es++borrowed st ps es) (k9 st ps es))
theorem QS (h:aH F A w0 φ st tm w) {gS:Qu} {es:List TE} {own jY:List Nat} {xs:List Value} (Ug:v7 st gS.ps es=some (own,jY)) (hn:AP own=true) (hm:qy own jY=false) (h0:(gS.shares&&jc 0 jY)=false)
 (Eh: ∀(i:Nat) (e:TE),es[i]?=some e→ ∃x,xs[i]?=some x∧bP st.ob w φ e x) {r:TV} {fs:List TV} {v:Value}
 (hp:Ep (p7 (Ot w φ st gS.ps es) (PT φ gS.ps es)) (Ar gS.shares (yN φ st jY) (IE φ st jY)) w w' gS xs r fs v) {W:List (Nat×OB)} {B:List (Nat×List Mode×List TC)} (hpo:qH st gS.ps es fs=some (W,B)):
 ∃φ3 ri fi X posB,Yv F A w0 w' φ φ3 gS (qj W (yy gS.shares st gS.ps es)) tm B r v ri fi X posB:=by
 obtain⟨Pn,I,X,ri,fi,hb,hri,hfi⟩:=hp;have g:=vo Ug;have L0:=AX.1 hn;have po:=rJ hpo;obtain⟨pos,fp⟩:=Ov hfi;obtain⟨φ2,h2,fβ,fV,fS,fI1,fI2,fI3,lost⟩:=WZ h gS.shares gS.ps es;have hsize:w.heap.size≤w'.heap.size:=Pn.size
 have dom2: ∀{o},aA (yy gS.shares st gS.ps es).ob o→o∉GY gS.shares st gS.ps es∧aA st.ob o:=fun {o} ⟨b,hb⟩=>by
  rw[lost.ob] at hb
  split at hb
  ·cases hb
  ·rename_i hn;exact⟨hn,b,hb⟩
 have goneSub: ∀{o},o∈fA st gS.ps es→o∈GY gS.shares st gS.ps es:=fun {o} ho=>by
  unfold GY;cases gS.shares<;>simp[ho]
 have midSub: ∀{o},o∈GY gS.shares st gS.ps es→o∈fA st gS.ps es∨o∈borrowed st gS.ps es:=fun {o} ho=>by
  unfold GY at ho
  revert ho
  cases gS.shares with
  |true=>intro ho;exact List.mem_append.1 ho
  |false=>exact .inl
 have rdNot: ∀{o},2*o∈own→o∉borrowed st gS.ps es:=fun {o} ho Yg=>oc hm ho ((rI Ug).1 Yg)
 have wAlive: ∀{o b'},(o,b')∈W→2*o∈own∧o∉GY gS.shares st gS.ps es:=fun {o b'} hw=>by
  obtain⟨i,j,_,e',ag,cs,f,c,a,hk,_⟩:=pR po hw;have ho:=g.key a hk;refine⟨ho,fun hmid=> ?_⟩;rcases midSub hmid with hg|Yg
  ·obtain⟨i2,j2,p2,e2,e2',a2,hk2,uC⟩:=GX g hg
   obtain⟨_,_,e1,e3,_⟩:=g.GW L0 a a2 hk hk2;subst e1 e3;rcases uC with⟨_,e1⟩|⟨_,b,off,e1⟩<;>cases e1
  ·exact rdNot ho Yg
 have notW: ∀{o},aa o W=none→ ∀b',(o,b')∉W:=fun {o} h=>qk h
 have cfX: ∀{k o},p7 (Ot w φ st gS.ps es) (PT φ gS.ps es) k→aA st.ob o→φ.S o k→ ∃i j p e e',QN st gS.ps es i j p e e'∧iU e'=some o∧qB w φ st e' k:=fun {k o} hk hd hS=>by
  rcases hk with⟨i,j,hx⟩|⟨i,hy⟩
  ·obtain⟨p,e,e',o',l,x1,x2,x3,x4,x5,x6,x7,_⟩:=B6 h g Eh hx
   have:=h.sep.apart o o' k hd x6 hS x7;subst this;obtain⟨p',e2,y1,y2,y3,y4⟩:=hx;rw[x2] at y2;cases y2;rw[List.getD,x4] at y4;exact⟨i,j,p,e,e',⟨x1,x2,x3,x4⟩,x5,y4⟩
  ·obtain⟨p,b,y1,y2,y3,rfl⟩:=hy
   obtain⟨l,ok,_⟩:=g.ow i p _ y1 y2 y3;obtain⟨_,_,_,_,Ej,_⟩:=ok.bx b 0 rfl;exact(h.kZ hd hS Ej rfl).elim
 have cfOwn: ∀{k},p7 (Ot w φ st gS.ps es) (PT φ gS.ps es) k→(∃o,2*o∈own∧aA st.ob o∧φ.S o k)∨ ∃(i b:Nat) (ms:List Mode) (cs:List CE),gS.ps[i]?=some (bu.inout ms)∧es[i]?=some (TE.bp b 0)∧u0 b=true∧aa b st.bx=some cs∧2*b+1∈own∧k=(φ.β b).block:=fun {k} hk=>by
  rcases hk with⟨i,j,hx⟩|⟨i,hy⟩
  ·obtain⟨p,e,e',o',l,x1,x2,x3,x4,x5,x6,x7,_,_,x10⟩:=B6 h g Eh hx
   exact .inl ⟨o',x10,x6,x7⟩
  ·obtain⟨p,b,y1,y2,y3,rfl⟩:=hy
   obtain⟨l,ok,hl,_⟩:=g.ow i p _ y1 y2 y3;obtain⟨_,hc,hw,RB,Ej,_⟩:=ok.bx b 0 rfl
   obtain⟨ms,rfl⟩: ∃ms,p= .inout ms:=by cases p with
    |borrow=>exact absurd rfl y3
    |inout ms=>exact⟨ms,rfl⟩
    |consume ms=>cases hc
   exact .inr ⟨i,b,ms,_,y1,y2,hw,Ej,hl _ RB,rfl⟩
 have hβ: ∀b,φ2.β b=φ.β b:=fun b=>by rw[fβ]
 have cfFree: ∀{k},p7 (Ot w φ st gS.ps es) (PT φ gS.ps es) k→k<w.heap.size∧(w0.heap.size≤k∨F k)∧ ¬φ2.I k∧(∀d,aA (yy gS.shares st gS.ps es).ob d→aa d W=none→ ¬φ.S d k)∧ ∀b cs,aa b (yy gS.shares st gS.ps es).bx=some cs→(φ.β b).block≠k:=fun {k} hk=>by
  rcases cfOwn hk with⟨o,ho,hd,hS⟩|⟨i,b,msb,cs,h1,h3,hw,Ej,hbo,rfl⟩
  ·refine⟨(h.sep.fresh o k hd hS).1,(h.sep.fresh o k hd hS).2,fun hI=> ?_,fun d hd' Ql C1=> ?_,fun b cs hb'=> ?_⟩
   ·rcases fI2 k hI with hI|⟨_,o',o1,o2,o3⟩
    ·exact h.sep.read o k hd hS hI
    ·have:=h.sep.apart o o' k hd o2 hS o3
     subst this;exact rdNot ho o1
   ·obtain⟨d1,d2⟩:=dom2 hd'
    have:=h.sep.apart o d k hd d2 hS C1;subst this;rcases QO g po ho with hg|⟨b',hw⟩
    ·exact d1 (goneSub hg)
    ·exact notW Ql b' hw
   ·obtain⟨_,cs0,c0,_⟩:=lost.bx b cs hb'
    exact h.kZ hd hS c0
  ·obtain⟨x1,x2,x3,x4⟩:=h.sep.box b cs Ej hw
   refine⟨(h.sep.spot b cs Ej).2.1,x3,fun hI=> ?_,fun d hd' _ C1=>x2 d (dom2 hd').2 C1,fun b' cs' hb' e=> ?_⟩
   ·rcases fI2 _ hI with hI|⟨_,o',o1,o2,o3⟩
    ·exact x1 hI
    ·exact x2 o' o2 o3
   ·obtain⟨hng,cs0,c0,_⟩:=lost.bx b' cs' hb'
    by_cases Ix:b'=b
    ·subst Ix;exact hng (AY.2 ⟨i,_,0,cs,h1,h3,Ej⟩)
    ·exact x4 b' cs0 c0 Ix e
 have hI: ∀{k},I k→φ2.I k∨w.heap.size≤k∨p7 (Ot w φ st gS.ps es) (PT φ gS.ps es) k:=fun {k} hk=>by
  rcases (hb.ro k hk).2 with h1|h1|⟨hsh,h1⟩
  ·exact .inr (.inl h1)
  ·exact .inr (.inr h1)
  ·left
   rcases h1 with h1|⟨o,o1,o2,o3⟩
   ·exact fI1 k h1
   ·have Y5:o≠0:=fun e=>by
     subst e;rw[hsh] at h0;simp only[e9] at h0;exact cV.1 h0 o1
    have hd:=o2.resolve_left Y5;have Yg:=(rI Ug).2 o1;refine fI3 hsh o Yg (fun hg=> ?_) hd k o3;obtain⟨i2,j2,p2,e2,e2',a2,hk2,_⟩:=GX g hg;exact rdNot (g.key a2 hk2) Yg
 have itemFree: ∀{i k},i<(ri++fi).length→X i k→k<w'.heap.size∧(w0.heap.size≤k∨F k)∧ ¬φ2.I k∧ ¬I k∧(∀d,aA (yy gS.shares st gS.ps es).ob d→aa d W=none→ ¬φ.S d k)∧ ∀b cs,aa b (yy gS.shares st gS.ps es).bx=some cs→(φ.β b).block≠k:=fun {i k} hi hk=>by
  obtain⟨r1,r2,r3⟩:=hb.rng i k hi hk;rcases r2 with r2|r2
  ·refine⟨r1,.inl (pY h.frm.size r2),fun hI=> ?_,r3,fun d hd _ hS=> ?_,fun b cs hb' e=> ?_⟩
   ·have:=(h2.sep.ro k hI).1;omega
   ·have:=(h.sep.fresh d k (dom2 hd).2 hS).1;omega
   ·obtain⟨_,cs0,c0,_⟩:=lost.bx b cs hb'
    have:=(h.sep.spot b cs0 c0).2.1;rw[e] at this;omega
  ·obtain⟨c1,c2,c3,c4,c5⟩:=cfFree r2
   exact⟨r1,c2,c3,r3,c4,c5⟩
 let X':Nat→Nat→Prop:=fun o k=> ∃(i j:Nat) (p:bu) (e:TE) (e':CE),QN st gS.ps es i j p e e'∧iU e'=some o∧((φ.S o k∧ ¬qB w φ st e' k)∨X (ri.length+pos i j) k)
 have hX': ∀{o i j p e e'},QN st gS.ps es i j p e e'→iU e'=some o→X' o=fun k=>(φ.S o k∧ ¬qB w φ st e' k)∨X (ri.length+pos i j) k:=fun {o i j p e e'} a hk=>by
  funext k
  refine propext ⟨?_,fun hx=>⟨i,j,p,e,e',a,hk,hx⟩⟩;rintro⟨i2,j2,p2,e2,e2',a2,hk2,hx⟩;obtain⟨rfl,rfl,rfl,rfl,rfl⟩:=g.GW L0 a a2 hk hk2;exact hx
 have posLt: ∀{o b'},(o,b')∈W→ ∀{i j p e e'},QN st gS.ps es i j p e e'→iU e'=some o→ri.length+pos i j<(ri++fi).length:=fun {o b'} hw {i j p e e'} a hk=>by
  obtain⟨i2,j2,_,e2',ag,cs,f,c,a2,hk2,hf,hc,_⟩:=pR po hw;obtain⟨rfl,rfl,rfl,rfl,rfl⟩:=g.GW L0 a a2 hk hk2;have:=fp.lt i f j hf (List.getElem?_eq_some_iff.1 hc).1;rw[bX];omega
 have posNe: ∀{o1 b1 o2 b2},(o1,b1)∈W→(o2,b2)∈W→ ∀{i j p e e' i2 j2 p2 e2 e2'},QN st gS.ps es i j p e e'→iU e'=some o1→QN st gS.ps es i2 j2 p2 e2 e2'→iU e2'=some o2→ri.length+pos i j=ri.length+pos i2 j2→o1=o2:=fun {o1 b1 o2 b2} hw1 Jn {i j p e e' i2 j2 p2 e2 e2'} a hk a2 hk2 heq=>by
  obtain⟨i3,j3,_,e3',ag,cs,f,c,a3,hk3,hf,hc,_⟩:=pR po hw1;obtain⟨rfl,rfl,rfl,rfl,rfl⟩:=g.GW L0 a a3 hk hk3;obtain⟨i4,j4,_,e4',ag4,cs4,f4,c4,a4,hk4,hf4,hc4,_⟩:=pR po Jn;obtain⟨rfl,rfl,rfl,rfl,rfl⟩:=g.GW L0 a2 a4 hk2 hk4;obtain⟨rfl,rfl⟩:=fp.inj i i2 f f4 j j2 hf (List.getElem?_eq_some_iff.1 hc).1 hf4 (List.getElem?_eq_some_iff.1 hc4).1 ax;have e1:=a.hc;have e2:=a2.he;rw[a.he] at e2;cases e2;have e3:=a2.hc
  rw[e1] at e3;cases e3;rw[hk] at hk2;cases hk2
  rfl
 have frm':BO F w0 w':=by
  refine⟨Pn.os.trans h.frm.os,Pn.tape.trans h.frm.tape,Pn.output.trans h.frm.output,pY h.frm.size hsize,fun k hk hF=> ?_⟩
  rw[Pn.block k (gu hk h.frm.size) fun hc=>by
   rcases (cfFree hc).2.1 with h3|h3
   ·omega
   ·exact hF h3]
  exact h.frm.block k hk hF
 have R3:=h2.wrote (w':=w') W X' I (p7 (Ot w φ st gS.ps es) (PT φ gS.ps es)) frm' hsize (fun k hk hn=>Pn.block k hk hn) (fun k hk=>(cfFree hk).2.1) (fun k hk=>(cfFree hk).2.2.1)
  (fun k o hk ho Ql hS=>by rw[fS] at hS;exact(cfFree hk).2.2.2.1 o ho Ql hS) (fun b cs hb' hk=>by rw[hβ] at hk;exact(cfFree hk).2.2.2.2 b cs hb' rfl)
  (fun o b' sv=>by
    have hw:=gi sv;obtain⟨i,j,_,e',ag,cs,f,c,a,hkey,hf,hc,LY,hform⟩:=pR po hw;obtain⟨hown,hnm⟩:=wAlive hw;obtain⟨msF,XO,x,hx,hfa⟩:=fp.at' i f hf;obtain⟨x',hx',Rx⟩:=Eh i _ a.he;rw[hx] at hx';cases hx'
    obtain⟨u,hu,hce⟩: ∃u,fi[pos i j]?=some (.deep,c,u)∧cq st.ob w φ e' u:=by
     rcases hform with⟨rfl,rfl,rfl,rfl⟩|⟨ts,rfl,rfl⟩
     ·obtain⟨c0,e0,Rx⟩:=Rx
      cases e0
      obtain⟨e1,e2,_,h3⟩:=Rx
      cases e2
      exact⟨x,hfa,h3⟩
     ·obtain⟨ys,rfl,_,hys⟩:=hfa
      obtain⟨c0,e0,Rx⟩:=Rx
      cases e0
      obtain⟨zs,e1,_,h3⟩:=Rx
      cases e1
      obtain⟨u,u1,u2⟩:=hys j c hc;obtain⟨u',u3,_,u4⟩:=h3 j e' a.hc;rw[u1] at u3;cases u3;exact⟨u,u2,u4⟩
    have hidx:(ri++fi)[ri.length+pos i j]?=some (.deep,c,u):=by rw[kr ax,Nat.add_sub_cancel_left];exact hu
    have Qm:=hb.ok _ _ hidx;simp only at Qm;have hlt:=posLt hw a hkey;rw[hX' a hkey]
    obtain⟨b0,hb0,abf,hz,hlen,hcell⟩: ∃b0,aa o st.ob=some b0∧b'.deep=true∧b'.z=b0.z∧b'.rows.length=b0.rows.length∧ai w' (fun k=>φ2.I k∨I k) .deep (fun k=>(φ.S o k∧ ¬qB w φ st e' k)∨X (ri.length+pos i j) k) (.sub b'.z b'.rows) (φ.V o):=by
     unfold o7 at LY
     split at LY
     ·cases hkey
     ·cases hkey
     ·rename_i o' z rows
      cases hkey
      split at LY
      ·rename_i z0 lS AM
       split at LY
       ·rename_i Bw
        have Bw:=fk Bw;subst Bw;simp only[aU,List.cons.injEq,sM,and_true,true_and] at LY;subst LY;obtain⟨b1,g1,g2⟩:=hce;have g2:u=φ.V o:=g2;subst g2
        have Zs:rows.length=lS.length:=by
         have hO:=h.obj o _ AM;unfold kz at hO;obtain⟨A1,c1,e1,_⟩:=ai.len Qm;obtain⟨A2,c2,e2,_⟩:=ai.len hO;rw[e1] at e2
         injection e2 with _ e3 _
        exact⟨_,AM,rfl,rfl,Zs,(Qm.As rfl).mono fun k hk=> .inr hk⟩
       ·cases LY
      ·cases LY
     ·rename_i ds o' i0 f0 z0 lS z' aO
      cases hkey
      split at LY
      ·rename_i z rows AM Bw
       have Bw:=fk Bw;subst Bw;simp only[aU,List.cons.injEq,sM,and_true,true_and] at LY;subst LY;obtain⟨_,_,h3⟩:=hce;obtain⟨_,b1,g1,g2,g3,ad,n,c',g4,g5⟩:=h3 o i0 f0 rfl;rw[AM] at g1;cases g1;obtain⟨_,q2,q3⟩:=Dl h o i0 f0 _ ad n c' _ u AM rfl g4 g3 g5
       have hcl:=q3 w' (.sub z' aO) (fun k=>φ2.I k∨I k) (X (ri.length+pos i j)) (Qm.As rfl) (fun k hk hn'=>Pn.block k (h.sep.fresh o k ⟨_,AM⟩ hk).1 fun Ak=>by
        obtain⟨i2,j2,p2,e2,e2',a2,hk2,NN⟩:=cfX Ak ⟨_,AM⟩ hk;obtain⟨_,_,_,_,e5⟩:=g.GW L0 a a2 rfl hk2;subst e5
        exact hn' NN)
        (fun k hk=>by
          rcases (hb.rng _ k hlt hk).2.1 with r2|r2
          ·right;intro hS;have:=(h.sep.fresh o k ⟨_,AM⟩ hS).1;omega
          ·by_cases hS:φ.S o k
           ·left
            obtain⟨i2,j2,p2,e2,e2',a2,hk2,NN⟩:=cfX r2 ⟨_,AM⟩ hS;obtain⟨_,_,_,_,e5⟩:=g.GW L0 a a2 rfl hk2;subst e5;exact NN
           ·exact .inr hS)
       refine⟨_,AM,rfl,rfl,by simp only[pF,iC],?_⟩;simp only[pF];exact hcl
      ·cases LY
     ·cases LY
    have Uh:aA st.ob o:=⟨b0,hb0⟩
    have AL:aa o (yy gS.shares st gS.ps es).ob=some b0:=by rw[lost.ob,aF hnm];exact hb0
    refine⟨b0,AL,hz,hlen,?_,fun k hk=> ?_⟩
    ·rw[fV]
     have:b'.m= .deep:=by unfold OB.m;rw[abf];rfl
     rw[this];exact hcell
    ·
     have ofS:φ.S o k→ ¬qB w φ st e' k→ ¬I k∧ ¬p7 (Ot w φ st gS.ps es) (PT φ gS.ps es) k:=fun hS hnp=>by
      have Zu: ¬p7 (Ot w φ st gS.ps es) (PT φ gS.ps es) k:=fun Ak=>by
       obtain⟨i2,j2,p2,e2,e2',a2,hk2,NN⟩:=cfX Ak Uh hS;obtain⟨_,_,_,_,e5⟩:=g.GW L0 a a2 hkey hk2;subst e5;exact hnp NN
      refine⟨fun hIk=> ?_,Zu⟩;rcases hI hIk with h3|h3|h3
      ·exact h2.sep.read o k ⟨_,AL⟩ (by rw[fS];exact hS) h3
      ·have:=(h.sep.fresh o k Uh hS).1;omega
      ·exact Zu h3
     have noS: ∀{d b1},aa d W=some b1→X' d k→d=o:=fun {d b1} XP Yh=>by
      have sw:=gi XP;obtain⟨i2,j2,_,e2',ag2,cs2,f2,c2,a2,hk2,_⟩:=pR po sw;rw[hX' a2 hk2] at Yh
      have Qi:aA st.ob d:=by
       have:=(wAlive sw).1;obtain⟨x2,hx2,ht2⟩:=Eh i2 _ a2.he;obtain⟨u2,hu2⟩:=wq h ht2 a2.hc;obtain⟨l,ok,_⟩:=g.ow i2 _ _ a2.hp a2.he a2.hb;obtain⟨⟨cb,_,TW,_⟩,_⟩:=ok.one j2 e2' a2.hc;have TW:=TW.key hk2
       cases e2' with
       |ref o1 cut=>cases hk2;obtain⟨b2,g1,_⟩:=hu2;exact⟨b2,g1⟩
       |snap ds loc z rows=>cases loc with
        |none=>cases hk2
        |some q=>obtain⟨o1,i1,f1⟩:=q;cases hk2;obtain⟨_,_,C4⟩:=yL TW.2;exact⟨_,C4⟩
       |_=>cases hk2
      rcases Yh with⟨s1,s2⟩|s1
      ·rcases hk with⟨t1,t2⟩|t1
       ·exact h.sep.apart d o k Qi Uh s1 t1
       ·
        exfalso
        rcases (hb.rng _ k hlt t1).2.1 with r2|r2
        ·have:=(h.sep.fresh d k Qi s1).1;omega
        ·obtain⟨i3,j3,p3,e3,e3',a3,hk3,hp3⟩:=cfX r2 Qi s1
         obtain⟨_,_,_,_,e5⟩:=g.GW L0 a2 a3 hk2 hk3;subst e5;exact s2 hp3
      ·rcases hk with⟨t1,t2⟩|t1
       ·exfalso
        rcases (hb.rng _ k (posLt sw a2 hk2) s1).2.1 with r2|r2
        ·have:=(h.sep.fresh o k Uh t1).1;omega
        ·exact(ofS t1 t2).2 r2
       ·exact posNe sw hw a2 hk2 a hkey (hb.apart _ _ k (posLt sw a2 hk2) hlt s1 t1)
     rcases hk with⟨t1,t2⟩|t1
     ·refine⟨gu (h.sep.fresh o k Uh t1).1 hsize,(h.sep.fresh o k Uh t1).2,h2.sep.read o k ⟨_,AL⟩ (by rw[fS];exact t1),(ofS t1 t2).1,fun d hd Ql hS=> ?_,fun d b1 XP Yh=>noS XP Yh,fun b cs hb' _=> ?_⟩
      ·rw[fS] at hS
       have:=h.sep.apart d o k (dom2 hd).2 Uh hS t1;subst this;rw[sv] at Ql;cases Ql
      ·obtain⟨_,cs0,c0,_⟩:=lost.bx b cs hb'
       rw[hβ];exact h.kZ Uh t1 c0
     ·obtain⟨q1,q2,q3,q4,q5,q6⟩:=itemFree hlt t1
      exact⟨q1,q2,q3,q4,fun d hd Ql hS=>q5 d hd Ql (by rw[fS] at hS;exact hS),fun d b1 XP Yh=>noS XP Yh,fun b cs hb' _=>by rw[hβ];exact q6 b cs hb'⟩)
  (fun k hk=>by
    rcases hI hk with h3|h3|h3
    ·refine⟨(hb.ro k hk).1,(h2.sep.ro k h3).2,fun d hd _=>fun hS=>h2.sep.read d k hd hS h3,fun b cs hb' Aj e=> ?_⟩
     exact(h2.sep.box b cs hb' Aj).1 (by rw[e];exact h3)
    ·refine⟨(hb.ro k hk).1,.inl (pY h.frm.size h3),fun d hd _ hS=> ?_,fun b cs hb' _ e=> ?_⟩
     ·have:=(h2.sep.fresh d k hd hS).1;omega
     ·have:=(h2.sep.spot b cs hb').2.1;rw[e] at this;omega
    ·obtain⟨c1,c2,c3,c4,c5⟩:=cfFree h3
     exact⟨(hb.ro k hk).1,c2.elim .inl fun hF=> .inr (.inl hF),fun d hd Ql hS=>c4 d hd Ql (by rw[fS] at hS;exact hS),fun b cs hb' _=>by rw[hβ];exact c5 b cs hb'⟩)
 have dom3: ∀{o},aA (qj W (yy gS.shares st gS.ps es)).ob o→aA (yy gS.shares st gS.ps es).ob o:=fun {o} hd=>by
  cases W with
  |nil=>exact hd
  |cons a q=>
   obtain⟨b,hb'⟩:=hd;have hb':aa o (iy (a::q) (yy gS.shares st gS.ps es).ob)=some b:=hb';rw[oE] at hb'
   cases hl:aa o (a::q) with
   |none=>rw[hl] at hb';exact⟨b,hb'⟩
   |some b1=>
    have hw:=gi hl;obtain⟨hown,hnm⟩:=wAlive hw;obtain⟨i,j,_,e',ag,cs,f,c,a',hkey,_⟩:=pR po hw;obtain⟨x2,hx2,ht2⟩:=Eh i _ a'.he;obtain⟨u2,hu2⟩:=wq h ht2 a'.hc;obtain⟨l,ok,_⟩:=g.ow i _ _ a'.hp a'.he a'.hb;obtain⟨⟨cb,_,TW,_⟩,_⟩:=ok.one j e' a'.hc;have TW:=TW.key hkey
    have Uh:aA st.ob o:=by
     cases e' with
     |ref o1 cut=>cases hkey;obtain⟨b2,g1,_⟩:=hu2;exact⟨b2,g1⟩
     |snap ds loc z rows=>cases loc with
      |none=>cases hkey
      |some q=>obtain⟨o1,i1,f1⟩:=q;cases hkey;obtain⟨_,_,C4⟩:=yL TW.2;exact⟨_,C4⟩
     |_=>cases hkey
    obtain⟨b0,hb0⟩:=Uh;exact⟨b0,by rw[lost.ob,aF hnm];exact hb0⟩
 have bx3: ∀{b cs},aa b (qj W (yy gS.shares st gS.ps es)).bx=some cs→ ∃cs0,aa b (yy gS.shares st gS.ps es).bx=some cs0:=fun {b cs} hb'=>by
  cases W with
  |nil=>exact⟨cs,hb'⟩
  |cons a q=>obtain⟨cs0,c0,_⟩:=eR _ b cs hb';exact⟨cs0,c0⟩
 have R3S: ∀{o k},aA (qj W (yy gS.shares st gS.ps es)).ob o→(φ2.wr W X' I).S o k→(aa o W=none∧φ.S o k)∨ ∃b',(o,b')∈W∧X' o k:=fun {o k} _ hS=>by
  cases hl:aa o W with
  |none=>rw[IC hl,fS] at hS;exact .inl ⟨rfl,hS⟩
  |some b'=>rw[MC hl] at hS;exact .inr ⟨b',gi hl,hS⟩
 have freeOf: ∀{n k},n<(ri++fi).length→(∀o b',(o,b')∈W→ ∀i j p e e',QN st gS.ps es i j p e e'→iU e'=some o→ri.length+pos i j≠n)→X n k→oS F w0 w' (φ2.wr W X' I) (qj W (yy gS.shares st gS.ps es)) k:=fun {n k} hlt hne hx=>by
  obtain⟨q1,q2,q3,q4,q5,q6⟩:=itemFree hlt hx;refine⟨q1,q2,fun hi=>hi.elim q3 q4,fun o hd hS=> ?_,fun b cs hb'=> ?_⟩
  ·rcases R3S hd hS with⟨Ql,hS⟩|⟨b',hw,hx'⟩
   ·exact q5 o (dom3 hd) Ql hS
   ·obtain⟨i,j,_,e',ag,cs,f,c,a,hkey,_⟩:=pR po hw
    rw[hX' a hkey] at hx';rcases hx' with⟨s1,s2⟩|s1
    ·obtain⟨_,VF⟩:=dom2 (dom3 hd)
     rcases (hb.rng n k hlt hx).2.1 with r2|r2
     ·have:=(h.sep.fresh o k VF s1).1;omega
     ·obtain⟨i2,j2,p2,e2,e2',a2,hk2,NN⟩:=cfX r2 VF s1
      obtain⟨_,_,_,_,e5⟩:=g.GW L0 a a2 hkey hk2;subst e5;exact s2 NN
    ·exact hne o b' hw i j _ _ e' a hkey (hb.apart _ _ k (posLt hw a hkey) hlt s1 hx)
  ·obtain⟨cs0,c0⟩:=bx3 hb'
   show(φ2.β b).block≠k;rw[hβ];exact q6 b cs0 c0
 have uniqI: ∀(i i' b:Nat) (ms ms':List Mode),gS.ps[i]?=some (.inout ms)→gS.ps[i']?=some (.inout ms')→es[i]?=some (.bp b 0)→es[i']?=some (.bp b 0)→i=i':=fun i i' b ms ms' h1 TY h3 h4=>by
  obtain⟨l,ok,_,_,AM⟩:=g.ow i _ _ h1 h3 eO;obtain⟨l2,ok2,_,_,XN⟩:=g.ow i' _ _ TY h4 eO;exact g.uniq L0 i i' _ _ _ _ l l2 (2*b+1) h1 TY h3 h4 eO eO AM XN (ok.bx b 0 rfl).2.2.2.1 (ok2.bx b 0 rfl).2.2.2.1
 let iOf:Nat→Nat:=fun b=>Classical.epsilon fun i=>(∃ms,gS.ps[i]?=some (.inout ms))∧es[i]?=some (.bp b 0)
 have XQ: ∀{i b ms},gS.ps[i]?=some (.inout ms)→es[i]?=some (.bp b 0)→iOf b=i:=fun {i b ms} h1 h3=>by
  have:=Classical.epsilon_spec (p:=fun i=>(∃ms,gS.ps[i]?=some (bu.inout ms))∧es[i]?=some (TE.bp b 0)) ⟨i,⟨ms,h1⟩,h3⟩;obtain⟨⟨ms',NO⟩,XC⟩:=this;exact uniqI _ _ b _ _ NO h1 XC h3
 refine⟨φ2.wr W X' I,ri,fi,X,fun b j=>ri.length+pos (iOf b) j,⟨R3,fβ,hri,fun i it hi=>(hb.ok i it hi).mo fun k hk=> .inr hk,hb.apart,fun i k hi hk=>freeOf (by rw[bX];omega) (fun o b' hw i' j' p e e' a hkey hne=>by omega) hk,fun b ms ts hbm=> ?_,fun b ms ts b' ms' ts' j j' hb1 hb2 hj hj' he=> ?_,po.ndB uniqI⟩⟩
 ·obtain⟨i,cs,g1,g2,g3,g4,g5⟩:=po.memB b ms ts hbm
  obtain⟨msF,XO,x,hx,hfa⟩:=fp.at' i _ g3;rw[g1] at XO
  cases XO
  obtain⟨x',hx',Rx⟩:=Eh i _ g2;rw[hx] at hx';cases hx';have Rx:x= .pointer (some ((φ.β b).add 0)):=Rx;rw[Addr.add_zero'] at Rx;obtain⟨ad,us,e1,e2,⟨nb1,nb2⟩,e4,e5⟩:=hfa;rw[Rx] at e1
  cases e1
  obtain⟨l,ok,hl,_⟩:=g.ow i _ _ g1 g2 eO;obtain⟨_,_,Aj,RB,_,_⟩:=ok.bx b 0 rfl;have Ak:p7 (Ot w φ st gS.ps es) (PT φ gS.ps es) (φ.β b).block:= .inr ⟨i,_,b,g1,g2,by simp,rfl⟩;obtain⟨c1,c2,c3,c4,c5⟩:=cfFree Ak;refine⟨Aj,(h.sep.spot b cs g4).1 Aj,fun cs' hb'=> ?_,⟨gu c1 hsize,c2,fun hi=>hi.elim c3 nb1,fun o hd hS=> ?_,fun b' cs' hb'=> ?_⟩,nb2,fun b' ms' ts' hb' hne=> ?_,us,e2,e4,fun j c hj=> ?_⟩
  ·obtain⟨cs0,c0⟩:=bx3 hb'
   exact(lost.bx b cs0 c0).1 (AY.2 ⟨i,_,0,cs,g1,g2,g4⟩)
  ·rcases R3S hd hS with⟨Ql,hS⟩|⟨b',hw,hx'⟩
   ·exact c4 o (dom3 hd) Ql hS
   ·obtain⟨i',j',_,e',ag,cs',f,c,a,hkey,_⟩:=pR po hw
    rw[hX' a hkey] at hx';rcases hx' with⟨s1,s2⟩|s1
    ·exact h.kZ (dom2 (dom3 hd)).2 s1 g4 rfl
    ·exact nb2 _ (posLt hw a hkey) s1
  ·obtain⟨cs0,c0⟩:=bx3 hb'
   show(φ2.β b').block≠_;rw[hβ];exact c5 b' cs0 c0
  ·obtain⟨i',cs',k1,k2,k3,k4,k5⟩:=po.memB b' ms' ts' hb'
   exact(h.sep.box b cs g4 Aj).2.2.2 b' cs' k4 hne
  ·obtain⟨u,u1,u2⟩:=e5 j c hj
   have hi:=XQ g1 g2;simp only[hi];have hlt:=fp.lt i _ j g3 (List.getElem?_eq_some_iff.1 hj).1;refine⟨u,u1,by rw[kr ax,Nat.add_sub_cancel_left];exact u2,by omega,fun k hk=>freeOf (by rw[bX];omega) (fun o b' hw i' j' p e e' a hkey hne=> ?_) hk⟩;obtain⟨i2,j2,_,e2',ag,cs',f,c',a2,hk2,Ya,hc2,_⟩:=pR po hw;obtain⟨rfl,rfl,rfl,rfl,rfl⟩:=g.GW L0 a a2 hkey hk2;obtain⟨rfl,_⟩:=fp.inj i' i f _ j' j Ya (List.getElem?_eq_some_iff.1 hc2).1 g3 (List.getElem?_eq_some_iff.1 hj).1 ax
   have:=a.he;rw[g2] at this
   cases this
 ·obtain⟨i,cs,g1,g2,g3,_⟩:=po.memB b ms ts hb1
  obtain⟨i',cs',g1',g2',g3',_⟩:=po.memB b' ms' ts' hb2;have he:ri.length+pos (iOf b) j=ri.length+pos (iOf b') j':=he;rw[XQ g1 g2,XQ g1' g2'] at he;obtain⟨rfl,rfl⟩:=fp.inj i i' _ _ j j' g3 hj g3' hj' ax;rw[g2] at g2'
  cases g2'
  exact⟨rfl,rfl⟩
end Go.T
namespace Go.T
variable {F : Nat → Prop} {A : Arg} {w0 w w' : World} {φ φ' φ1 : Fp} {st st' sta cG lR : TS} {tm AK : Array Value} {C : jC}
variable {R : Type} {cf : Cf} {lp : Lp} {Q : R → Prop}
theorem UL {o:Nat} {b:OB} {X:Nat→Prop} {V:Value} (h0:o≠0) {e:CE} {v:Value} (h:cq st.ob w φ e v) (hd:o∉ee e):cq (yw o b st).ob w (φ.add o X V) e v:=by
 have h1:=h.kill (o:=o)
 have h2:Js o e=e:=by unfold Js;rw[cV.2 hd]
 rw[h2] at h1;exact h1.add h0 (fun hd=>(kN.1 hd).1 rfl)
theorem oS.yw {o k:Nat} {b:OB} {X:Nat→Prop} {V:Value} (h:oS F w0 w φ st k) (hX: ¬X k):oS F w0 w (φ.add o X V) (yw o b st) k:=by
 refine⟨h.lt,h.new,h.I,fun d hd hk=> ?_,fun c cs hb=> ?_⟩
 ·by_cases he:d=o
  ·subst he
   have hk:(if d=d then X k else φ.S d k):=hk;rw[aP rfl] at hk;exact hX hk
  ·rw[qA he] at hk
   have hd:aA (kX o b (ni o st.ob)) d:=hd;rcases gv.1 hd with e|hd
   ·exact he e
   ·exact h.S d (kN.1 hd).2 hk
 ·have hb:aa c (mapA (List.map (Js o)) st.bx)=some cs:=hb
  obtain⟨cs0,c0,_⟩:=eR _ c cs hb;exact h.B c cs0 c0
def wC (st st':TS):Prop:= ∀b cs,aa b st'.bx=some cs→ ∃cs0,aa b st.bx=some cs0∧cs.length=cs0.length
theorem wC.refl (st:TS):wC st st:=fun b cs h=>⟨cs,h,rfl⟩
theorem wC.trans {a b c:TS} (h:wC a b) (k:wC b c):wC a c:=fun x cs hx=>by
 obtain⟨c1,a1,a2⟩:=k x cs hx;obtain⟨c0,b1,b2⟩:=h x c1 a1;exact⟨c0,b1,a2.trans b2⟩
theorem UM {o:Nat} {b:OB}:wC st (yw o b st):=fun c cs hb=>eR _ c cs hb
structure Made (F:Nat→Prop) (A:Arg) (w0 w:World) (φ φ':Fp) (st st':TS) (tm:Array Value) (nums:Nat→Prop) (Xs:Nat→Prop):Prop where
 rel:aH F A w0 φ' st' tm w
 β:φ'.β=φ.β
 I:φ'.I=φ.I
 keep: ∀e v,cq st.ob w φ e v→(∀o∈ee e,¬nums o)→cq st'.ob w φ' e v
 free: ∀k,oS F w0 w φ st k→ ¬Xs k→oS F w0 w φ' st' k
 bx:wC st st'
theorem Made.refl (h:aH F A w0 φ st tm w) {nums Xs:Nat→Prop}:Made F A w0 w φ φ st st tm nums Xs:=⟨h,rfl,rfl,fun e v h _=>h,fun k h _=>h,wC.refl st⟩
theorem Made.trans {φ2:Fp} {n1 n2 X1 X2 nums Xs:Nat→Prop} (h:Made F A w0 w φ φ1 st cG tm n1 X1) (k:Made F A w0 w φ1 φ2 cG lR tm n2 X2) (hn: ∀o,n1 o∨n2 o→nums o) (hX: ∀x,X1 x∨X2 x→Xs x):Made F A w0 w φ φ2 st lR tm nums Xs:=
 ⟨k.rel,k.β.trans h.β,k.I.trans h.I,fun e v he hd=>k.keep e v (h.keep e v he fun o ho hc=>hd o ho (hn o (.inl hc))) fun o ho hc=>hd o ho (hn o (.inr hc)),
   fun x hf hx=>k.free x (h.free x hf fun hc=>hx (hX x (.inl hc))) fun hc=>hx (hX x (.inr hc)),h.bx.trans k.bx⟩
theorem mH {f:Nat→Nat} (XF: ∀j,f j≠0) (hinj: ∀j j',f j=f j'→j=j'): ∀(cs:List TC) (ms:List Mode) (j:Nat) (st:TS) (φ:Fp) (vs:List Value) (X:Nat→Nat→Prop),aH F A w0 φ st tm w→vs.length=cs.length→
 (∀(n:Nat) (c:TC) (v:Value),cs[n]?=some c→vs[n]?=some v→ai w φ.I (ms.getD n .snap) (X n) c v)→(∀n k,n<cs.length→X n k→oS F w0 w φ st k)→(∀n n' k,n<cs.length→n'<cs.length→X n k→X n' k→n=n')→
 ∃φ',Made F A w0 w φ φ' st (bC f ms j cs st).2 tm (fun o=> ∃n,j≤n∧n<j+cs.length∧o=f n) (fun k=> ∃n,n<cs.length∧X n k)∧(bC f ms j cs st).1.length=cs.length∧
  ∀(n:Nat) (e:CE) (v:Value),(bC f ms j cs st).1[n]?=some e→vs[n]?=some v→cq (bC f ms j cs st).2.ob w φ' e v∧ ∀o∈ee e,∃n,j≤n∧n<j+cs.length∧o=f n
 |[],ms,j,st,φ,vs,X,h,hl,hc,hF,hd=>⟨φ,Made.refl h,rfl,fun n e v he=>by simp[bC] at he⟩
 |c::cs,ms,j,st,φ,vs,X,h,hl,hc,hF,hd=>by
  cases vs with
  |nil=>cases hl
  |cons v vs=>
   have h0:=hc 0 c v rfl rfl
   obtain⟨φ1,cG,e1,m1,he1,TZ,Wq⟩: ∃φ1 cG e1,Made F A w0 w φ φ1 st cG tm (fun o=>o=f j) (X 0)∧cq cG.ob w φ1 e1 v∧(∀o∈ee e1,o=f j)∧bC f ms j (c::cs) st=(e1::(bC f (ms.drop 1) (j+1) cs cG).1,(bC f (ms.drop 1) (j+1) cs cG).2):=by
    cases c with
    |any=>exact⟨φ,st,.gone,Made.refl h,trivial,fun o ho=>(by cases ho),rfl⟩
    |sc x=>
     refine⟨φ,st,.sc x,Made.refl h,?_,fun o ho=>(by cases ho),rfl⟩
     cases h0 with|sc _ _ _ hs=>exact⟨rfl,hs⟩
    |sub z rows=>
     have mk: ∀dp,(ms.getD 0 .snap)=OB.m ⟨dp,z,rows⟩→ ∃φ1,Made F A w0 w φ φ1 st (yw (f j) ⟨dp,z,rows⟩ st) tm (fun o=>o=f j) (X 0)∧cq (yw (f j) ⟨dp,z,rows⟩ st).ob w φ1 (.ref (f j) none) v:=fun dp hm=>by
      rw[hm] at h0
      have hr:=h.yw (o:=f j) (b:=⟨dp,z,rows⟩) (XF j) h0 (fun k hk=>⟨(hF 0 k eO hk).lt,(hF 0 k eO hk).new⟩) (fun k hk=>(hF 0 k eO hk).I) (fun k d hk _ Y9=>(hF 0 k eO hk).S d Y9)
       (fun b cs hb _ hk=>(hF 0 _ eO hk).B b cs hb rfl)
      refine⟨_,⟨hr,rfl,rfl,fun e v he hd=>UL (XF j) he fun hm=>hd _ hm rfl,fun k hk hn=>hk.yw hn,UM⟩,⟨dp,z,rows⟩,?_,?_⟩
      ·show aa _ (kX _ _ _)=_
       exact jw
      ·show v=(if f j=f j then v else _)
       rw[aP rfl]
     have hhd:ms.headD .snap=ms.getD 0 .snap:=pn ms .snap
     cases hm:ms.headD .snap with
     |snap=>
      refine⟨φ,st,.snap [] none z rows,Made.refl h,⟨fun d hd=>(by cases hd),?_,fun o i f e=>(by cases e)⟩,fun o ho=>(by cases ho),?_⟩
      ·rw[←hhd,hm] at h0
       exact h0.mU fun k hk=> .inl hk
      ·simp only[bC,hm]
     |top=>
      obtain⟨φ1,m,hce⟩:=mk false (by rw[←hhd,hm];rfl);exact⟨φ1,_,_,m,hce,fun o ho=>by simpa [ee] using ho,by simp only[bC,hm]⟩
     |deep=>
      obtain⟨φ1,m,hce⟩:=mk true (by rw[←hhd,hm];rfl);exact⟨φ1,_,_,m,hce,fun o ho=>by simpa [ee] using ho,by simp only[bC,hm]⟩
   obtain⟨φ2,m2,l2,c2⟩:=mH XF hinj cs (ms.drop 1) (j+1) cG φ1 vs (fun n=>X (n+1)) m1.rel (by simpa using hl) (fun n c' v' hn hv=>by
    rw[m1.I,jK]
    exact hc (n+1) c' v' (by simpa using hn) (by simpa using hv)) (fun n k hn hk=>m1.free k (hF (n+1) k (by simpa using hn) hk) fun hx0=>by
    have:=hd 0 (n+1) k eO (by simpa using hn) hx0 hk
    omega) (fun n n' k hn hn' hk hk'=>by
    have:=hd (n+1) (n'+1) k (by simpa using hn) (by simpa using hn') hk hk'
    omega)
   rw[Wq];refine⟨φ2,m1.trans m2 (fun o ho=> ?_) (fun k hk=> ?_),by simp only[ez];rw[l2],fun n e v' hn hv=> ?_⟩
   ·rcases ho with ho|⟨n,n1,n2,n3⟩
    ·exact⟨j,bI _,by simp,ho⟩
    ·exact⟨n,by omega,by simp only[ez];omega,n3⟩
   ·rcases hk with hk|⟨n,n1,n2⟩
    ·exact⟨0,by simp,hk⟩
    ·exact⟨n+1,by simpa using n1,n2⟩
   ·cases n with
    |zero=>
     simp only[cZ,aU] at hn hv;subst hn hv;refine⟨m2.keep _ _ he1 fun o ho ⟨n,n1,n2,n3⟩=> ?_,fun o ho=>⟨j,bI _,by simp,TZ o ho⟩⟩;rw[TZ o ho] at n3;have:=hinj _ _ n3;omega
    |succ n=>
     obtain⟨q1,q2⟩:=c2 n e v' (by simpa using hn) (by simpa using hv);refine⟨q1,fun o ho=> ?_⟩;obtain⟨n',n1,n2,n3⟩:=q2 o ho;exact⟨n',by omega,by simp only[ez];omega,n3⟩
theorem aH.aaq (h:aH F A w0 φ st tm w) {b:Nat} {cs:List CE} (hw:u0 b=true) (hs:(φ.β b).spot=none) (hf:oS F w0 w φ st (φ.β b).block)
 (hc: ∀(j:Nat) (e:CE),cs[j]?=some e→ ∃v,w.cell? ((φ.β b).add j)=some v∧v.cells= #[v]∧cq st.ob w φ e v) (hz: ∀j,j<cs.length→w.frozen? ((φ.β b).add j)=false):aH F A w0 φ (st.C5 b cs) tm w:=by
 have look: ∀{c cs'},aa c (kX b cs st.bx)=some cs'→(c=b∧cs'=cs)∨(c≠b∧aa c st.bx=some cs'):=fun {c cs'} hl=>by
  rw[dD] at hl
  split at hl
  ·cases hl;exact .inl ⟨by assumption,rfl⟩
  ·exact .inr ⟨by assumption,hl⟩
 refine⟨h.tmp,fun c cs' hl j e he=> ?_,h.obj,?_,h.frm⟩
 ·rcases look hl with⟨rfl,rfl⟩|⟨_,hl⟩
  ·exact hc j e he
  ·exact h.box c cs' hl j e he
 ·exact {
   arg:=h.sep.arg,nz:=h.sep.nz,apart:=h.sep.apart,read:=h.sep.read,fresh:=h.sep.fresh,ro:=h.sep.ro,kk:=h.sep.kk
   box:=fun c cs' hl VE=>by
    rcases look hl with⟨rfl,rfl⟩|⟨hne,AM⟩
    ·refine⟨hf.I,hf.S,hf.new,fun c' LN hl' hne=> ?_⟩
     rcases look hl' with⟨rfl,_⟩|⟨_,hl'⟩
     ·exact absurd rfl hne
     ·exact hf.B c' LN hl'
    ·obtain⟨a1,a2,a3,a4⟩:=h.sep.box c cs' AM VE
     refine⟨a1,a2,a3,fun c' LN hl' abk=> ?_⟩;rcases look hl' with⟨rfl,_⟩|⟨_,hl'⟩
     ·exact fun e=>hf.B c cs' AM e.symm
     ·exact a4 c' LN hl' abk
   spot:=fun c cs' hl=>by
    rcases look hl with⟨rfl,rfl⟩|⟨_,hl⟩
    ·exact⟨fun _=>hs,hf.lt,fun e=>by rw[hw] at e;cases e⟩
    ·exact h.sep.spot c cs' hl
   soft:=fun c cs' j hl VE hj=>by
    rcases look hl with⟨rfl,rfl⟩|⟨_,hl⟩
    ·exact hz j hj
    ·exact h.sep.soft c cs' j hl VE hj}
theorem oS.C5 {b k:Nat} {cs:List CE} (h:oS F w0 w φ st k) (hk:(φ.β b).block≠k):oS F w0 w φ (st.C5 b cs) k:=by
 refine⟨h.lt,h.new,h.I,h.S,fun c cs' hl=> ?_⟩;have hl:aa c (kX b cs st.bx)=some cs':=hl;rw[dD] at hl
 split at hl
 ·rename_i e;rw[e];exact hk
 ·exact h.B c cs' hl
end Go.T
namespace Go.T
variable {F : Nat → Prop} {A : Arg} {w0 w w' : World} {φ φ' φ1 : Fp} {st st' sta cG lR : TS} {tm AK : Array Value} {C : jC}
variable {R : Type} {cf : Cf} {lp : Lp} {Q : R → Prop}
theorem Ex {β:Nat→Addr} {XB:Nat→Nat→Nat→Prop} {E:Nat→Prop}: ∀(B:List (Nat×List Mode×List TC)) (st:TS) (φ:Fp),φ.β=β→aH F A w0 φ st tm w→(B.Pairwise fun x y=>x.1≠y.1)→
 (∀b ms ts,(b,ms,ts)∈B→u0 b=true∧(β b).spot=none∧oS F w0 w φ st (β b).block∧(∀b' ms' ts',(b',ms',ts')∈B→b'≠b→(β b').block≠(β b).block)∧ ¬E (β b).block∧
   (∀b' ms' ts' j,(b',ms',ts')∈B→j<ts'.length→ ¬XB b' j (β b).block)∧
   ∃us:List Value,us.length=ts.length∧(∀(j:Nat) (u:Value),us[j]?=some u→w.cell? ((β b).add j)=some u∧u.cells= #[u]∧w.frozen? ((β b).add j)=false)∧
    ∀(j:Nat) (c:TC),ts[j]?=some c→ ∃u,us[j]?=some u∧ai w φ.I (VX ms j) (XB b j) c u∧ ∀k,XB b j k→oS F w0 w φ st k∧ ¬E k)→
 (∀b ms ts b' ms' ts' j j' k,(b,ms,ts)∈B→(b',ms',ts')∈B→j<ts.length→j'<ts'.length→XB b j k→XB b' j' k→b=b'∧j=j')→(∀k,E k→oS F w0 w φ st k)→
 ∃φ',aH F A w0 φ' (BJ B st) tm w∧φ'.β=β∧φ'.I=φ.I∧ ∀k,E k→oS F w0 w φ' (BJ B st) k
 |[],st,φ,hβ,h,_,_,_,hE=>⟨φ,h,hβ,rfl,hE⟩
 |(b,ms,ts)::r,st,φ,hβ,h,hp,hB,hX,hE=>by
  obtain⟨hw,hs,hf,RB,hnE,Ze,us,u1,u2,u3⟩:=hB b ms ts (.head _);have Zv:=List.pairwise_cons.1 hp
  obtain⟨φ1,m,l1,c1⟩:=mH (f:=WG b) (fun j=>by unfold WG;omega) (fun j j' e=>by unfold WG at e;omega) ts (Mb ms ts) 0 st φ us (XB b) h u1 (fun n c v hn hv=>by
   rw[MA (List.getElem?_eq_some_iff.1 hn).1];obtain⟨u,a1,a2,_⟩:=u3 n c hn;rw[hv] at a1;cases a1
   exact a2) (fun n k hn hk=>by
   obtain⟨u,_,_,a3⟩:=u3 n _ (aZ hn)
   exact(a3 k hk).1) (fun n n' k hn hn' hk hk'=>(hX b ms ts b ms ts n n' k (.head _) (.head _) hn hn' hk hk').2)
  have hβ1:φ1.β=β:=m.β.trans hβ
  have hput:=m.rel.aaq (b:=b) (cs:=(bC (WG b) (Mb ms ts) 0 ts st).1) hw (by rw[hβ1];exact hs) (by rw[hβ1];exact m.free _ hf fun⟨n,n1,n2⟩=>Ze b ms ts n (.head _) n1 n2) (fun j e he=>by
   have hj:j<us.length:=by rw[u1,←l1];exact(List.getElem?_eq_some_iff.1 he).1
   obtain⟨q1,q2,q3⟩:=u2 j _ (aZ hj)
   exact⟨_,by rw[hβ1];exact q1,q2,(c1 j e _ he (aZ hj)).1⟩) (fun j hj=>by
   have hj:j<us.length:=by rw[u1,←l1];exact hj
   rw[hβ1];exact(u2 j _ (aZ hj)).2.2)
  have stay: ∀k,oS F w0 w φ st k→(∀n,n<ts.length→ ¬XB b n k)→(β b).block≠k→oS F w0 w φ1 ((bC (WG b) (Mb ms ts) 0 ts st).2.C5 b (bC (WG b) (Mb ms ts) 0 ts st).1) k:=fun k hk hn hne=>
   (m.free k hk fun⟨n,n1,n2⟩=>hn n n1 n2).C5 (by rw[hβ1];exact hne)
  obtain⟨φ2,r1,r2,r3,r4⟩:=Ex (E:=E) (XB:=XB) r _ φ1 hβ1 hput Zv.2 (fun b' ms' ts' hm=>by
   obtain⟨a1,a2,a3,a4,a5,a6,us',v1,v2,v3⟩:=hB b' ms' ts' (.tail _ hm);have hne:b≠b':=Zv.1 _ hm;refine⟨a1,a2,stay _ a3 (fun n hn=>a6 b ms ts n (.head _) hn) (a4 b ms ts (.head _) hne),fun b2 ms2 ts2 hm2=>a4 b2 ms2 ts2 (.tail _ hm2),a5,fun b2 ms2 ts2 j hm2=>a6 b2 ms2 ts2 j (.tail _ hm2),us',v1,v2,fun j c hj=> ?_⟩;obtain⟨u,w1,w2,w3⟩:=v3 j c hj;have hjl:=(List.getElem?_eq_some_iff.1 hj).1;refine⟨u,w1,by rw[m.I];exact w2,fun k hk=>⟨stay k (w3 k hk).1 (fun n hn hx=> ?_) (fun e=> ?_),(w3 k hk).2⟩⟩
   ·exact hne (hX b ms ts b' ms' ts' n j k (.head _) (.tail _ hm) hn hjl hx hk).1
   ·exact Ze b' ms' ts' j (.tail _ hm) hjl (by rw[e];exact hk))
   (fun b1 ms1 ts1 b2 ms2 ts2 j j' k h1 h2=>hX b1 ms1 ts1 b2 ms2 ts2 j j' k (.tail _ h1) (.tail _ h2)) (fun k hk=>stay k (hE k hk) (fun n hn hx=>by
     obtain⟨u,_,_,a3⟩:=u3 n _ (aZ hn)
     exact(a3 k hx).2 hk) (fun e=>hnE (by rw[e];exact hk)))
  exact⟨φ2,r1,r2,r3.trans m.I,r4⟩
theorem pG {ms:List Mode}: ∀{cs:List TC} {vs:List Value} {n:Nat} {c:TC} {v:Value},cs[n]?=some c→vs[n]?=some v→(cz ms cs vs)[n]?=some (ms.getD n .snap,c,v):=by
 intro cs
 induction cs generalizing ms with
 |nil=>intro vs n c v h;simp at h
 |cons c0 cs ih=>
  intro vs n c v h1 h2
  cases vs with
  |nil=>simp at h2
  |cons v0 vs=>
   cases n with
   |zero=>simp only[cZ,aU] at h1 h2;subst h1 h2;simp only[cz,cZ,pn]
   |succ n=>
    simp only[cz,oV] at h1 h2 ⊢;rw[ih (ms:=ms.drop 1) h1 h2,jK]
theorem JN {ob:List (Nat×OB)} {a:Nat} {cs:List TC} {u:Value} (hc:Mz a cs u) {cs':List CE} (hl:cs'.length=cs.length) (hce: ∀(n:Nat) (e:CE) (v:Value),cs'[n]?=some e→u.cells.toList[n]?=some v→cq ob w φ e v) (h1: ∀v∈u.cells.toList,v.cells= #[v]):jJ ob w φ (.mk (Nat.beq a 1) cs') u:=by
 obtain⟨ha,hsz,hag,hno⟩:=hc
 match a,ha with
 |0,_=>
  have hu:=hno eO;rw[hu] at hsz
  have C4:cs'.length=1:=by rw[hl];simpa using hsz.symm
  match cs',C4 with
  |[e],_=>exact⟨e,rfl,hu,hce 0 e u rfl (by rw[hu];rfl)⟩
 |1,_=>
  obtain⟨xs,rfl⟩:=hag rfl;have hsz:xs.size=cs.length:=hsz;refine⟨xs,rfl,by rw[hl];exact hsz,fun j e he=> ?_⟩
  have hj:j<xs.size:=by rw[hsz,←hl];exact(List.getElem?_eq_some_iff.1 he).1
  have hx:(Value.agg xs).cells.toList[j]?=some xs[j]:=by show xs.toList[j]?=_;simp[hj]
  exact⟨xs[j],qw hj,h1 _ (fC hx),hce j e _ he hx⟩
theorem Ge {d k j j':Nat} (h:oR d k j=oR d k j'):j=j':=by unfold oR at h;omega
theorem SH {d k k':Nat} (h:qI d k=qI d k'):k=k':=by unfold qI at h;omega
theorem MJ (d k:Nat):u0 (qI d k)=true:=by
 unfold u0 qI;rw[show Nat.ble 200000 (400000+20*d+k)=true from Gq ax];exact Gq ax
structure Av (F:Nat→Prop) (A:Arg) (w0 w:World) (φ φ':Fp) (st st':TS) (tm:Array Value) (nums nb Xs:Nat→Prop):Prop where
 rel:aH F A w0 φ' st' tm w
 β: ∀b,¬nb b→φ'.β b=φ.β b
 I:φ'.I=φ.I
 keep: ∀e v,cq st.ob w φ e v→(∀o∈ee e,¬nums o)→cq st'.ob w φ' e v
 free: ∀k,oS F w0 w φ st k→ ¬Xs k→oS F w0 w φ' st' k
theorem Made.toB {nums nb Xs:Nat→Prop} (h:Made F A w0 w φ φ' st st' tm nums Xs):Av F A w0 w φ φ' st st' tm nums nb Xs:=⟨h.rel,fun b _=>by rw[h.β],h.I,h.keep,h.free⟩
theorem Av.trans {φ2:Fp} {n1 n2 b1 b2 X1 X2 nums nb Xs:Nat→Prop} (h:Av F A w0 w φ φ1 st cG tm n1 b1 X1) (k:Av F A w0 w φ1 φ2 cG lR tm n2 b2 X2) (hn: ∀o,n1 o∨n2 o→nums o) (hb: ∀o,b1 o∨b2 o→nb o) (hX: ∀x,X1 x∨X2 x→Xs x):Av F A w0 w φ φ2 st lR tm nums nb Xs:=
 ⟨k.rel,fun b RC=>(k.β b fun hc=>RC (hb b (.inr hc))).trans (h.β b fun hc=>RC (hb b (.inl hc))),k.I.trans h.I,fun e v he hd=>k.keep e v (h.keep e v he fun o ho hc=>hd o ho (hn o (.inl hc))) fun o ho hc=>hd o ho (hn o (.inr hc)),
   fun x hf hx=>k.free x (h.free x hf fun hc=>hx (hX x (.inl hc))) fun hc=>hx (hX x (.inr hc))⟩
theorem JO (h:aH F A w0 φ st tm w) {b:Nat} {cs:List CE} {ad:Addr} (hw:u0 b=true) (hs:ad.spot=none) (hf:oS F w0 w φ st ad.block)
 (hc: ∀(j:Nat) (e:CE),cs[j]?=some e→ ∃v,w.cell? (ad.add j)=some v∧v.cells= #[v]∧cq st.ob w φ e v) (hz: ∀j,j<cs.length→w.frozen? (ad.add j)=false):
 Av F A w0 w φ (φ.box b ad) st (C6 b cs st) tm (fun _=>False) (fun x=>x=b) (fun x=>x=ad.block):=by
 refine⟨h.C6 hw hs hf.lt hf.S hf.I hf.new (fun b' cs' hb' _=>hf.B b' cs' hb') hc hz,fun b' hb'=> ?_,rfl,fun e v he _=>(by cases e<;>exact he),fun k hk hx=>⟨hk.lt,hk.new,hk.I,hk.S,fun c cs' hl=> ?_⟩⟩
 ·show(if b'=b then ad else φ.β b')=_
  rw[aF hb']
 ·have hl:aa c (kX b cs (ni b st.bx))=some cs':=hl
  show((if c=b then ad else φ.β c)).block≠k;rw[dD,fI] at hl
  by_cases hcb:c=b
  ·rw[aP hcb];exact fun e=>hx e.symm
  ·rw[aF hcb,aF hcb] at hl
   rw[aF hcb];exact hk.B c cs' hl
theorem ke.shift {X:Nat→Nat→Prop} {a:Nat}: ∀{vs:List (Nat×List TC)} {n:Nat} {ms:List (List Mode)} {us:List Value} {cc:List It},ke w X (a+n) ms vs us cc→ke w (fun i=>X (a+i)) n ms vs us cc
 |[],n,ms,[],cc,h=>by cases ms<;>exact h
 |[],n,ms,_::_,cc,h=>by cases ms<;>exact h.elim
 |(_,_)::_,n,ms,[],cc,h=>by cases ms<;>exact h.elim
 |(a',cs)::r,n,ms,u::us,cc,h=>by
  obtain⟨a0,b,h1,h2,h3⟩:=h;rw[jA] at h3;exact⟨a0,b,h1,h2,h3.shift⟩
theorem Ey {d:Nat}: ∀(vs:List (Nat×List TC)) (k:Nat) (ms:List (List Mode)) (st:TS) (φ:Fp) (us:List Value) (cc:List It) (X:Nat→Nat→Prop),aH F A w0 φ st tm w→ke w X 0 ms vs us cc→zC vs=true→
 (∀(n:Nat) (it:It),cc[n]?=some it→ai w φ.I it.1 (X n) it.2.1 it.2.2)→(∀n x,n<cc.length→X n x→oS F w0 w φ st x)→(∀n n' x,n<cc.length→n'<cc.length→X n x→X n' x→n=n')→
 ∃φ',Av F A w0 w φ φ' st (eP d k ms vs st).2 tm (fun o=> ∃k' j,k≤k'∧j<20∧o=oR d k' j) (fun b=> ∃k',k≤k'∧b=qI d k') (fun x=> ∃n,n<cc.length∧X n x)∧(eP d k ms vs st).1.length=vs.length∧us.length=vs.length∧
  ∀(n:Nat) (c:nh) (u:Value),(eP d k ms vs st).1[n]?=some c→us[n]?=some u→jJ (eP d k ms vs st).2.ob w φ' c u
 |[],k,ms,st,φ,us,cc,X,h,hc,hs,_,_,_=>by
  cases us with
  |nil=>exact⟨φ,(Made.refl h).toB,rfl,rfl,fun n c u hn=>by simp[eP] at hn⟩
  |cons u us=>cases ms<;>exact hc.elim
 |(a,cs)::r,k,ms,st,φ,us,cc,X,h,hc,hs,hi,hF,hd=>by
  cases us with
  |nil=>cases ms<;>exact hc.elim
  |cons u us=>
   obtain⟨a0,b,rfl,Iy,Qn⟩:=hc;have Qn:=ke.shift (n:=0) (by rw[ic] at Qn;exact Qn)
   have TO:cs.length≤20∧zC r=true:=by
    simp only[zC] at hs
    split at hs
    ·exact⟨ou ZP,hs⟩
    ·cases hs
   have tail: ∀{φ1:Fp} {cG:TS} {nums nb:Nat→Prop},Av F A w0 w φ φ1 st cG tm nums nb (fun x=> ∃n,n<a0.length∧X n x)→(∀o,nums o→ ∃j,j<20∧o=oR d k j)→(∀o,nb o→o=qI d k)→
    ∃φ',Av F A w0 w φ φ' st (eP d (k+1) (ms.drop 1) r cG).2 tm (fun o=> ∃k' j,k≤k'∧j<20∧o=oR d k' j) (fun b=> ∃k',k≤k'∧b=qI d k') (fun x=> ∃n,n<(a0++b).length∧X n x)∧
     Av F A w0 w φ1 φ' cG (eP d (k+1) (ms.drop 1) r cG).2 tm (fun o=> ∃k' j,k+1≤k'∧j<20∧o=oR d k' j) (fun b=> ∃k',k+1≤k'∧b=qI d k') (fun x=> ∃n,n<b.length∧X (a0.length+n) x)∧
     (eP d (k+1) (ms.drop 1) r cG).1.length=r.length∧us.length=r.length∧
     ∀(n:Nat) (c:nh) (u:Value),(eP d (k+1) (ms.drop 1) r cG).1[n]?=some c→us[n]?=some u→jJ (eP d (k+1) (ms.drop 1) r cG).2.ob w φ' c u:=fun {φ1 cG nums nb} m1 abl Zc=>by
    obtain⟨φ2,m2,l2,l3,c2⟩:=Ey (d:=d) r (k+1) (ms.drop 1) cG φ1 us b (fun n=>X (a0.length+n)) m1.rel Qn TO.2 (fun n it hn=>by
     rw[m1.I]
     exact hi (a0.length+n) it (by rw[kr ax,Nat.add_sub_cancel_left];exact hn)) (fun n x hn hx=>m1.free x (hF (a0.length+n) x (by rw[bX];omega) hx) fun⟨n',n1,n2⟩=>by
     have:=hd n' (a0.length+n) x (by rw[bX];omega) (by rw[bX];omega) n2 hx
     omega) (fun n n' x hn hn' hx hx'=>by
     have:=hd (a0.length+n) (a0.length+n') x (by rw[bX];omega) (by rw[bX];omega) hx hx'
     omega)
    refine⟨φ2,m1.trans m2 (fun o ho=> ?_) (fun o ho=> ?_) (fun x hx=> ?_),m2,l2,l3,c2⟩
    ·rcases ho with ho|⟨k',j,n1,n2,n3⟩
     ·obtain⟨j,j1,j2⟩:=abl o ho
      exact⟨k,j,bI _,j1,j2⟩
     ·exact⟨k',j,by omega,n2,n3⟩
    ·rcases ho with ho|⟨k',n1,n3⟩
     ·exact⟨k,bI _,Zc o ho⟩
     ·exact⟨k',by omega,n3⟩
    ·rcases hx with⟨n,n1,n2⟩|⟨n,n1,n2⟩
     ·exact⟨n,by rw[bX];omega,n2⟩
     ·exact⟨a0.length+n,by rw[bX];omega,n2⟩
   rcases Iy with⟨hn2,Iy,rfl⟩|⟨rfl,ad,us0,rfl,qE,F2,Ir,Ui,rfl⟩
   ·have F2:u.cells.toList.length=cs.length:=by rw[rj];exact Iy.2.1
    have hcl:(cz (ms.headD []) cs u.cells.toList).length=cs.length:=jL F2.symm
    obtain⟨φ1,m1,l1,c1⟩:=mH (f:=oR d k) (fun j=>by unfold oR;omega) (fun j j' e=>Ge e) cs (ms.headD []) 0 st φ u.cells.toList X h F2 (fun n c v hn hv=>by
     have:=hi n _ (by rw[iR (by rw[hcl];exact(List.getElem?_eq_some_iff.1 hn).1)];exact pG hn hv)
     exact this) (fun n x hn hx=>hF n x (by rw[bX,hcl];omega) hx) (fun n n' x hn hn' hx hx'=>hd n n' x (by rw[bX,hcl];omega) (by rw[bX,hcl];omega) hx hx')
    obtain⟨φ2,m,m2,l2,l3,c2⟩:=tail (nums:=fun o=> ∃n,0≤n∧n<0+cs.length∧o=oR d k n) (nb:=fun _=>False) (by rw[hcl];exact m1.toB) (fun o ⟨n,_,n2,n3⟩=>⟨n,by omega,n3⟩) (fun o ho=>ho.elim);have hb2:Nat.beq a 2=false:=beq_false hn2
    have Wq:eP d k ms ((a,cs)::r) st=(.mk (Nat.beq a 1) (bC (oR d k) (ms.headD []) 0 cs st).1::(eP d (k+1) (ms.drop 1) r (bC (oR d k) (ms.headD []) 0 cs st).2).1,(eP d (k+1) (ms.drop 1) r (bC (oR d k) (ms.headD []) 0 cs st).2).2):=by
     simp only[eP,hb2]
    rw[Wq];refine⟨φ2,m,by simp only[ez];rw[l2],by simp only[ez];rw[l3],fun n c v hn hv=> ?_⟩
    cases n with
    |zero=>
     simp only[cZ,aU] at hn hv;subst hn hv;refine JN Iy l1 (fun n e v he hv=> ?_) fun v hv=> ?_
     ·obtain⟨q1,q2⟩:=c1 n e v he hv
      refine m2.keep e v q1 fun o ho ⟨k',j,n1,n2,n3⟩=> ?_;obtain⟨n',_,n4,n5⟩:=q2 o ho;rw[n5] at n3;unfold oR at n3;omega
     ·obtain⟨n,hn,rfl⟩:=List.mem_iff_getElem.1 hv
      have hn':n<cs.length:=by rw[←F2];exact hn
      have:=hi n _ (by rw[iR (by rw[hcl];exact hn')];exact pG (aZ hn') (aZ hn));exact this.cells
    |succ n=>exact c2 n c v (by simpa using hn) (by simpa using hv)
   ·have hcl:(cz (ms.headD []) cs us0).length=cs.length:=jL F2.symm
    have hit: ∀{n:Nat} {it:It},(cz (ms.headD []) cs us0)[n]?=some it→((KP::cz (ms.headD []) cs us0)++b)[1+n]?=some it:=fun {n it} hn=>by
     rw[iR (by rw[ez];have:=(List.getElem?_eq_some_iff.1 hn).1;omega),show 1+n=n+1 by omega,oV];exact hn
    have hlt: ∀{n:Nat},n<cs.length→1+n<((KP::cz (ms.headD []) cs us0)++b).length:=fun {n} hn=>by rw[bX,ez,hcl];omega
    obtain⟨φ1,m1,l1,c1⟩:=mH (f:=oR d k) (fun j=>by unfold oR;omega) (fun j j' e=>Ge e) cs (ms.headD []) 0 st φ us0 (fun n=>X (1+n)) h F2 (fun n c v hn hv=>hi (1+n) _ (hit (pG hn hv)))
     (fun n x hn hx=>hF (1+n) x (hlt hn) hx) (fun n n' x hn hn' hx hx'=>by have:=hd (1+n) (1+n') x (hlt hn) (hlt hn') hx hx';omega)
    have hfree:oS F w0 w φ1 (bC (oR d k) (ms.headD []) 0 cs st).2 ad.block:=m1.free _ (hF 0 _ eO Ui) fun⟨n,n1,n2⟩=>by
     have:=hd 0 (1+n) _ eO (hlt n1) Ui n2;omega
    have mb:=JO m1.rel (b:=qI d k) (cs:=(bC (oR d k) (ms.headD []) 0 cs st).1) (MJ d k) qE hfree (fun j e he=>by
     have hj:j<us0.length:=by rw[F2,←l1];exact(List.getElem?_eq_some_iff.1 he).1
     obtain⟨q1,q2,q3⟩:=Ir j _ (aZ hj)
     exact⟨_,q1,q2,(c1 j e _ he (aZ hj)).1⟩) (fun j hj=>by
     have hj:j<us0.length:=by rw[F2,←l1];exact hj
     exact(Ir j _ (aZ hj)).2.2)
    have m12:=(m1.toB (nb:=fun _=>False)).trans mb (nums:=fun o=> ∃n,0≤n∧n<0+cs.length∧o=oR d k n) (nb:=fun x=>x=qI d k) (Xs:=fun x=> ∃n,n<(KP::cz (ms.headD []) cs us0).length∧X n x) (fun o ho=>ho.elim id fun hx=>hx.elim) (fun o ho=>ho.elim (fun hx=>hx.elim) id) (fun x hx=>by
     rcases hx with⟨n,n1,n2⟩|hx
     ·exact⟨1+n,by rw[ez,hcl];omega,n2⟩
     ·exact⟨0,by simp,by rw[hx];exact Ui⟩)
    obtain⟨φ2,m,m2,l2,l3,c2⟩:=tail m12 (fun o ⟨n,_,n2,n3⟩=>⟨n,by omega,n3⟩) (fun o ho=>ho);have Wq:eP d k ms ((2,cs)::r) st=(.ptr (qI d k)::(eP d (k+1) (ms.drop 1) r (C6 (qI d k) (bC (oR d k) (ms.headD []) 0 cs st).1 (bC (oR d k) (ms.headD []) 0 cs st).2)).1,(eP d (k+1) (ms.drop 1) r (C6 (qI d k) (bC (oR d k) (ms.headD []) 0 cs st).1 (bC (oR d k) (ms.headD []) 0 cs st).2)).2):=rfl;rw[Wq];refine⟨φ2,m,by simp only[ez];rw[l2],by simp only[ez];rw[l3],fun n c v hn hv=> ?_⟩
    cases n with
    |zero=>
     simp only[cZ,aU] at hn hv;subst hn hv;show Value.pointer (some ad)=Value.pointer (some (φ2.β (qI d k)));rw[m2.β _ fun⟨k',n1,n2⟩=>by have:=SH n2;omega];show _=Value.pointer (some (if qI d k=qI d k then ad else _));rw[aP rfl]
    |succ n=>exact c2 n c v (by simpa using hn) (by simpa using hv)
theorem SI {d:Nat} {ms:List (List Mode)} {r:TV} {v:Value} {cc:List It} {X:Nat→Nat→Prop} (h:aH F A w0 φ st tm w) (hr:JE w X ms r v cc) (hi: ∀(n:Nat) (it:It),cc[n]?=some it→ai w φ.I it.1 (X n) it.2.1 it.2.2) (hF: ∀n x,n<cc.length→X n x→oS F w0 w φ st x)
 (hd: ∀n n' x,n<cc.length→n'<cc.length→X n x→X n' x→n=n') (hdt:d<tm.size) {st':TS} (ht:RP d ms r st=some st'):Rel F A w0 st' (tm.setIfInBounds d v) w:=by
 have one: ∀(a:Nat) (cs:List TC),Mz a cs v→cc=cz (ms.headD []) cs v.cells.toList→Rel F A w0 ((bC (oR d 0) (ms.headD []) 0 cs st).2.set d (.v false [.mk (Nat.beq a 1) (bC (oR d 0) (ms.headD []) 0 cs st).1])) (tm.setIfInBounds d v) w:=fun a cs Iy he=>by
  subst he
  have F2:v.cells.toList.length=cs.length:=by rw[rj];exact Iy.2.1
  have hcl:(cz (ms.headD []) cs v.cells.toList).length=cs.length:=jL F2.symm
  obtain⟨φ1,m1,l1,c1⟩:=mH (f:=oR d 0) (fun j=>by unfold oR;omega) (fun j j' e=>Ge e) cs (ms.headD []) 0 st φ v.cells.toList X h F2 (fun n c u hn hv=>hi n _ (pG hn hv)) (fun n x hn hx=>hF n x (by rw[hcl];exact hn) hx)
   (fun n n' x hn hn' hx hx'=>hd n n' x (by rw[hcl];exact hn) (by rw[hcl];exact hn') hx hx')
  refine⟨φ1,m1.rel.IB hdt ⟨_,rfl,JN Iy l1 (fun n e u he hv=>(c1 n e u he hv).1) fun u hu=> ?_⟩⟩;obtain⟨n,hn,rfl⟩:=List.mem_iff_getElem.1 hu
  have hn':n<cs.length:=by rw[←F2];exact hn
  exact(hi n _ (pG (aZ hn') (aZ hn))).cells
 cases r with
 |c c=>obtain⟨h1,h2⟩:=hr;cases ht;exact one 0 [c] h1 h2
 |ag cs=>obtain⟨h1,h2⟩:=hr;cases ht;exact one 1 cs h1 h2
 |bx cs=>
  have hc:ke w X 0 ms [(2,cs)] [v] cc:=⟨cc,[],by simp,.inr ⟨rfl,hr⟩,by cases ms.drop 1<;>rfl⟩;have TO: ∃b,zC [(2,cs)]=b:=⟨_,rfl⟩;obtain⟨ad,us0,rfl,qE,F2,Ir,Ui,rfl⟩:=hr
  cases ht
  have hcl:(cz (ms.headD []) cs us0).length=cs.length:=jL F2.symm
  have hit: ∀{n:Nat} {it:It},(cz (ms.headD []) cs us0)[n]?=some it→(KP::cz (ms.headD []) cs us0)[1+n]?=some it:=fun {n it} hn=>by
   rw[show 1+n=n+1 by omega,oV];exact hn
  have hlt: ∀{n:Nat},n<cs.length→1+n<(KP::cz (ms.headD []) cs us0).length:=fun {n} hn=>by rw[ez,hcl];omega
  obtain⟨φ1,m1,l1,c1⟩:=mH (f:=oR d 0) (fun j=>by unfold oR;omega) (fun j j' e=>Ge e) cs (ms.headD []) 0 st φ us0 (fun n=>X (1+n)) h F2 (fun n c v hn hv=>hi (1+n) _ (hit (pG hn hv)))
   (fun n x hn hx=>hF (1+n) x (hlt hn) hx) (fun n n' x hn hn' hx hx'=>by have:=hd (1+n) (1+n') x (hlt hn) (hlt hn') hx hx';omega)
  have hfree:oS F w0 w φ1 (bC (oR d 0) (ms.headD []) 0 cs st).2 ad.block:=m1.free _ (hF 0 _ eO Ui) fun⟨n,n1,n2⟩=>by
   have:=hd 0 (1+n) _ eO (hlt n1) Ui n2;omega
  have mb:=JO m1.rel (b:=qI d 0) (cs:=(bC (oR d 0) (ms.headD []) 0 cs st).1) (MJ d 0) qE hfree (fun j e he=>by
   have hj:j<us0.length:=by rw[F2,←l1];exact(List.getElem?_eq_some_iff.1 he).1
   obtain⟨q1,q2,q3⟩:=Ir j _ (aZ hj)
   exact⟨_,q1,q2,(c1 j e _ he (aZ hj)).1⟩) (fun j hj=>by
   have hj:j<us0.length:=by rw[F2,←l1];exact hj
   exact(Ir j _ (aZ hj)).2.2)
  refine⟨_,mb.rel.IB hdt ?_⟩;show Value.pointer (some ad)=Value.pointer (some ((if qI d 0=qI d 0 then ad else _).add 0));rw[aP rfl,Addr.add_zero']
 |tu vs=>
  obtain⟨us,rfl,hc⟩:=hr;simp only[RP] at ht
  split at ht
  ·rename_i hs
   cases ht
   obtain⟨φ1,m1,l1,l2,c1⟩:=Ey (d:=d) vs 0 ms st φ us.toList cc X h hc hs hi hF hd;refine⟨φ1,m1.rel.IB hdt ⟨us,rfl,by rw[l1,←l2];simp,fun n c hn=> ?_⟩⟩
   have hnl:n<us.toList.length:=by rw[l2,←l1];exact(List.getElem?_eq_some_iff.1 hn).1
   have hnu:n<us.size:=by simpa using hnl
   exact⟨us[n],qw hnu,c1 n c _ hn (by simp[hnu])⟩
  ·cases ht
 |_=>cases ht
end Go.T
namespace Go.T
variable {F : Nat → Prop} {A : Arg} {w0 w w' : World} {φ φ' φ1 : Fp} {st st' sta cG lR : TS} {tm AK : Array Value} {C : jC}
variable {R : Type} {cf : Cf} {lp : Lp} {Q : R → Prop}
def GZ (n:Nat) (o:Oper):Bool:=match o.dst with|some d=>Nat.blt d n|none=>true
def EU (n:Nat):List Oper→Bool
 |[]=>true
 |o::r=>match GZ n o with|true=>EU n r|false=>false
def p8 (n:Nat):Code→Bool
 | .region _ ops _=>EU n ops.toList
 | .seq a b=>match p8 n a with|true=>p8 n b|false=>false
 | .cond _ a b=>match p8 n a with|true=>p8 n b|false=>false
 | .block _ b=>p8 n b
 | .loop b=>p8 n b
 |_=>true
structure COk (C:jC):Prop where
 ty:ef C
 name: ∀(f:Nat) (fn:Func),C.P.funcs[f]?=some fn→(fn.name== "runtime.NumGoroutine")=false
 dst: ∀(f:Nat) (fn:Func) (c:Code),C.P.funcs[f]?=some fn→fn.body=some c→p8 fn.ntmps c=true
structure Dq (C:jC) (f:FuncId) (vs:List TV) (r:TV) (fs:List TV):Prop where
 body: ∃fn c,C.P.funcs[f]?=some fn∧fn.body=some c
 calls: ∀(w:World) (xs:List Value) (Rg BB:Nat→Prop) (X:Nat→Nat→Nat→Prop) (Y:Nat→Nat→Prop),KO w (C.sig f).ps vs xs Rg BB X Y→(C.sig f).ps.length=xs.length→
  Calls C.P f xs.toArray w fun e w'=> ∃v,e= .returned v∧Ep (p7 X Y) (Ar true Rg BB) w w' (C.sig f) xs r fs v
def G0 (C:jC) (cf:Cf):Prop:= ∀f vs r fs,cf f vs r fs→Dq C f vs r fs
theorem KY (hC:COk C) {f:FuncId} {args:Array Value} (h: ∃fn c,C.P.funcs[f]?=some fn∧fn.body=some c):(callFunc f args).run C.P w= .ok (.enter f args) w:=by
 obtain⟨fn,c,h1,h2⟩:=h;unfold callFunc;simp only[Sem.run_bind];have:(program:Sem Program).run C.P w= .ok C.P w:=rfl;rw[this];simp only[Result.andThen,h1,hC.name f fn h1,h2]
 rfl
theorem MK {ps:List bu} {es:List TE} {own jY:List Nat} (h:aH F A w0 φ st tm w) (Ug:v7 st ps es=some (own,jY)) {xs:List Value} (Eh: ∀(i:Nat) (e:TE),es[i]?=some e→ ∃x,xs[i]?=some x∧bP st.ob w φ e x) {k:Nat} (hk:p7 (Ot w φ st ps es) (PT φ ps es) k):
 Wr st φ (nR st ps es) k:=by
 have g:=vo Ug
 have mem: ∀{ps:List bu} {es:List TE} {i:Nat} {p:bu} {e:TE} {x:Nat},ps[i]?=some p→es[i]?=some e→p≠ .borrow→x∈yz st e→x∈nR st ps es:=by
  intro ps
  induction ps with
  |nil=>intro es i p e x h;simp at h
  |cons q ps ih=>
   intro es i p e x h1 h2 h3 h4
   cases es with
   |nil=>simp at h2
   |cons e0 es=>
    cases i with
    |zero=>
     simp only[cZ,aU] at h1 h2;subst h1 h2
     cases q with
     |borrow=>exact absurd rfl h3
     |inout ms=>exact gr _ h4
     |consume ms=>exact gr _ h4
    |succ i=>
     have:=ih (by simpa using h1) (by simpa using h2) h3 h4
     cases q with
     |borrow=>exact this
     |inout ms=>exact lG _ this
     |consume ms=>exact lG _ this
 rcases hk with⟨i,j,hx⟩|⟨i,hy⟩
 ·obtain⟨p,e,e',o,l,h1,h2,h3,h4,h5,h6,h7,h8,_⟩:=B6 h g Eh hx
  refine .inr ⟨o,mem h1 h2 h3 ?_,h6,h7⟩
  have TZ:o∈ee e':=by
   cases e' with
   |ref o1 cut=>cases h5;exact .head _
   |snap ds loc z rows=>cases loc with
    |none=>cases h5
    |some q=>
     obtain⟨o1,i1,f1⟩:=q
     cases h5
     obtain⟨x,_,ht⟩:=Eh i e h2;obtain⟨v,hv⟩:=wq h ht h4;exact(hv.2.2 o i1 f1 rfl).1
   |_=>cases h5
  have ok:=Dp h8;rcases ok.form with⟨b,rfl⟩|⟨_,ag,cs,rfl,_⟩
  ·obtain⟨_,_,_,_,Ej,_⟩:=ok.bx b 0 rfl
   simp only[yz,Kw,Ej];exact .tail _ (List.mem_map.2 ⟨o,List.mem_flatMap.2 ⟨e',fC h4,TZ⟩,rfl⟩)
  ·simp only[yz,fH,lX]
   exact List.mem_map.2 ⟨o,List.mem_flatMap.2 ⟨e',fC h4,TZ⟩,rfl⟩
 ·obtain⟨p,b,h1,h2,h3,rfl⟩:=hy
  obtain⟨l,ok,_⟩:=g.ow i p _ h1 h2 h3;obtain⟨_,_,Aj,_,Ej,_⟩:=ok.bx b 0 rfl;refine .inl ⟨b,_,mem h1 h2 h3 ?_,Ej,Aj,rfl⟩;simp only[yz,Kw,Ej];exact .head _
theorem tj: ∀{cs:List TC} {ms:List Mode} {j:Nat} {c:TC},mF ms cs=true→cs[j]?=some c→(∃v,c= .sc v)∨ms.getD j .snap= .deep
 |[],_,_,_,_,h=>by simp at h
 | .sc v::r,ms,0,c,ht,h=>by simp only[cZ,aU] at h;exact .inl ⟨v,h.symm⟩
 | .sc v::r,ms,j+1,c,ht,h=>by
   have:=tj (ms:=ms.drop 1) ht (by simpa using h)
   rwa [jK] at this
 | .sub z rows::r,ms,j,c,ht,h=>by
   simp only[mF] at ht
   split at ht
   ·rename_i hm
    cases j with
    |zero=>rw[pn] at hm;exact .inr hm
    |succ j=>
     have:=tj (ms:=ms.drop 1) ht (by simpa using h)
     rwa [jK] at this
   ·cases ht
 | .any::r,ms,j,c,ht,h=>by
   simp only[mF] at ht
   split at ht
   ·rename_i hm
    cases j with
    |zero=>rw[pn] at hm;exact .inr hm
    |succ j=>
     have:=tj (ms:=ms.drop 1) ht (by simpa using h)
     rwa [jK] at this
   ·cases ht
def zL (it:It):Prop:=it.1= .deep∨ ∃v,it.2.1= .sc v
theorem og {ms:List Mode} {cs:List TC} {vs:List Value} (ht:mF ms cs=true) {i:Nat} {it:It} (h:(cz ms cs vs)[i]?=some it):zL it:=by
 obtain⟨c,v,h1,h2,rfl⟩:=QD h;exact(tj ht h1).elim .inr .inl
theorem JP {X:Nat→Nat→Prop} {n:Nat} {m:List Mode} {cs:List TC} {u:Value} {cc:List It} (h:JD w X n m cs u cc) (ht:mF m cs=true): ∀it∈cc,zL it:=by
 obtain⟨_,us,_,_,_,_,_,rfl⟩:=h;intro it hi;rcases cw.1 hi with rfl|hi
 ·exact .inl rfl
 ·obtain⟨i,hi⟩:=List.mem_iff_getElem?.1 hi
  exact og ht hi
theorem Ez {X:Nat→Nat→Prop}: ∀{vs:List (Nat×List TC)} {n:Nat} {ms:List (List Mode)} {us:List Value} {cc:List It},ke w X n ms vs us cc→Gb ms vs=true→ ∀it∈cc,zL it
 |[],n,ms,[],cc,h,_=>by
  have h:cc=[]:=by cases ms<;>exact h
  rw[h];intro it hi;cases hi
 |[],n,ms,_::_,cc,h,_=>by cases ms<;>exact h.elim
 |(_,_)::_,n,ms,[],cc,h,_=>by cases ms<;>exact h.elim
 |(a,cs)::r,n,ms,u::us,cc,h,ht=>by
  obtain⟨a0,b,rfl,h2,h3⟩:=h;simp only[Gb] at ht
  split at ht
  ·rename_i hcs
   intro it hi;rcases List.mem_append.1 hi with hi|hi
   ·rcases h2 with⟨_,_,rfl⟩|⟨_,hb⟩
    ·obtain⟨i,hi⟩:=List.mem_iff_getElem?.1 hi
     exact og hcs hi
    ·exact JP hb hcs it hi
   ·exact Ez h3 ht it hi
  ·cases ht
theorem QT {X:Nat→Nat→Prop} {ms:List (List Mode)} {r:TV} {v:Value} {cc:List It} (h:JE w X ms r v cc) (ht:Pu ms r=true): ∀it∈cc,zL it:=by
 cases r with
 |c c=>obtain⟨_,rfl⟩:=h;intro it hi;obtain⟨i,hi⟩:=List.mem_iff_getElem?.1 hi;exact og ht hi
 |ag cs=>obtain⟨_,rfl⟩:=h;intro it hi;obtain⟨i,hi⟩:=List.mem_iff_getElem?.1 hi;exact og ht hi
 |bx cs=>exact JP h ht
 |tu vs=>obtain⟨_,_,h⟩:=h;exact Ez h ht
 |_=>exact h.elim
theorem JQ {cs:List TC}:mF (Mb [] cs) cs=true:=by
 induction cs with
 |nil=>rfl
 |cons c r ih=>cases c<;>exact ih
theorem zM {NB:Nat→Prop}: ∀{ps:List bu} {xs:List Value} {fs:List TV} {cc:List It},td w NB ps xs fs cc→Kv ps=true→ ∀it∈cc,zL it
 |[],[],fs,cc,h,_=>by rw[h.2];intro it hi;cases hi
 |[],_::_,_,_,h,_=>h.elim
 |_::_,[],_,_,h,_=>h.elim
 |p::ps,x::xs,fs,cc,h,ht=>by
  cases p with
  |inout ms=>
   cases ms with
   |cons m ms=>cases ht
   |nil=>
    cases fs with
    |nil=>exact h.elim
    |cons f fs=>
     obtain⟨a,b,rfl,h2,h3⟩:=h;intro it hi;rcases List.mem_append.1 hi with hi|hi
     ·cases f with
      |c c=>rw[h3.2] at hi;simp only[jz] at hi;rw[hi];exact .inl rfl
      |ag cs=>obtain⟨_,ys,_,_,rfl⟩:=h3;obtain⟨i,hi⟩:=List.mem_iff_getElem?.1 hi;exact og JQ hi
      |bx cs=>obtain⟨ad,us,_,_,_,_,rfl⟩:=h3;obtain⟨i,hi⟩:=List.mem_iff_getElem?.1 hi;exact og JQ hi
      |_=>exact h3.elim
     ·exact zM h2 ht it hi
  |borrow=>exact zM (ps:=ps) (xs:=xs) (fs:=fs) h ht
  |consume _=>exact zM (ps:=ps) (xs:=xs) (fs:=fs) h ht
theorem Ep.tight {F:Nat→Prop} {Rg BB:Nat→Prop} {g:Qu} {args:List Value} {r:TV} {fs:List TV} {v:Value} (h:Ep F (Ar true Rg BB) w0 w g args r fs v) (ht:NZ g r=true):Ep F (Ar g.shares Rg BB) w0 w g args r fs v:=by
 unfold NZ at ht
 cases hs:g.shares with
 |true=>exact h
 |false=>
  rw[hs] at ht;simp only at ht
  split at ht
  ·rename_i hps
   obtain⟨frm,I,X,ri,fi,hb,hr,hf⟩:=h;refine⟨frm,fun _=>False,X,ri,fi,⟨fun i it hi=> ?_,fun i k hi hk=>⟨(hb.rng i k hi hk).1,(hb.rng i k hi hk).2.1,id⟩,hb.apart,fun k hk=>hk.elim⟩,hr,hf.mono fun k hk=>⟨id,hk.2⟩⟩;have hc:=hb.ok i it hi;have:zL it:=(List.mem_append.1 (fC hi)).elim (QT hr ht it) (zM hf hps it);obtain⟨m,c,u⟩:=it;rcases this with e|⟨y,e⟩
   ·have e:m= .deep:=e
    subst e;exact hc.As rfl
   ·have e:c= .sc y:=e
    subst e;have hc:ai w I m (X i) (.sc y) u:=hc
    cases hc with|sc _ _ _ h=>exact .sc _ _ _ h
  ·cases ht
theorem EA (hC:COk C) (Ak:G0 C cf) {a:Act} (h:aH F A w0 φ st a.tmps w) {o:Oper} {f:FuncId} {es:List TE} {xs:List Value} (hlen:es.length=xs.length) (Eh: ∀(i:Nat) (e:TE),es[i]?=some e→ ∃x,xs[i]?=some x∧bP st.ob w φ e x)
 (Zw:(execOp a.eval o).run C.P w=(callFunc f xs.toArray).run C.P w) (VL:writes C st o=nR st (C.sig f).ps es) {K:TS→Ev R} (hd: ∀d,o.dst=some d→d<a.tmps.size) (hk:(BK C o.dst f es st K).holds cf lp Q) {Kc:Act→World→Prop} {Qc:Exit→Act→World→Prop}
 (hK: ∀st' v w',Rel F A w0 st' (a.put o.dst v).tmps w'→(K st').holds cf lp Q→w.heap.size≤w'.heap.size→(∀k,k<w.heap.size→ ¬Wr st φ (writes C st o) k→w'.heap[k]?=w.heap[k]?)→Kc (a.put o.dst v) w'):o.wp C.P a w Kc Qc:=by
 unfold BK at hk
 split at hk
 ·rename_i own jY Ug
  split at hk
  ·rename_i hn hm h0
   obtain⟨vs,hk,hin⟩:=UJ h Ug hn hm Eh hk
   split at hk
   ·rename_i TO
    obtain⟨r,fs,hc,hk⟩:=hk;have hin:=hin TO;obtain⟨hbody,XR⟩:=Ak f vs r fs hc;have g:=vo Ug;have hC':=XR w xs _ _ _ _ hin (by rw[g.len,hlen]);unfold Oper.wp;rw[Zw,KY hC hbody,Oper.upon_enter];refine hC'.mono fun e w' hpost=> ?_;obtain⟨v,rfl,hp⟩:=hpost;simp only;simp only at hk
    split at hk
    ·exact hk.elim
    rename_i XT;have hp:=hp.tight XT
    split at hk
    ·rename_i W B hpo
     obtain⟨φ3,ri,fi,X,posB,af⟩:=QS h Ug hn hm h0 Eh hp hpo;rw[oC] at hk
     obtain⟨φ4,r4,β4,I4,free4⟩:=Ex (β:=φ.β) (XB:=fun b j=>X (posB b j)) (E:=fun k=> ∃i,i<ri.length∧X i k) B _ φ3 af.β af.rel af.ndB (fun b ms ts hm=>by
      obtain⟨b1,b2,b3,b4,b5,b6,us,b7,b8,b9⟩:=af.box b ms ts hm;refine⟨b1,b2,b4,b6,fun⟨i,hi,hx⟩=>b5 i (by rw[bX];omega) hx,fun b' ms' ts' j hm' hj hx=> ?_,us,b7,b8,fun j c hj=> ?_⟩
      ·obtain⟨_,_,_,_,_,_,us',_,_,c9⟩:=af.box b' ms' ts' hm'
       obtain⟨u,u1,u2,u3,u4⟩:=c9 j _ (aZ hj);exact b5 _ (List.getElem?_eq_some_iff.1 u2).1 hx
      ·obtain⟨u,u1,u2,u3,u4⟩:=b9 j c hj
       refine⟨u,u1,af.item _ _ u2,fun k hk=>⟨u4 k hk,fun⟨i,hi,hx⟩=> ?_⟩⟩;have:=af.apart _ _ k (List.getElem?_eq_some_iff.1 u2).1 (by rw[bX];omega) hk hx
       omega)
      (fun b ms ts b' ms' ts' j j' k hm hm' hj hj' hx hx'=>by
        obtain⟨_,_,_,_,_,_,us,_,_,c9⟩:=af.box b ms ts hm;obtain⟨u,u1,u2,u3,u4⟩:=c9 j _ (aZ hj);obtain⟨_,_,_,_,_,_,us',_,_,c9'⟩:=af.box b' ms' ts' hm';obtain⟨u',u1',u2',u3',u4'⟩:=c9' j' _ (aZ hj')
        exact af.posI b ms ts b' ms' ts' j j' hm hm' hj hj' (af.apart _ _ k (List.getElem?_eq_some_iff.1 u2).1 (List.getElem?_eq_some_iff.1 u2').1 hx hx')) (fun k ⟨i,hi,hx⟩=>af.free i k hi hx)
     have hfr: ∀k,k<w.heap.size→ ¬Wr st φ (writes C st o) k→w'.heap[k]?=w.heap[k]?:=fun k hk hn=>hp.frm.block k hk fun hc=>hn (by rw[VL];exact MK h Ug Eh hc)
     cases iW:o.dst with
     |none=>
      rw[iW] at hk hK;exact hK _ v w' ⟨φ4,r4⟩ hk hp.frm.size hfr
     |some d=>
      rw[iW] at hk hK;simp only at hk
      split at hk
      ·rename_i st4 hres
       refine hK _ v w' ?_ hk hp.frm.size hfr
       exact SI r4 af.res (fun n it hn=>by rw[I4];exact af.item n it (by rw[iR (List.getElem?_eq_some_iff.1 hn).1];exact hn)) (fun n x hn hx=>free4 x ⟨n,hn,hx⟩)
        (fun n n' x hn hn' hx hx'=>af.apart n n' x (by rw[bX];omega) (by rw[bX];omega) hx hx') (hd d iW) hres
      ·exact hk.elim
    ·exact hk.elim
   ·exact hk.elim
  ·exact hk.elim
 ·exact hk.elim
theorem G1 (hT:ef C) {a:Act} (h:aH F A w0 φ st a.tmps w): ∀(xs:List Operand) (ts:List TypeId),xs.length=ts.length→(BL C st xs ts).length=xs.length∧ ∀(i:Nat) (e:TE),(BL C st xs ts)[i]?=some e→ ∃x,(xs.map a.eval)[i]?=some x∧bP st.ob w φ e x
 |[],[],_=>⟨rfl,fun i e h=>by simp[BL] at h⟩
 |[],_::_,h=>by cases h
 |_::_,[],h=>by cases h
 |x::xs,t::ts,hl=>by
  obtain⟨h1,h2⟩:=G1 hT h xs ts (by simpa using hl);refine⟨by simp[BL,h1],fun i e he=> ?_⟩
  cases i with
  |zero=>simp only[BL,cZ,aU] at he;subst he;exact⟨_,rfl,de hT h t x⟩
  |succ i=>exact h2 i e (by simpa [BL] using he)
theorem ML (hC:COk C) (Ak:G0 C cf) {a:Act} (h:aH F A w0 φ st a.tmps w) {o:Oper} {K:TS→Ev R} (hd: ∀d,o.dst=some d→d<a.tmps.size) (hk:(mm C st o K).holds cf lp Q) {Kc:Act→World→Prop} {Qc:Exit→Act→World→Prop}
 (hK: ∀st' v w',Rel F A w0 st' (a.put o.dst v).tmps w'→(K st').holds cf lp Q→w.heap.size≤w'.heap.size→(∀k,k<w.heap.size→ ¬Wr st φ (writes C st o) k→w'.heap[k]?=w.heap[k]?)→Kc (a.put o.dst v) w'):o.wp C.P a w Kc Qc:=by
 have hT:=hC.ty
 have did:NP C F A w0 φ st o a w K cf lp Q→o.wp C.P a w Kc Qc:=fun⟨nx,v,w',st',h1,h2,h3,h4,h5,h6⟩=>by
  unfold Oper.wp;rw[h1];rcases h2 with rfl|⟨rfl,rfl⟩
  ·exact hK st' v w' h3 h4 h5 h6
  ·exact hK st' undef w' h3 h4 h5 h6
 have C3:=hk;unfold mm at hk
 split at hk
 ·rename_i e;exact did (Su hT h e hd C3)
 ·rename_i e;exact did (WW hT h e hd C3)
 ·rename_i e;exact did (Sv hT h e C3)
 ·rename_i e;exact did (ID hT h e hd C3)
 ·rename_i e;exact did (KV hT h e hd C3)
 ·rename_i e;exact did (Sx hT h e hd C3)
 ·rename_i e;exact did (QI hT h e hd C3)
 ·rename_i e;exact did (UG hT h e hd C3)
 ·rename_i f args ts e
  split at hk
  ·rename_i hl
   have hl:=fk hl;obtain⟨g1,g2⟩:=G1 hT h args.toList ts.toList hl;refine EA hC Ak h (xs:=args.toList.map a.eval) (by rw[g1];simp) g2 ?_ ?_ hd hk hK
   ·unfold execOp
    rw[e];simp only[resolve,Act.eval,Deferred.ofValue,Sem.run_bind,Sem.run_pure,Result.andThen,invoke]
    congr 2
    apply Array.ext'
    simp[Act.eval]
   ·unfold writes;rw[e]
  ·exact hk.elim
 ·rename_i i args ts e
  split at hk
  ·rename_i hl
   have hl:=fk hl
   split at hk
   ·rename_i f caps hf
    obtain⟨g1,g2⟩:=G1 hT h args.toList ts.toList hl;have hfv:=h.tmp i;rw[hf] at hfv;have hfv:a.tmps.getD i undef= .func (.func f) #[] (caps.map fun b=>Value.pointer (some (φ.β b))).toArray:=hfv;refine EA hC Ak h (xs:=args.toList.map a.eval++caps.map fun b=>Value.pointer (some (φ.β b))) (by rw[bX,bX,g1];simp) (fun j e' he=> ?_) ?_ ?_ hd hk hK
    ·by_cases hlt:j<(BL C st args.toList ts.toList).length
     ·rw[iR hlt] at he
      obtain⟨x,x1,x2⟩:=g2 j e' he;exact⟨x,by rw[iR (by rw[dB,←g1];exact hlt)];exact x1,x2⟩
     ·rw[kr ax,gY] at he
      rw[kr (by rw[dB,←g1];omega),dB,←g1,gY]
      cases hb:caps[j-(BL C st args.toList ts.toList).length]? with
      |none=>rw[hb] at he;cases he
      |some b=>
       rw[hb] at he;simp only[jB,aU] at he;subst he;exact⟨_,rfl,by show _=Value.pointer (some ((φ.β b).add 0));rw[Addr.add_zero']⟩
    ·unfold execOp
     rw[e];simp only[resolve,Sem.run_bind];have hev:a.eval (.tmp i)= .func (.func f) #[] (caps.map fun b=>Value.pointer (some (φ.β b))).toArray:=hfv;rw[hev];simp only[Deferred.ofValue,Sem.run_pure,Result.andThen,invoke]
     congr 2
     apply Array.ext'
     simp
    ·unfold writes;rw[e];simp only[hf]
   ·exact hk.elim
  ·exact hk.elim
 ·exact did (PM hT h hd hk)
end Go.T
namespace Go.T
variable {F : Nat → Prop} {A : Arg} {w0 w w' : World} {φ φ' φ1 : Fp} {st st' sta cG lR : TS} {tm AK : Array Value} {C : jC}
variable {R : Type} {cf : Cf} {lp : Lp} {Q : R → Prop}
structure Inv (F:Nat→Prop) (A:Arg) (w0:World) (fx:List Nat) (g:Nat→Value) (n:Nat) (st:TS) (a:Act) (w:World):Prop where
 rel:Rel F A w0 st a.tmps w
 fix: ∀i∈fx,a.tmps.getD i undef=g i
 defers:a.defers=[]
 size:n≤a.tmps.size
variable {fx : List Nat} {g : Nat → Value} {n : Nat}
theorem B7 (a:Act) (d:Option Tmp) (v:Value):(a.put d v).tmps.size=a.tmps.size:=by cases d<;>simp[Act.put]
theorem put_defers (a:Act) (d:Option Tmp) (v:Value):(a.put d v).defers=a.defers:=by cases d<;>rfl
theorem KZ {a:Act} {o:Oper} (ho:Pw fx o=true) (hf: ∀i∈fx,a.tmps.getD i undef=g i) (v:Value): ∀i∈fx,(a.put o.dst v).tmps.getD i undef=g i:=fun i hi=>by
 cases hd:o.dst with
 |none=>exact hf i hi
 |some d=>
  have hne:i≠d:=fun e=>by
   subst e;unfold Pw at ho;rw[hd] at ho;simp only[u5] at ho;exact cV.1 ho hi
  show(a.tmps.setIfInBounds d v).getD i undef=g i;rw[getD_set_ne _ _ _ _ _ hne];exact hf i hi
theorem AZ {ops:Array Oper} {a:Act} {j t:Nat} {oj:Oper} {b:Bool} (hj:ops[j]?=some oj) (ht:oj.dst=some t) (hv:a.tmps.getD t undef= .bool b):yielded ops a.tmps j=some b:=by
 unfold yielded;rw[hj];simp only[Option.bind_some,ht]
 have hlt:t<a.tmps.size:=by
  rcases Nat.lt_or_ge t a.tmps.size with h|h
  ·exact h
  ·rw[qv,Array.getElem?_eq_none h] at hv
   cases hv
 rw[qw hlt];rw[qv,qw hlt] at hv;simp only[Option.getD_some] at hv;rw[hv]
theorem G2 {ops:Array Oper} {a:Act} {j t:Nat} {oj:Oper} (hj:ops[j]?=some oj) (ht:oj.dst=some t) (hv:a.tmps.getD t undef=undef):yielded ops a.tmps j=none:=by
 unfold yielded;rw[hj];simp only[Option.bind_some,ht];rw[qv] at hv
 cases h:a.tmps[t]? with
 |none=>rfl
 |some v=>
  rw[h] at hv;simp only[Option.getD_some] at hv;rw[hv]
  rfl
theorem PV {ob:List (Nat×OB)} {v:Value} (h:bP ob w φ (.v true []) v):v=undef:=by
 obtain⟨vs,rfl,h1,_⟩:=h;have:vs= #[]:=Array.eq_empty_of_size_eq_zero h1;rw[this];rfl
theorem SJ {ob:List (Nat×OB)}:bP ob w φ (.v true []) undef:=⟨#[],rfl,rfl,fun k c h=>by simp at h⟩
theorem aH.aas {tm:Array Value} (h:aH F A w0 φ st tm w) {d:Nat}:aH F A w0 φ (st.set d (.v true [])) (tm.setIfInBounds d undef) w where
 tmp i:=by
  rw[Kz]
  by_cases hi:i=d
  ·subst hi
   rw[aP rfl]
   have:(tm.setIfInBounds i undef).getD i undef=undef:=by
    rw[qv,Jp];simp only[if_true]
    split<;>rfl
   rw[this];exact SJ
  ·rw[aF hi,getD_set_ne _ _ _ _ _ hi];exact h.tmp i
 box:=h.box
 obj:=h.obj
 sep:=h.sep
 frm:=h.frm
theorem UN (h:aH F A w0 φ st tm w) {fx:List Nat} {o:Oper}: ∃φ1,aH F A w0 φ1 (WH C fx st o) tm w:=by
 unfold WH
 split
 ·split
  ·obtain⟨φ1,h1,_⟩:=qO (Pv C st _ _) st φ h
   exact⟨φ1,h1⟩
  ·exact⟨φ,h⟩
 ·split
  ·exact⟨φ,h⟩
  ·obtain⟨φ1,h1,_⟩:=qO (Jv st _ _) st φ h
   exact⟨φ1,h1⟩
 ·exact⟨φ,h⟩
theorem uM {fl:List Nat} {ops:Array Oper} {a:Act} (h:aH F A w0 φ st a.tmps w) {o:Oper} {K:TS→Ev R} (hk:(guarded C fx fl ops st o K).holds cf lp Q):
 Pw fx o=true∧((Region.wanted o (yielded ops a.tmps)=true∧ ∃cG φ1,aH F A w0 φ1 cG a.tmps w∧yA C ops cG o fl=true∧(mm C cG o K).holds cf lp Q)∨
  (Region.wanted o (yielded ops a.tmps)=false∧ ∃cG,aH F A w0 φ cG (a.put o.dst undef).tmps w∧(K cG).holds cf lp Q)):=by
 have fs: ∀{st:TS},aH F A w0 φ st a.tmps w→(Mc C fx fl ops st o K).holds cf lp Q→ ∃cG φ1,aH F A w0 φ1 cG a.tmps w∧yA C ops cG o fl=true∧(mm C cG o K).holds cf lp Q:=fun {st} h hk=>by
  unfold Mc at hk;rw[oC] at hk
  split at hk
  ·obtain⟨φ1,h1⟩:=UN (C:=C) (fx:=fx) (o:=o) h
   exact⟨_,φ1,h1,by assumption,hk⟩
  ·exact hk.elim
 have skip: ∀{st:TS},aH F A w0 φ st a.tmps w→(Md st o K).holds cf lp Q→ ∃cG,aH F A w0 φ cG (a.put o.dst undef).tmps w∧(K cG).holds cf lp Q:=fun {st} h hk=>by
  unfold Md at hk
  cases hd:o.dst with
  |none=>rw[hd] at hk;exact⟨st,h,hk⟩
  |some d=>
   rw[hd] at hk;exact⟨_,h.aas,hk⟩
 have gg: ∀{st:TS} {b want:Bool} {j:Nat},aH F A w0 φ st a.tmps w→o.guard=some (j,want)→yielded ops a.tmps j=some b→(N0 C fx fl ops st o b want K).holds cf lp Q→
  (Region.wanted o (yielded ops a.tmps)=true∧ ∃cG φ1,aH F A w0 φ1 cG a.tmps w∧yA C ops cG o fl=true∧(mm C cG o K).holds cf lp Q)∨
  (Region.wanted o (yielded ops a.tmps)=false∧ ∃cG,aH F A w0 φ cG (a.put o.dst undef).tmps w∧(K cG).holds cf lp Q):=fun {st b want j} h hg hy hk=>by
  have T2:Region.wanted o (yielded ops a.tmps)=(b==want):=by
   unfold Region.wanted;rw[hg];simp only[hy]
   cases b<;>cases want<;>rfl
  have no:(b==want)=false→(Md st o K).holds cf lp Q→Region.wanted o (yielded ops a.tmps)=false∧ ∃cG,aH F A w0 φ cG (a.put o.dst undef).tmps w∧(K cG).holds cf lp Q:=fun hb hk=>by
   exact⟨by rw[T2];exact hb,skip h hk⟩
  cases b with
  |true=>
   cases want with
   |true=>exact .inl ⟨by rw[T2];rfl,fs h hk⟩
   |false=>exact .inr (no rfl hk)
  |false=>
   cases want with
   |true=>exact .inr (no rfl hk)
   |false=>exact .inl ⟨by rw[T2];rfl,fs h hk⟩
 unfold guarded at hk
 split at hk
 ·exact hk.elim
 ·rename_i hok
  refine⟨hok,?_⟩
  split at hk
  ·rename_i hg
   exact .inl ⟨by unfold Region.wanted;rw[hg],fs h hk⟩
  ·rename_i j want hg
   split at hk
   ·rename_i oj hj
    split at hk
    ·rename_i t ht
     have Yi:=h.tmp t
     split at hk
     ·rename_i b hb
      rw[hb] at Yi;exact gg h hg (AZ hj ht Yi) hk
     ·rename_i b hb
      rw[hb] at Yi;have hv:=mq Yi;exact gg (h.Un (d:=t) (e:= .kb b) hv) hg (AZ hj ht hv) hk
     ·rename_i hb
      rw[hb] at Yi;refine .inr ⟨?_,skip h hk⟩;unfold Region.wanted;rw[hg];simp only[G2 hj ht (PV Yi)]
      rfl
     ·exact hk.elim
    ·exact hk.elim
   ·exact hk.elim
theorem Ox (hC:COk C) (Ak:G0 C cf) {fl:List Nat} {ops:Array Oper} {a:Act} (hi:Inv F A w0 fx g n st a w) {o:Oper} (LR:GZ n o=true) {K:TS→Ev R} (hk:(guarded C fx fl ops st o K).holds cf lp Q) {Kc:Act→World→Prop} {Qc:Exit→Act→World→Prop}
 (hK: ∀st' v w',Inv F A w0 fx g n st' (a.put o.dst v) w'→(K st').holds cf lp Q→Kc (a.put o.dst v) w'):if Region.wanted o (yielded ops a.tmps) then o.wp C.P a w Kc Qc else Kc (a.put o.dst undef) w:=by
 obtain⟨⟨φ,h⟩,T3,T4,hsz⟩:=hi;obtain⟨hok,hc⟩:=uM h hk;have mk: ∀{st' v w'},Rel F A w0 st' (a.put o.dst v).tmps w'→Inv F A w0 fx g n st' (a.put o.dst v) w':=fun hr=>⟨hr,KZ hok T3 _,by rw[put_defers];exact T4,by rw[B7];exact hsz⟩;rcases hc with⟨hw,cG,φ1,h1,_,By⟩|⟨hw,cG,h1,By⟩
 ·rw[aP hw]
  exact ML hC Ak h1 (fun d hd=>by
   unfold GZ at LR;rw[hd] at LR;have LR:Nat.ble (d+1) n=true:=LR
   exact gu (show d<n from ou LR) hsz) By fun st' v w' hr hk' _ _=>hK st' v w' (mk hr) hk'
 ·rw[aF (by rw[hw];exact Bool.false_ne_true)]
  exact hK cG undef w (mk ⟨φ,h1⟩) By
theorem JR (hC:COk C) (Ak:G0 C cf) {l:List Nat} {ops:Array Oper} {K:TS→Ev R} {Qc:Exit→Act→World→Prop} (hQ: ∀st a w,Inv F A w0 fx g n st a w→(K st).holds cf lp Q→Qc .normal a w):
 ∀(os:List Oper) (st:TS) (a:Act) (w:World),EU n os=true→Inv F A w0 fx g n st a w→(Kx C fx l ops os st K).holds cf lp Q→wpList C.P ops Qc os a w
 |[],st,a,w,_,hi,hk=>by
  simp only[Kx] at hk;rw[oC] at hk;obtain⟨⟨φ,h⟩,h2,h3,h4⟩:=hi;exact hQ _ a w ⟨⟨φ,h.keep l⟩,h2,h3,h4⟩ hk
 |o::r,st,a,w,hb,hi,hk=>by
  simp only[EU] at hb
  split at hb
  ·rename_i hd
   have:=Ox hC Ak hi hd hk (Kc:=wpList C.P ops Qc r) (Qc:=Qc) fun st' v w' hi' hk'=>by
    rw[oC] at hk';exact JR hC Ak hQ r st' _ w' hb hi' hk'
   unfold wpList
   split
   ·rename_i hw;rw[aP hw] at this;exact .inl this
   ·rename_i hw;rw[aF hw] at this;exact this
  ·cases hb
end Go.T
