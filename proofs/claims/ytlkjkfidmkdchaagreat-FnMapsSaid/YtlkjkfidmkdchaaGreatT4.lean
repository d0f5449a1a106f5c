import Derived.Test.YtlkjkfidmkdchaaGreatT3
import Derived.OrdersHeld
set_option linter.all false
namespace Go.T
variable {F : Nat → Prop} {A : Arg} {w0 w w' : World} {φ φ' : Fp} {st st' sta eM qf : TS} {tm IF : Array Value} {C : mG}
variable {R : Type} {cf : Cf} {lp : Lp} {Q : R → Prop}
theorem IV: ∀{l:List Nat},IL l=true↔l.Nodup
 |[]=>by simp[IL]
 |a::r=>by
  simp only[IL,List.nodup_cons]
  cases h:m8 a r with
  |true=>simp[mj.1 h]
  |false=>simp only[IV (l:=r)];have:=fk.1 h;simp[this]
def LR (w:World) (φ:Fp) (st:TS) (o:Nat) (i:Int) (f:Nat) (T0:Nat→Prop):Prop:=
 ∀b ad n c tc v,an o st.ob=some b→b.deep=true→φ.V o= .slice (some ad) n c→zQ b.rows i.toNat f=some tc→w.cell? (ad.add (i.toNat*b.z+f))=some v→
  av w φ.I .deep T0 tc v∧(∀k,T0 k→φ.S o k)∧ ∀(w':World) (tc':TC) (Rd' T1:Nat→Prop),av w' Rd' .deep T1 tc' v→(∀k,φ.S o k→ ¬T0 k→w'.heap[k]?=w.heap[k]?)→(∀k,T1 k→T0 k∨ ¬φ.S o k)→
   av w' Rd' .deep (fun k=>(φ.S o k∧ ¬T0 k)∨T1 k) (.sub b.z (r7 b.rows i.toNat f [tc'])) (φ.V o)
theorem aff (h:bw F A w0 φ st tm w) (o:Nat) (i:Int) (f:Nat): ∃T0,LR w φ st o i f T0:=by
 by_cases hx: ∃b ad n c tc v,an o st.ob=some b∧b.deep=true∧φ.V o= .slice (some ad) n c∧zQ b.rows i.toNat f=some tc∧w.cell? (ad.add (i.toNat*b.z+f))=some v
 ·obtain⟨b,ad,n,c,tc,v,h1,h2,h3,h4,h5⟩:=hx
  have hO:=h.obj o b h1;unfold o7 at hO;rw[h3] at hO
  have hm:b.m= .deep:=by unfold OB.m;rw[h2];rfl
  rw[hm] at hO;obtain⟨V1,T0,v1,v2,v3,_,v5⟩:=av.inner hO h4;refine⟨T0,fun b' ad' n' c' tc' v' g1 g2 g3 g4 g5=> ?_⟩;rw[h1] at g1;cases g1;rw[h3] at g3;cases g3;rw[h4] at g4;cases g4;rw[h5] at g5;cases g5;rw[h5] at v1;cases v1;refine⟨v2,fun k hk=>(v3 k hk).1,fun w' tc' Rd' T1 k1 k2 k3=> ?_⟩;rw[h3];exact(v5 w' tc' T1 (k1.Ic rfl) k2 k3).Ic rfl
 ·exact⟨Lw,fun b ad n c tc v h1 h2 h3 h4 h5=>absurd ⟨b,ad,n,c,tc,v,h1,h2,h3,h4,h5⟩ hx⟩
noncomputable def afg (w:World) (φ:Fp) (st:TS) (o:Nat) (i:Int) (f:Nat):Nat→Prop:=Classical.epsilon (LR w φ st o i f)
theorem LS (h:bw F A w0 φ st tm w) (o:Nat) (i:Int) (f:Nat):LR w φ st o i f (afg w φ st o i f):=Classical.epsilon_spec (aff h o i f)
noncomputable def xe (w:World) (φ:Fp) (st:TS) (e:CE):Nat→Prop:=match e with
 | .ref o _=>φ.S o
 | .snap _ (some (o,i,f)) _ _=>afg w φ st o i f
 |_=>Lw
def mL:CE→Option Nat
 | .ref o _=>some o
 | .snap _ (some (o,_,_)) _ _=>some o
 |_=>none
theorem F0 {o:Nat} (h:zN st o=true): ∃z rows,an o st.ob=some ⟨true,z,rows⟩:=by
 unfold zN at h
 split at h
 ·rename_i z rows hl;exact⟨z,rows,hl⟩
 ·cases h
def afh (st:TS) (c:Bool) (e:CE):Prop:=match e with
 | .sc _=>True
 | .nil _=>True
 | .ref o none=>zN st o=true
 | .ref o (some _)=>c=true∧zN st o=true
 | .snap _ (some (o,_,_)) _ _=>c=false∧zN st o=true
 |_=>False
def adm (e:CE):Prop:=match e with
 | .sc _=>True
 | .nil _=>True
 | .snap [] none _ _=>True
 |_=>False
def acv (st:TS) (e:CE):Prop:=match e with
 | .sc _=>True
 | .nil _=>True
 | .ref o none=>LF st o=true
 |_=>False
def Ig (st:TS) (c:Bool) (m:Mode) (e:CE):Prop:=(m= .snap∧adm e)∨(m= .deep∧afh st c e)∨(m= .top∧acv st e)
def ahE (st:TS) (c:Bool) (e:CE):Prop:=match e with
 | .sc _=>True
 | .nil _=>True
 | .ref _ none=>True
 | .ref _ (some _)=>c=true
 | .snap _ (some (o,_,_)) _ _=>c=false∧zN st o=true
 |_=>False
theorem adn {o:Nat} (h:LF st o=true): ∃z rows,an o st.ob=some ⟨false,z,rows⟩:=by
 unfold LF at h
 split at h
 ·rename_i z rows hl;exact⟨z,rows,hl⟩
 ·cases h
theorem adm.key {e:CE} (h:adm e):mL e=none:=by
 unfold adm at h
 split at h<;>first|rfl|exact h.elim
theorem Ig.key {c:Bool} {m:Mode} {e:CE} {o:Nat} (h:Ig st c m e) (hk:mL e=some o):ahE st c e:=by
 rcases h with⟨_,h⟩|⟨_,h⟩|⟨_,h⟩
 ·rw[h.key] at hk;cases hk
 ·unfold afh at h
  unfold ahE
  split at h<;>first|trivial|exact h.1|exact h|exact h.elim
 ·unfold acv at h
  unfold ahE
  split at h<;>first|trivial|exact h.elim
def mAt (ms:List Mode) (j:Nat):Mode:=(bY.inout ms).mc j
theorem Re (ms:List Mode):mAt ms 0=ms.headD .deep:=by cases ms<;>rfl
theorem YU (ms:List Mode) (j:Nat):mAt ms (j+1)=mAt (ms.drop 1) j:=by cases ms<;>rfl
structure F1 (st:TS) (c:Bool) (ms:List Mode) (cs:List CE) (l:List Nat):Prop where
 one: ∀(j:Nat) (e:CE),cs[j]?=some e→Ig st c (mAt ms j) e∧ ∀o,mL e=some o→2*o∈l
 mem: ∀x∈l,∃o,x=2*o∧ ∃(j:Nat) (e:CE),cs[j]?=some e∧mL e=some o
 uniq:l.Nodup→ ∀(j j':Nat) (e e':CE) (o:Nat),cs[j]?=some e→cs[j']?=some e'→mL e=some o→mL e'=some o→j=j'
theorem F1.plain {c:Bool} {ms:List Mode} {e0:CE} {r:List CE} {l:List Nat} (ih:F1 st c (ms.drop 1) r l) (ho:Ig st c (mAt ms 0) e0) (hk:mL e0=none):F1 st c ms (e0::r) l:=by
 refine⟨fun j e he=> ?_,fun x hx=> ?_,fun hn j j' e e' o he he' Cu hk2=> ?_⟩
 ·cases j with
  |zero=>simp only[fu,bq] at he;subst he;exact⟨ho,fun o h=>by rw[hk] at h;cases h⟩
  |succ j=>rw[YU];exact ih.one j e (by simpa using he)
 ·obtain⟨o,a1,j,e,a2,a3⟩:=ih.mem x hx
  exact⟨o,a1,j+1,e,by simpa using a2,a3⟩
 ·cases j with
  |zero=>simp only[fu,bq] at he;subst he;rw[hk] at Cu;cases Cu
  |succ j=>
   cases j' with
   |zero=>simp only[fu,bq] at he';subst he';rw[hk] at hk2;cases hk2
   |succ j'=>rw[ih.uniq hn j j' e e' o (by simpa using he) (by simpa using he') Cu hk2]
theorem F1.keyed {c:Bool} {ms:List Mode} {e0:CE} {r:List CE} {l0:List Nat} (ih:F1 st c (ms.drop 1) r l0) {o0:Nat} (ho:Ig st c (mAt ms 0) e0) (hk:mL e0=some o0):F1 st c ms (e0::r) ((2*o0)::l0):=by
 refine⟨fun j e he=> ?_,fun x hx=> ?_,fun hn j j' e e' o he he' Cu hk2=> ?_⟩
 ·cases j with
  |zero=>simp only[fu,bq] at he;subst he;exact⟨ho,fun o h=>by rw[hk] at h;cases h;exact .head _⟩
  |succ j=>rw[YU];obtain⟨a,b⟩:=ih.one j e (by simpa using he);exact⟨a,fun o h=> .tail _ (b o h)⟩
 ·rcases dJ.1 hx with rfl|hx
  ·exact⟨o0,rfl,0,e0,rfl,hk⟩
  ·obtain⟨o,a1,j,e,a2,a3⟩:=ih.mem x hx
   exact⟨o,a1,j+1,e,by simpa using a2,a3⟩
 ·have hn':=List.nodup_cons.1 hn
  cases j with
  |zero=>
   simp only[fu,bq] at he;subst he;rw[hk] at Cu;cases Cu
   cases j' with
   |zero=>rfl
   |succ j'=>exact absurd ((ih.one j' e' (by simpa using he')).2 _ hk2) hn'.1
  |succ j=>
   cases j' with
   |zero=>
    simp only[fu,bq] at he';subst he';rw[hk] at hk2;cases hk2;exact absurd ((ih.one j e (by simpa using he)).2 _ Cu) hn'.1
   |succ j'=>rw[ih.uniq hn'.2 j j' e e' o (by simpa using he) (by simpa using he') Cu hk2]
theorem yu {c:Bool}: ∀{ms:List Mode} {cs:List CE} {l:List Nat},ud st c ms cs=some l→F1 st c ms cs l
 |ms,[],l,h=>by
  have h:l=[]:=by cases ms<;>(cases h;rfl)
  subst h;exact⟨fun j e he=>by simp at he,fun x hx=>(by cases hx),fun _ j j' e e' o he=>by simp at he⟩
 |ms,e0::r,l,h=>by
  simp only[ud] at h
  cases hr:ud st c (ms.drop 1) r with
  |none=>rw[hr] at h;cases h
  |some l0=>
   rw[hr] at h;have ih:=yu hr
   by_cases hm:ms.headD .deep= .snap
   ·have hz:mAt ms 0= .snap:=by rw[Re,hm]
    rw[hm] at h
    have pl:adm e0→l0=l→F1 st c ms (e0::r) l:=fun hf e=>by
     subst e;exact ih.plain (.inl ⟨hz,hf⟩) hf.key
    cases e0 with
    |sc v=>cases h;exact pl trivial rfl
    |nil z=>cases h;exact pl trivial rfl
    |snap ds loc z rows=>
     cases ds with
     |nil=>cases loc with
      |none=>cases h;exact pl trivial rfl
      |some q=>cases h
     |cons d ds=>cases h
    |_=>cases h
   ·by_cases ht:ms.headD .deep= .top
    ·have hz:mAt ms 0= .top:=by rw[Re,ht]
     rw[ht] at h
     cases e0 with
     |sc v=>cases h;exact ih.plain (.inr (.inr ⟨hz,trivial⟩)) rfl
     |nil z=>cases h;exact ih.plain (.inr (.inr ⟨hz,trivial⟩)) rfl
     |ref o cut=>
      cases cut with
      |none=>
       have h:(match LF st o with|true=>some ((2*o)::l0)|false=>none)=some l:=h
       cases hd:LF st o with
       |false=>rw[hd] at h;cases h
       |true=>rw[hd] at h;cases h;exact ih.keyed (o0:=o) (.inr (.inr ⟨hz,hd⟩)) rfl
      |some q=>cases h
     |snap ds loc z rows=>cases ds<;>cases loc<;>cases h
     |gone=>cases h
    ·have hd':ms.headD .deep= .deep:=by revert hm ht;cases ms.headD .deep<;>simp
     have hz:mAt ms 0= .deep:=by rw[Re,hd']
     rw[hd'] at h
     cases e0 with
     |sc v=>cases h;exact ih.plain (.inr (.inl ⟨hz,trivial⟩)) rfl
     |nil z=>cases h;exact ih.plain (.inr (.inl ⟨hz,trivial⟩)) rfl
     |ref o cut=>
      cases cut with
      |none=>
       have h:(match zN st o with|true=>some ((2*o)::l0)|false=>none)=some l:=h
       cases hd:zN st o with
       |false=>rw[hd] at h;cases h
       |true=>rw[hd] at h;cases h;exact ih.keyed (o0:=o) (.inr (.inl ⟨hz,hd⟩)) rfl
      |some q=>
       cases c with
       |false=>cases h
       |true=>
        have h:zN st o=true∧some ((2*o)::l0)=some l:=by
         simp only at h;split at h<;>first|exact⟨by assumption,h⟩|cases h
        obtain⟨hd,h⟩:=h
        cases h
        exact ih.keyed (o0:=o) (.inr (.inl ⟨hz,rfl,hd⟩)) rfl
     |snap ds loc z rows=>
      cases loc with
      |none=>cases ds<;>cases h
      |some q=>
       obtain⟨o,i,f⟩:=q
       cases c with
       |true=>cases ds<;>cases h
       |false=>
        have h:zN st o=true∧some ((2*o)::l0)=some l:=by
         cases ds<;>(simp only at h;split at h<;>first|exact⟨by assumption,h⟩|cases h)
        obtain⟨hd,h⟩:=h
        cases h
        exact ih.keyed (o0:=o) (.inr (.inl ⟨hz,rfl,hd⟩)) rfl
     |gone=>cases h
theorem oK: ∀{cs:List CE} {ts:List TC},xq st cs=some ts→ts.length=cs.length∧ ∀(j:Nat) (c:TC),ts[j]?=some c→ ∃e,cs[j]?=some e∧Cy st e=some c
 |[],ts,h=>by cases h;exact⟨rfl,fun j c hj=>by simp at hj⟩
 |e::r,ts,h=>by
  simp only[xq] at h
  split at h
  ·rename_i c cs' h1 h2
   cases h
   obtain⟨g1,g2⟩:=oK h2;refine⟨by simp[g1],fun j c' hj=> ?_⟩
   cases j with
   |zero=>simp only[fu,bq] at hj;subst hj;exact⟨e,rfl,h1⟩
   |succ j=>obtain⟨e',a,b⟩:=g2 j c' (by simpa using hj);exact⟨e',by simpa using a,b⟩
  ·cases h
theorem LU (h:bw F A w0 φ st tm w) {e:CE} {v:Value} (he:ek st.ob w φ e v) {c:TC} (hc:Cy st e=some c):av w (rd φ (ig e)) .snap Lw c v∧ ∀d∈ig e,d=0∨aT st.ob d:=by
 unfold Cy at hc
 split at hc
 ·cases hc
  obtain⟨rfl,hs⟩:=he;exact⟨.sc _ _ _ hs,fun d hd=>by cases hd⟩
 ·split at hc
  ·rename_i z rows hr
   cases hc
   exact tC h he hr
  ·cases hc
theorem afi (h:bw F A w0 φ st tm w) {e:CE} {v:Value} (he:ek st.ob w φ e v) {c:TC} (hc:Cy st e=some c) {cb:Bool} (ho:afh st cb e) {Rd:Nat→Prop}:av w Rd .deep (xe w φ st e) c v∧(∀k,xe w φ st e k→ ∃o,mL e=some o∧aT st.ob o∧φ.S o k):=by
 cases e with
 |sc x=>cases hc;obtain⟨rfl,hs⟩:=he;exact⟨.sc _ _ _ hs,fun k hk=>hk.elim⟩
 |nil z=>cases hc;obtain⟨rfl,hz⟩:=he;exact⟨zV hz,fun k hk=>hk.elim⟩
 |ref o cut=>
  have hd:zN st o=true:=by cases cut with
   |none=>exact ho
   |some _=>exact ho.2
  obtain⟨z,rows,hl⟩:=F0 hd;obtain⟨b,h1,h2⟩:=he;rw[hl] at h1;cases h1;simp only[Cy,pV,hl] at hc
  cases hc
  exact⟨(o7.cut (h.obj o _ hl) h2:av w φ.I .deep (φ.S o) _ _).Ic rfl,fun k hk=>⟨o,rfl,⟨_,hl⟩,hk⟩⟩
 |snap ds loc z rows=>
  cases loc with
  |none=>exact ho.elim
  |some q=>
   obtain⟨o,i,f⟩:=q;obtain⟨z0,qg,hl⟩:=F0 ho.2;obtain⟨h1,h2,h3⟩:=he;obtain⟨_,b,g1,g2,g3,ad,n,c',g4,g5⟩:=h3 o i f rfl;rw[hl] at g1;cases g1;simp only[Cy,pV] at hc
   cases hc
   obtain⟨k1,k2,_⟩:=LS h o i f _ ad n c' _ v hl rfl g4 g3 g5;exact⟨k1.Ic rfl,fun k hk=>⟨o,rfl,⟨_,hl⟩,k2 k hk⟩⟩
 |gone=>exact ho.elim
def F2 (φ:Fp) (st:TS) (oE:List Nat) (k:Nat):Prop:=φ.I k∨ ∃o,2*o∈oE∧(o=0∨aT st.ob o)∧φ.S o k
def TP (φ:Fp) (st:TS) (oE:List Nat) (k:Nat):Prop:=F2 φ st oE k∨ ∃b cs,2*b+1∈oE∧an b st.bx=some cs∧k=(φ.β b).block
theorem rg_of {ds oE:List Nat} (hd: ∀d∈ds,d=0∨aT st.ob d) (hr: ∀d∈ds,2*d∈oE) {k:Nat} (hk:rd φ ds k):F2 φ st oE k:=by
 rcases hk with hk|⟨d,hm,hk⟩
 ·exact .inl hk
 ·exact .inr ⟨d,hr d hm,hd d hm,hk⟩
theorem VK (h:bw F A w0 φ st tm w) {b:Nat} {cs:List CE} (hb:an b st.bx=some cs) {off:Nat} {ts:List TC} (hc:xq st (cs.drop off)=some ts) {oE:List Nat} (hr: ∀d∈CC st b,d∈oE):
 TP φ st oE (φ.β b).block∧ ∀(j:Nat) (c:TC),ts[j]?=some c→ ∃u,w.cell? (((φ.β b).add off).add j)=some u∧av w (F2 φ st oE) .snap Lw c u:=by
 have hbd:CC st b=(2*b+1)::(cs.flatMap ig).map (2* ·):=by unfold CC;rw[hb]
 rw[hbd] at hr;refine⟨.inr ⟨b,cs,hr _ (.head _),hb,rfl⟩,fun j c hj=> ?_⟩;obtain⟨e,he,hce⟩:=(oK hc).2 j c hj;rw[o5] at he;obtain⟨u,u1,u2,u3⟩:=h.box b cs hb _ e he;obtain⟨k1,k2⟩:=LU h u3 hce;refine⟨u,by rw[Addr.add_add];exact u1,k1.rm fun k hk=>rg_of k2 (fun d hd=>hr _ (.tail _ (List.mem_map.2 ⟨d,List.mem_flatMap.2 ⟨e,iV he,hd⟩,rfl⟩))) hk⟩
theorem Rf: ∀{caps:List Nat} {xs:List (List TC)},Wt st caps=some xs→xs.length=caps.length∧ ∀(i:Nat) (ts:List TC),xs[i]?=some ts→ ∃b cs,caps[i]?=some b∧an b st.bx=some cs∧xq st cs=some ts
 |[],xs,h=>by cases h;exact⟨rfl,fun i ts hi=>by simp at hi⟩
 |b::r,xs,h=>by
  simp only[Wt] at h
  split at h
  ·rename_i cs hb
   split at h
   ·rename_i c cs' h1 h2
    cases h
    obtain⟨g1,g2⟩:=Rf h2;refine⟨by simp[g1],fun i ts hi=> ?_⟩
    cases i with
    |zero=>simp only[fu,bq] at hi;subst hi;exact⟨b,cs,rfl,hb,h1⟩
    |succ i=>obtain⟨b',cs',a,b'',c⟩:=g2 i ts (by simpa using hi);exact⟨b',cs',by simpa using a,b'',c⟩
   ·cases h
  ·cases h
theorem aa7 (h:bw F A w0 φ st tm w) {e:TE} {x:Value} (ht:dx st.ob w φ e x) {oE:List Nat} (hr: ∀d∈uc st e,d∈oE) {X:Nat→Nat→Prop} {Y:Nat→Prop} {K:TV→Ev R} (hk:(aex st e K).holds cf lp Q):
 ∃v,Bw w .borrow (F2 φ st oE) (TP φ st oE) X Y v x∧(K v).holds cf lp Q:=by
 have cells: ∀{cs:List CE} {ts:List TC} {xs:Array Value},xq st cs=some ts→(∀d∈cs.flatMap ig,2*d∈oE)→(∀(j:Nat) (e:CE),cs[j]?=some e→ ∃y,xs[j]?=some y∧y.cells= #[y]∧ek st.ob w φ e y)→
  ∀(j:Nat) (c:TC),ts[j]?=some c→ ∃u,xs[j]?=some u∧ ∀X:Nat→Prop,av w (F2 φ st oE) .snap X c u:=fun {cs ts xs} hc hd hx j c hj=>by
  obtain⟨e,he,hce⟩:=(oK hc).2 j c hj;obtain⟨y,y1,_,y3⟩:=hx j e he;obtain⟨k1,k2⟩:=LU h y3 hce;exact⟨y,y1,fun X=>k1.rm fun k hk=>rg_of k2 (fun d hd'=>hd d (List.mem_flatMap.2 ⟨e,iV he,hd'⟩)) hk⟩
 unfold aex at hk
 split at hk
 ·rename_i ag cs
  obtain⟨c0,e0,ht⟩:=ht
  cases e0
  have hdd: ∀d∈cs.flatMap ig,2*d∈oE:=fun d hd=>hr _ (List.mem_map.2 ⟨d,by simp only[jP,m0];exact hd,rfl⟩)
  split at hk
  ·rename_i ts hc
   split at hk
   ·obtain⟨xs,rfl,hsz,hx⟩:=ht
    refine⟨.ag ts,⟨xs,rfl,by rw[(oK hc).1];exact hsz,fun j c hj=> ?_⟩,hk⟩;obtain⟨u,u1,u2⟩:=cells hc hdd hx j c hj;exact⟨u,u1,u2 _⟩
   ·rename_i c
    obtain⟨e1,rfl,hv,hce⟩:=ht
    obtain⟨u,u1,u2⟩:=cells (xs:= #[x]) hc hdd (fun j e he=>by
     cases j with
     |zero=>simp only[fu,bq] at he;subst he;exact⟨x,rfl,hv,hce⟩
     |succ j=>simp at he) 0 c rfl
    have:x=u:=by simpa using u1
    subst this;exact⟨.c c,u2 _,hk⟩
   ·exact hk.elim
  ·exact hk.elim
 ·rename_i b
  have ht:x= .bool b:=ht;exact⟨.c (.sc (.bool b)),(by rw[ht];exact .sc _ _ _ trivial:av w (F2 φ st oE) (bY.borrow.mc 0) (X 0) (.sc (.bool b)) x),hk⟩
 ·rename_i b off
  have ht:x= .pointer (some ((φ.β b).add off)):=ht
  split at hk
  ·rename_i cs hb
   split at hk
   ·rename_i ts hc
    obtain⟨b1,b2⟩:=VK h hb hc (oE:=oE) hr;refine⟨.bx ts,⟨_,ht,by rw[cR];exact(h.sep.spot b cs hb).2.1,fun _=>by rw[cR];exact b1,fun hn=>absurd rfl hn,fun j c hj=> ?_⟩,hk⟩;obtain⟨u,u1,u2⟩:=b2 j c hj;exact⟨u,u1,u2.rm fun _ h=>h⟩
   ·exact hk.elim
  ·exact hk.elim
 ·rename_i ds c0 aks
  obtain⟨hd,ad,hv,hb,hc⟩:=ht;have hrr: ∀{k},rd φ ds k→F2 φ st oE k:=fun hk=>rg_of hd (fun d hm=>hr _ (List.mem_map.2 ⟨d,hm,rfl⟩)) hk;have hbk:=hb bZ;refine⟨.bx _,⟨ad,hv,h.sep.ajF h.frm.size hd hbk,fun _=> .inl (hrr hbk),fun hn=>absurd rfl hn,fun j c hj=> ?_⟩,hk⟩;obtain⟨u,u1,u2⟩:=hc j c hj;exact⟨u,u1,u2.rm fun k hk=>hrr hk⟩
 ·rename_i r p i f
  obtain⟨b0,hb0,_⟩:=id ht;obtain⟨ad,aks,hv,hb,hc,hk,_⟩:=Q1 h.obj ht hk
  have hd: ∀d∈[r],d=0∨aT st.ob d:=fun d hm=>by simp only[j6] at hm;subst hm;exact .inr ⟨_,hb0⟩
  have hrr: ∀{k},rd φ [r] k→F2 φ st oE k:=fun hk=>rg_of hd (fun d hm=>hr _ (by simp only[j6] at hm;subst hm;exact .head _)) hk
  split at hk
  ·exact hk.elim
  ·rename_i c1 anD
   have hbk:=hb bZ;refine⟨.bx _,⟨ad,hv,h.sep.ajF h.frm.size hd hbk,fun _=> .inl (hrr hbk),fun hn=>absurd rfl hn,fun j c hj=> ?_⟩,hk⟩;obtain⟨u,u1,u2⟩:=hc j c hj;exact⟨u,u1,u2.rm fun k hk=>hrr hk⟩
 ·rename_i f caps
  have ht:x= .func (.func f) #[] (caps.map fun b=>Value.pointer (some (φ.β b))).toArray:=ht
  split at hk
  ·rename_i xs hc
   obtain⟨g1,g2⟩:=Rf hc;refine⟨.fn f xs,⟨rfl,caps.map φ.β,by rw[cq,g1],by rw[ht,List.map_map];rfl,fun i ts hi=> ?_⟩,hk⟩;obtain⟨b,cs,c1,c2,c3⟩:=g2 i ts hi;obtain⟨b1,b2⟩:=VK h c2 (off:=0) (by rw[List.drop_zero];exact c3) (oE:=oE) (fun d hd=>hr d (List.mem_flatMap.2 ⟨b,iV c1,hd⟩));refine⟨φ.β b,by rw[me,c1];rfl,(h.sep.spot b cs c2).2.1,b1,fun j c hj=> ?_⟩;obtain⟨u,u1,u2⟩:=b2 j c hj;rw[Addr.add_zero'] at u1
   exact⟨u,u1,u2⟩
  ·exact hk.elim
 ·exact hk.elim
def iM (st:TS):TE→List CE
 | .v false [.mk _ cs]=>cs
 | .bp b _=>match an b st.bx with|some cs=>cs|none=>[]
 |_=>[]
def By:bY→Bool
 | .consume _=>true
 |_=>false
theorem LV (h:bw F A w0 φ st tm w) {e:CE} {v:Value} (he:ek st.ob w φ e v) {c:TC} (hc:Cy st e=some c) {cb:Bool} {m:Mode} (ho:Ig st cb m e) {Rd:Nat→Prop} (hR: ∀k,φ.I k→Rd k):av w Rd m (xe w φ st e) c v:=by
 rcases ho with⟨rfl,hf⟩|⟨rfl,ho⟩|⟨rfl,ho⟩
 ·obtain⟨k1,_⟩:=LU h he hc
  have hd:ig e=[]:=by
   unfold adm at hf
   split at hf<;>first|rfl|exact hf.elim
  rw[hd] at k1
  exact k1.rm fun k hk=>hk.elim (hR k) fun⟨d,hd,_⟩=>by cases hd
 ·exact(afi h he hc ho).1
 ·cases e with
  |sc x=>cases hc;obtain⟨rfl,hs⟩:=he;exact .sc _ _ _ hs
  |nil z=>cases hc;obtain⟨rfl,hz⟩:=he;exact zV hz
  |ref o cut=>
   cases cut with
   |some q=>exact ho.elim
   |none=>
    obtain⟨z,rows,hl⟩:=adn ho;obtain⟨b,h1,h2⟩:=he;rw[hl] at h1;cases h1;simp only[Cy,pV,hl] at hc
    cases hc
    exact(o7.cut (h.obj o _ hl) h2:av w φ.I .top (φ.S o) _ _).move (fun k hk=>⟨hR k hk,rfl⟩) (fun _ _ _=>rfl)
  |snap ds loc z rows=>exact ho.elim
  |gone=>exact ho.elim
theorem ai2 {p:bY} (hp:p≠ .borrow) (j:Nat):p.mc j=mAt p.ms j:=by
 cases p with
 |borrow=>exact absurd rfl hp
 |inout ms=>rfl
 |consume ms=>rfl
theorem ahF (h:bw F A w0 φ st tm w) {e:TE} {x:Value} (ht:dx st.ob w φ e x) {p:bY} (hp:p≠ .borrow) {l:List Nat} (ho:sJ st (By p) p.ms e=some l) {Rg BB:Nat→Prop} (hR: ∀k,φ.I k→Rg k) {K:TV→Ev R} (hk:(aex st e K).holds cf lp Q):
 ∃v,Bw w p Rg BB (fun j=>xe w φ st ((iM st e).getD j .gone)) (fun k=> ∃b,e= .bp b 0∧k=(φ.β b).block) v x∧(K v).holds cf lp Q:=by
 unfold aex at hk
 split at hk
 ·rename_i ag cs
  have ho:ud st (By p) p.ms cs=some l:=by
   have ho:(match By p,p.ms with|true,ms=>ud st true ms cs|false,[]=>ud st false [] cs|_,_=>none)=some l:=ho
   split at ho
   ·rename_i h1;rw[h1];exact ho
   ·rename_i h1 h2;rw[h1,h2];exact ho
   ·cases ho
  obtain⟨o1,o2,o3⟩:=yu ho;obtain⟨c0,e0,ht⟩:=ht
  cases e0
  have w6: ∀{j:Nat} {e:CE},cs[j]?=some e→(iM st (.v false [.mk ag cs])).getD j .gone=e:=fun {j e} he=>by simp[iM,List.getD,he]
  have hmc: ∀j,p.mc j=mAt p.ms j:=fun j=>by rw[ai2 hp]
  split at hk
  ·rename_i ts hc
   split at hk
   ·obtain⟨xs,rfl,hsz,hx⟩:=ht
    refine⟨.ag ts,⟨xs,rfl,by rw[(oK hc).1];exact hsz,fun j c hj=> ?_⟩,hk⟩;obtain⟨e,he,hce⟩:=(oK hc).2 j c hj;obtain⟨y,y1,_,y3⟩:=hx j e he;refine⟨y,y1,?_⟩;show av w Rg (p.mc j) (xe w φ st ((iM st (.v false [.mk true cs])).getD j .gone)) c y;rw[w6 he];exact LV h y3 hce (by rw[hmc];exact(o1 j e he).1) hR
   ·rename_i c
    obtain⟨e1,rfl,hv,hce⟩:=ht;obtain⟨e,he,hcc⟩:=(oK hc).2 0 c rfl;simp only[fu,bq] at he;subst he;refine⟨.c c,?_,hk⟩;show av w Rg (p.mc 0) _ c x;exact LV h hce hcc (by rw[hmc];exact(o1 0 _ rfl).1) hR
   ·exact hk.elim
  ·exact hk.elim
 ·cases ho
 ·rename_i b off
  have ht:x= .pointer (some ((φ.β b).add off)):=ht;unfold sJ at ho
  split at ho
  ·rename_i e0;cases e0
  ·rename_i e0
   cases e0
   split at ho
   ·rename_i cs hcb HW hb
    split at ho
    ·rename_i l0 hl
     obtain⟨o1,o2,o3⟩:=yu hl;rw[hb] at hk;simp only[List.drop_zero] at hk
     split at hk
     ·rename_i ts hc
      rw[Addr.add_zero'] at ht;obtain⟨g1,g2⟩:=oK hc;refine⟨.bx ts,⟨_,ht,(h.sep.spot b cs hb).2.1,fun e=>absurd e hp,fun _=>⟨(h.sep.spot b cs hb).1 HW,⟨b,rfl,rfl⟩,fun j hj=>h.sep.soft b cs j hb HW au⟩,fun j c hj=> ?_⟩,hk⟩;obtain⟨e,he,hce⟩:=g2 j c hj;obtain⟨u,u1,u2,u3⟩:=h.box b cs hb j e he;refine⟨u,u1,?_⟩
      have:(iM st (.bp b 0)).getD j .gone=e:=by simp[iM,hb,List.getD,he]
      show av w Rg (p.mc j) (xe w φ st ((iM st (.bp b 0)).getD j .gone)) c u;rw[this];exact LV h u3 hce (by rw[ai2 hp];exact(o1 j e he).1) hR
     ·exact hk.elim
    ·cases ho
   ·cases ho
  ·cases ho
 ·cases ho
 ·cases ho
 ·cases ho
 ·exact hk.elim
end Go.T
namespace Go.T
variable {F : Nat → Prop} {A : Arg} {w0 w w' : World} {φ φ' : Fp} {st st' sta eM qf : TS} {tm IF : Array Value} {C : mG}
variable {R : Type} {cf : Cf} {lp : Lp} {Q : R → Prop}
theorem afj (h:bw F A w0 φ st tm w) {e:CE} {v:Value} (he:ek st.ob w φ e v) {cb:Bool} {m:Mode} (ho:Ig st cb m e) {k:Nat} (hk:xe w φ st e k): ∃o,mL e=some o∧aT st.ob o∧φ.S o k:=by
 cases e with
 |sc x=>exact hk.elim
 |nil z=>exact hk.elim
 |ref o cut=>obtain⟨b,h1,_⟩:=he;exact⟨o,rfl,⟨b,h1⟩,hk⟩
 |snap ds loc z rows=>
  cases loc with
  |none=>exact hk.elim
  |some q=>
   obtain⟨o,i,f⟩:=q;have ho:=ho.key (o:=o) rfl;obtain⟨z0,qg,hl⟩:=F0 ho.2;obtain⟨_,_,h3⟩:=he;obtain⟨_,b,g1,g2,g3,ad,n,c',g4,g5⟩:=h3 o i f rfl;rw[hl] at g1;cases g1;exact⟨o,rfl,⟨_,hl⟩,(LS h o i f _ ad n c' _ v hl rfl g4 g3 g5).2.1 k hk⟩
 |gone=>exact hk.elim
structure afk (st:TS) (c:Bool) (ms:List Mode) (e:TE) (l:List Nat):Prop where
 one: ∀(j:Nat) (e':CE),(iM st e)[j]?=some e'→(∃cb m,Ig st cb m e'∧(c=true→cb=true))∧ ∀o,mL e'=some o→2*o∈l
 mem: ∀o,2*o∈l→ ∃(j:Nat) (e':CE),(iM st e)[j]?=some e'∧mL e'=some o
 uniq:l.Nodup→ ∀(j j':Nat) (e1 e2:CE) (o:Nat),(iM st e)[j]?=some e1→(iM st e)[j']?=some e2→mL e1=some o→mL e2=some o→j=j'
 bx: ∀b off,e= .bp b off→off=0∧c=false∧Bl b=true∧2*b+1∈l∧an b st.bx=some (iM st e)∧ ∀(j:Nat) (e':CE),(iM st e)[j]?=some e'→Ig st true (mAt ms j) e'
 form:(∃b,e= .bp b 0)∨((c=true∨ms=[])∧ ∃ag cs,e= .v false [.mk ag cs]∧ ∀(j:Nat) (e':CE),cs[j]?=some e'→Ig st c (mAt ms j) e')
theorem LW {c:Bool} {ms:List Mode} {e:TE} {l:List Nat} (h:sJ st c ms e=some l):afk st c ms e l:=by
 unfold sJ at h
 split at h
 ·rename_i ag cs
  obtain⟨hcm,h⟩:(c=true∨ms=[])∧ud st c ms cs=some l:=by
   split at h
   ·exact⟨.inl rfl,h⟩
   ·exact⟨.inr rfl,h⟩
   ·cases h
  have ok:=yu h;refine⟨fun j e' he=>⟨⟨c,_,(ok.one j e' he).1,id⟩,(ok.one j e' he).2⟩,fun o ho=> ?_,fun hn j j' e1 e2 o h1 h2=>ok.uniq hn j j' e1 e2 o h1 h2,fun b off e=>(by cases e),.inr ⟨hcm,ag,cs,rfl,fun j e' he=>(ok.one j e' he).1⟩⟩;obtain⟨o',e1,j,e',h1,h2⟩:=ok.mem _ ho
  have:o=o':=by omega
  subst this;exact⟨j,e',h1,h2⟩
 ·rename_i b
  split at h
  ·rename_i cs hw hb
   split at h
   ·rename_i l0 hl
    cases h
    have ok:=yu hl
    have hcs:iM st (.bp b 0)=cs:=by simp[iM,hb]
    refine⟨fun j e' he=> ?_,fun o ho=> ?_,fun hn j j' e1 e2 o h1 h2=> ?_,fun b' off e=> ?_,.inl ⟨b,rfl⟩⟩
    ·rw[hcs] at he
     exact⟨⟨true,_,(ok.one j e' he).1,fun _=>rfl⟩,fun o ho=> .tail _ ((ok.one j e' he).2 o ho)⟩
    ·rw[hcs]
     rcases dJ.1 ho with ho|ho
     ·omega
     ·obtain⟨o',e1,j,e',h1,h2⟩:=ok.mem _ ho
      have:o=o':=by omega
      subst this;exact⟨j,e',h1,h2⟩
    ·rw[hcs] at h1 h2
     exact ok.uniq (List.nodup_cons.1 hn).2 j j' e1 e2 o h1 h2
    ·cases e
     rw[hcs];exact⟨rfl,rfl,hw,.head _,hb,fun j e' he=>(ok.one j e' he).1⟩
   ·cases h
  ·cases h
 ·cases h
theorem CO (h:bw F A w0 φ st tm w) {e:TE} {x:Value} (ht:dx st.ob w φ e x) {j:Nat} {e':CE} (he:(iM st e)[j]?=some e'): ∃v,ek st.ob w φ e' v:=by
 unfold iM at he
 split at he
 ·rename_i ag cs
  obtain⟨y,_,_,h3⟩:=(vh (cs:=cs) ht rfl).2 j e' he;exact⟨y,h3⟩
 ·split at he
  ·rename_i cs hb
   obtain⟨v,_,_,h3⟩:=h.box _ cs hb j e' he;exact⟨v,h3⟩
  ·simp at he
 ·simp at he
structure A6 (st:TS) (ps:List bY) (es:List TE) (own oE:List Nat):Prop where
 len:ps.length=es.length
 rd: ∀(i:Nat) (e:TE),ps[i]?=some .borrow→es[i]?=some e→ ∀d∈uc st e,d∈oE
 ow: ∀(i:Nat) (p:bY) (e:TE),ps[i]?=some p→es[i]?=some e→p≠ .borrow→ ∃l,afk st (By p) p.ms e l∧(∀x∈l,x∈own)∧(own.Nodup→l.Nodup)∧sJ st (By p) p.ms e=some l
 uniq:own.Nodup→ ∀(i i':Nat) (p p':bY) (e e':TE) (l l':List Nat) (x:Nat),ps[i]?=some p→ps[i']?=some p'→es[i]?=some e→es[i']?=some e'→p≠ .borrow→p'≠ .borrow→sJ st (By p) p.ms e=some l→sJ st (By p') p'.ms e'=some l'→x∈l→x∈l'→i=i'
 mem: ∀x∈own,∃(i:Nat) (p:bY) (e:TE) (l:List Nat),ps[i]?=some p∧es[i]?=some e∧p≠ .borrow∧sJ st (By p) p.ms e=some l∧x∈l
theorem Bz: ∀{ps:List bY} {es:List TE} {own oE:List Nat},CF st ps es=some (own,oE)→A6 st ps es own oE
 |[],[],own,oE,h=>by
  cases h
  exact⟨rfl,fun i e h=>by simp at h,fun i p e h=>by simp at h,fun _ i i' p p' e e' l l' x h=>by simp at h,fun x hx=>by cases hx⟩
 |[],_::_,_,_,h=>by cases h
 |_::_,[],_,_,h=>by cases h
 |p::ps,e::es,own,oE,h=>by
  simp only[CF] at h
  split at h
  ·rename_i own0 rd0 hg
   have ih:=Bz hg
   by_cases hp:p= .borrow
   ·subst hp
    cases h
    refine⟨by simp[ih.len],fun i e' h1 h2 d hd=> ?_,fun i p' e' h1 h2 X6=> ?_,fun hn i i' p' p'' e' e'' l l' x h1 h2 h3 h4 hp1 X8 h5 h6 h7 h8=> ?_,fun x hx=> ?_⟩
    ·cases i with
     |zero=>simp only[fu,bq] at h2;subst h2;exact kD _ hd
     |succ i=>exact p6 _ (ih.rd i e' (by simpa using h1) (by simpa using h2) d hd)
    ·cases i with
     |zero=>simp only[fu,bq] at h1;exact absurd h1.symm X6
     |succ i=>exact ih.ow i p' e' (by simpa using h1) (by simpa using h2) X6
    ·cases i with
     |zero=>simp only[fu,bq] at h1;exact absurd h1.symm hp1
     |succ i=>
      cases i' with
      |zero=>simp only[fu,bq] at h2;exact absurd h2.symm X8
      |succ i'=>rw[ih.uniq hn i i' p' p'' e' e'' l l' x (by simpa using h1) (by simpa using h2) (by simpa using h3) (by simpa using h4) hp1 X8 h5 h6 h7 h8]
    ·obtain⟨i,p',e',l,a1,a2,a3⟩:=ih.mem x hx
     exact⟨i+1,p',e',l,by simpa using a1,by simpa using a2,a3⟩
   ·obtain⟨l0,II,hown⟩: ∃l0,sJ st (By p) p.ms e=some l0∧(own,oE)=(l0++own0,rd0):=by
     cases p with
     |borrow=>exact absurd rfl hp
     |inout ms=>simp only at h;split at h;(rename_i l hl;exact⟨l,hl,by cases h;rfl⟩);cases h
     |consume ms=>simp only at h;split at h;(rename_i l hl;exact⟨l,hl,by cases h;rfl⟩);cases h
    cases hown
    refine⟨by simp[ih.len],fun i e' h1 h2 d hd=> ?_,fun i p' e' h1 h2 X6=> ?_,fun hn i i' p' p'' e' e'' l l' x h1 h2 h3 h4 hp1 X8 h5 h6 h7 h8=> ?_,fun x hx=> ?_⟩
    ·cases i with
     |zero=>simp only[fu,bq] at h1;exact absurd h1 hp
     |succ i=>exact ih.rd i e' (by simpa using h1) (by simpa using h2) d hd
    ·cases i with
     |zero=>
      simp only[fu,bq] at h1 h2;subst h1 h2;exact⟨l0,LW II,fun x hx=>kD _ hx,fun hn=>(List.nodup_append.1 hn).1,II⟩
     |succ i=>
      obtain⟨l,a,b,c,d⟩:=ih.ow i p' e' (by simpa using h1) (by simpa using h2) X6;exact⟨l,a,fun x hx=>p6 _ (b x hx),fun hn=>c (List.nodup_append.1 hn).2.1,d⟩
    ·have hd:=List.nodup_append.1 hn
     have tail: ∀{i:Nat} {p':bY} {e':TE} {l:List Nat},ps[i]?=some p'→es[i]?=some e'→p'≠ .borrow→sJ st (By p') p'.ms e'=some l→x∈l→x∈own0:=fun {i p' e' l} a1 a2 a3 a4 a5=>by
      obtain⟨l2,_,b,_,d⟩:=ih.ow i p' e' a1 a2 a3;rw[a4] at d;cases d;exact b x a5
     cases i with
     |zero=>
      simp only[fu,bq] at h1 h3;subst h1 h3;rw[II] at h5;cases h5
      cases i' with
      |zero=>rfl
      |succ i'=>exact absurd rfl (hd.2.2 x h7 x (tail (by simpa using h2) (by simpa using h4) X8 h6 h8))
     |succ i=>
      cases i' with
      |zero=>
       simp only[fu,bq] at h2 h4;subst h2 h4;rw[II] at h6;cases h6;exact absurd rfl (hd.2.2 x h8 x (tail (by simpa using h1) (by simpa using h3) hp1 h5 h7))
      |succ i'=>rw[ih.uniq hd.2.1 i i' p' p'' e' e'' l l' x (by simpa using h1) (by simpa using h2) (by simpa using h3) (by simpa using h4) hp1 X8 h5 h6 h7 h8]
    ·rcases List.mem_append.1 hx with hx|hx
     ·exact⟨0,p,e,l0,rfl,rfl,hp,II,hx⟩
     ·obtain⟨i,p',e',l,a1,a2,a3⟩:=ih.mem x hx
      exact⟨i+1,p',e',l,by simpa using a1,by simpa using a2,a3⟩
  ·cases h
noncomputable def XOf (w:World) (φ:Fp) (st:TS) (ps:List bY) (es:List TE) (i j k:Nat):Prop:=
 ∃p e,ps[i]?=some p∧es[i]?=some e∧p≠ .borrow∧xe w φ st ((iM st e).getD j .gone) k
def YOf (φ:Fp) (ps:List bY) (es:List TE) (i k:Nat):Prop:= ∃p b,ps[i]?=some p∧es[i]?=some (.bp b 0)∧p≠ .borrow∧k=(φ.β b).block
theorem Kk (h:bw F A w0 φ st tm w) {ps:List bY} {es:List TE} {own oE:List Nat} (g:A6 st ps es own oE) {xs:List Value} (Nx: ∀(i:Nat) (e:TE),es[i]?=some e→ ∃x,xs[i]?=some x∧dx st.ob w φ e x) {i j k:Nat} (hx:XOf w φ st ps es i j k):
 ∃p e e' o l,ps[i]?=some p∧es[i]?=some e∧p≠ .borrow∧(iM st e)[j]?=some e'∧mL e'=some o∧aT st.ob o∧φ.S o k∧sJ st (By p) p.ms e=some l∧2*o∈l∧2*o∈own:=by
 obtain⟨p,e,h1,h2,hp,hk⟩:=hx;obtain⟨l,ok,hl,_,II⟩:=g.ow i p e h1 h2 hp;obtain⟨x,_,ht⟩:=Nx i e h2
 cases he:(iM st e)[j]? with
 |none=>rw[List.getD,he] at hk;exact hk.elim
 |some e'=>
  rw[List.getD,he] at hk;obtain⟨v,hv⟩:=CO h ht he;obtain⟨⟨cb,_,ho,_⟩,hkey⟩:=ok.one j e' he;obtain⟨o,k1,k2,k3⟩:=afj h hv ho hk;exact⟨p,e,e',o,l,h1,h2,hp,he,k1,k2,k3,II,hkey o k1,hl _ (hkey o k1)⟩
theorem afl (h:bw F A w0 φ st tm w) {oE:List Nat} {Xs:Nat→Nat→Nat→Prop} {Ys:Nat→Nat→Prop}: ∀(ps:List bY) (es:List TE) (xs:List Value) (K:List TV→Ev R),ps.length=es.length→(∀(i:Nat) (e:TE),es[i]?=some e→ ∃x,xs[i]?=some x∧dx st.ob w φ e x)→
 (∀(i:Nat) (e:TE),ps[i]?=some .borrow→es[i]?=some e→ ∀d∈uc st e,d∈oE)→(∀(i:Nat) (p:bY) (e:TE),ps[i]?=some p→es[i]?=some e→p≠ .borrow→ ∃l,sJ st (By p) p.ms e=some l)→
 (∀(i:Nat) (p:bY) (e:TE) (v:TV) (x:Value),ps[i]?=some p→es[i]?=some e→p≠ .borrow→Bw w p (F2 φ st oE) (TP φ st oE) (fun j=>xe w φ st ((iM st e).getD j .gone)) (fun k=> ∃b,e= .bp b 0∧k=(φ.β b).block) v x→Bw w p (F2 φ st oE) (TP φ st oE) (Xs i) (Ys i) v x)→
 (Ym st es K).holds cf lp Q→ ∃vs,vs.length=es.length∧(∀(i:Nat) (v:TV),vs[i]?=some v→ ∃x,xs[i]?=some x∧Bw w (ps.getD i .borrow) (F2 φ st oE) (TP φ st oE) (Xs i) (Ys i) v x)∧(K vs).holds cf lp Q:=by
 intro ps es
 induction es generalizing ps Xs Ys with
 |nil=>intro xs K _ _ _ _ _ hk;exact⟨[],rfl,fun i v hv=>by simp at hv,hk⟩
 |cons e es ih=>
  intro xs K hl Nx hr ho hXY hk
  cases ps with
  |nil=>cases hl
  |cons p ps=>
   obtain⟨x,hx,ht⟩:=Nx 0 e rfl
   obtain⟨v,hv,hk⟩: ∃v,Bw w p (F2 φ st oE) (TP φ st oE) (Xs 0) (Ys 0) v x∧(Ym st es fun vs=>K (v::vs)).holds cf lp Q:=by
    by_cases hp:p= .borrow
    ·subst hp
     exact aa7 h ht (hr 0 e rfl rfl) hk
    ·obtain⟨l,hl⟩:=ho 0 p e rfl rfl hp
     obtain⟨v,a,b⟩:=ahF (Rg:=F2 φ st oE) (BB:=TP φ st oE) h ht hp hl (fun _ hI=>Or.inl hI) hk;exact⟨v,hXY 0 p e v x rfl rfl hp a,b⟩
   obtain⟨vs,v1,v2,v3⟩:=ih (Xs:=fun i=>Xs (i+1)) (Ys:=fun i=>Ys (i+1)) ps (xs.drop 1) (fun vs=>K (v::vs)) (by simpa using hl) (fun i e' he=>by
    obtain⟨x',a,b⟩:=Nx (i+1) e' (by simpa using he)
    exact⟨x',by rw[o5,Nat.add_comm];exact a,b⟩) (fun i e' h1 h2=>hr (i+1) e' (by simpa using h1) (by simpa using h2)) (fun i p' e' h1 h2 h3=>ho (i+1) p' e' (by simpa using h1) (by simpa using h2) h3)
    (fun i p' e' v' x' h1 h2 h3 h4=>hXY (i+1) p' e' v' x' (by simpa using h1) (by simpa using h2) h3 h4) hk
   refine⟨v::vs,by simp[v1],fun i v' hi=> ?_,v3⟩
   cases i with
   |zero=>simp only[fu,bq] at hi;subst hi;exact⟨x,hx,by simpa using hv⟩
   |succ i=>
    obtain⟨x',a,b⟩:=v2 i v' (by simpa using hi);refine⟨x',by rw[o5,Nat.add_comm] at a;exact a,?_⟩;simpa using b
theorem ahG (h:bw F A w0 φ st tm w) {ps:List bY} {es:List TE} {own oE:List Nat} (hg:CF st ps es=some (own,oE)) (hn:IL own=true) (hm:w9 own oE=false) {xs:List Value} (Nx: ∀(i:Nat) (e:TE),es[i]?=some e→ ∃x,xs[i]?=some x∧dx st.ob w φ e x)
 {K:List TV→Ev R} (hk:(Ym st es K).holds cf lp Q): ∃vs,(K vs).holds cf lp Q∧(yj vs=true→WO w ps vs xs (F2 φ st oE) (TP φ st oE) (XOf w φ st ps es) (YOf φ ps es)):=by
 have g:=Bz hg;have Ya:=IV.1 hn
 obtain⟨vs,v1,v2,v3⟩:=afl h (oE:=oE) (Xs:=XOf w φ st ps es) (Ys:=YOf φ ps es) ps es xs K g.len Nx g.rd (fun i p e h1 h2 hp=>let ⟨l,_,_,_,hl⟩:=g.ow i p e h1 h2 hp;⟨l,hl⟩) (fun i p e v x h1 h2 hp hin=>by
  have hXe: ∀j,XOf w φ st ps es i j=xe w φ st ((iM st e).getD j .gone):=fun j=>by
   funext k
   refine propext ⟨?_,fun hk=>⟨p,e,h1,h2,hp,hk⟩⟩;rintro⟨p',e',a1,a2,a3,a4⟩;rw[h2] at a2;cases a2;exact a4
  have hYe:YOf φ ps es i=fun k=> ∃b,e= .bp b 0∧k=(φ.β b).block:=by
   funext k
   refine propext ⟨?_,?_⟩
   ·rintro⟨p',b,a1,a2,a3,a4⟩
    rw[h2] at a2;cases a2;exact⟨b,rfl,a4⟩
   ·rintro⟨b,rfl,hk⟩
    exact⟨p,b,h1,h2,hp,hk⟩
  have:XOf w φ st ps es i=fun j=>xe w φ st ((iM st e).getD j .gone):=funext hXe;rw[this,hYe]
  exact hin) hk
 have notRg: ∀{o k},2*o∈own→aT st.ob o→φ.S o k→ ¬F2 φ st oE k:=fun {o k} ho hd hS hr=>by
  rcases hr with hr|⟨o',r1,r2,r3⟩
  ·exact h.sep.read o k hd hS hr
  ·rcases r2 with rfl|r2
   ·rw[h.sep.arg] at r3
    have:=h.sep.oY k r3;rcases (h.sep.fresh o k hd hS).2 with h3|h3
    ·omega
    ·exact this.2 h3
   ·have:=h.sep.apart o o' k hd r2 hS r3
    subst this;exact tw hm ho r1
 have notBB: ∀{o k},2*o∈own→aT st.ob o→φ.S o k→ ¬TP φ st oE k:=fun {o k} ho hd hS hb=>by
  rcases hb with hb|⟨b,cs,b1,b2,b3⟩
  ·exact notRg ho hd hS hb
  ·exact h.pW hd hS b2 b3.symm
 have yb: ∀{i k},YOf φ ps es i k→ ∃p b l,ps[i]?=some p∧es[i]?=some (.bp b 0)∧p≠ .borrow∧k=(φ.β b).block∧Bl b=true∧(∃cs,an b st.bx=some cs)∧sJ st (By p) p.ms (.bp b 0)=some l∧2*b+1∈l∧2*b+1∈own:=fun {i k} ⟨p,b,h1,h2,hp,hk⟩=>by
  obtain⟨l,ok,hl,_,II⟩:=g.ow i p _ h1 h2 hp;obtain⟨_,_,hw,hb1,hb2,_⟩:=ok.bx b 0 rfl;exact⟨p,b,l,h1,h2,hp,hk,hw,⟨_,hb2⟩,II,hb1,hl _ hb1⟩
 refine⟨vs,v3,fun hs=>⟨v2,hs,fun i j k hk=> ?_,fun i k hk=> ?_,fun k hk=> ?_,fun k hk=> ?_⟩⟩
 ·obtain⟨p,e,e',o,l,h1,h2,hp,he,hkey,hd,hS,II,hol,hoo⟩:=Kk h g Nx hk
  refine⟨(h.sep.fresh o k hd hS).1,notRg hoo hd hS,notBB hoo hd hS,fun i' hy=> ?_,fun i' j' hk'=> ?_⟩
  ·obtain⟨_,b,_,_,_,_,hkb,_,⟨cs,hb⟩,_⟩:=yb hy
   exact h.pW hd hS hb hkb.symm
  ·obtain⟨p',e2,e2',o',l',g1,g2,gp,ge,gkey,gd,gS,gl0,gol,goo⟩:=Kk h g Nx hk'
   have:=h.sep.apart o o' k hd gd hS gS;subst this;have hii:=g.uniq Ya i i' p p' e e2 l l' (2*o) h1 g1 h2 g2 hp gp II gl0 hol gol;subst hii;rw[h2] at g2;cases g2;rw[h1] at g1;cases g1;obtain⟨l2,ok,_,hln,Bn⟩:=g.ow i p e h1 h2 hp;exact⟨rfl,(ok.uniq (hln Ya) j j' e' e2' o he ge hkey gkey).symm⟩
 ·obtain⟨p,b,l,h1,h2,hp,rfl,hw,⟨cs,hb⟩,II,hbl,hbo⟩:=yb hk
  obtain⟨x1,x2,x3,x4⟩:=h.sep.box b cs hb hw
  have nrg: ¬F2 φ st oE (φ.β b).block:=fun hr=>by
   rcases hr with hr|⟨o',r1,r2,r3⟩
   ·exact x1 hr
   ·rcases r2 with rfl|r2
    ·rw[h.sep.arg] at r3
     have:=h.sep.oY _ r3;rcases x3 with h3|h3
     ·omega
     ·exact this.2 h3
    ·exact x2 o' r2 r3
  refine⟨(h.sep.spot b cs hb).2.1,nrg,fun TF=> ?_,fun i' hy=> ?_⟩
  ·rcases TF with hr|⟨b',cs',r1,r2,r3⟩
   ·exact nrg hr
   ·by_cases TF:b'=b
    ·subst TF;exact tw hm hbo r1
    ·exact x4 b' cs' r2 TF r3.symm
  ·obtain⟨p',b',l',g1,g2,gp,gk,gw,⟨cs',gb⟩,gl0,gbl,gbo⟩:=yb hy
   have TF:b'=b:=Classical.byContradiction fun hne=>x4 b' cs' gb hne gk.symm;subst TF;exact(g.uniq Ya i i' p p' _ _ l l' (2*b'+1) h1 g1 h2 g2 hp gp II gl0 hbl gbl).symm
 ·rcases hk with hk|⟨o,_,ho,hk⟩
  ·exact(h.sep.ro k hk).1
  ·exact h.sep.lt h.frm.size ho hk
 ·rcases hk with(hk|⟨o,_,ho,hk⟩)|⟨b,cs,_,hb,rfl⟩
  ·exact(h.sep.ro k hk).1
  ·exact h.sep.lt h.frm.size ho hk
  ·exact(h.sep.spot b cs hb).2.1
end Go.T
namespace Go.T
variable {F : Nat → Prop} {A : Arg} {w0 w w' : World} {φ φ' : Fp} {st st' sta eM qf : TS} {tm IF : Array Value} {C : mG}
variable {R : Type} {cf : Cf} {lp : Lp} {Q : R → Prop}
structure A7 (st st':TS) (os bs:List Nat):Prop where
 ob: ∀o,an o st'.ob=if o∈os then none else an o st.ob
 bx: ∀b cs,an b st'.bx=some cs→b∉bs∧ ∃cs0,an b st.bx=some cs0∧cs.length=cs0.length
theorem A7.refl (st:TS):A7 st st [] []:=⟨fun o=>by simp,fun b cs h=>⟨by simp,cs,h,rfl⟩⟩
theorem A7.trans {a b c:TS} {o1 o2 b1 b2:List Nat} (h:A7 a b o1 b1) (k:A7 b c o2 b2):A7 a c (o1++o2) (b1++b2):=by
 refine⟨fun o=> ?_,fun x cs hx=> ?_⟩
 ·rw[k.ob,h.ob]
  by_cases h1:o∈o1<;>by_cases h2:o∈o2<;>simp[h1,h2]
 ·obtain⟨n2,cs1,g1,g2⟩:=k.bx x cs hx
  obtain⟨n1,cs0,g3,g4⟩:=h.bx x cs1 g1;exact⟨fun hm=>(List.mem_append.1 hm).elim n1 n2,cs0,g3,g2.trans g4⟩
theorem A7.kill (st:TS) (o:Nat):A7 st (o6 o st) [o] []:=by
 refine⟨fun d=> ?_,fun b cs h=>⟨by simp,iX _ b cs h⟩⟩
 by_cases hd:d=o
 ·subst hd
  rw[aR (.head _)]
  cases hl:an d (o6 d st).ob with
  |none=>rfl
  |some b=>exact absurd rfl (lP.1 ⟨b,hl⟩).1
 ·rw[Vv hd,aJ (by simpa using hd)]
def rz:List CE→List Nat
 |[]=>[]
 | .ref o _::r=>o::rz r
 |_::r=>rz r
theorem F3 {o:Nat}: ∀{cs:List CE},o∈rz cs↔ ∃(j:Nat) (cut:Option (Int×Int)),cs[j]?=some (.ref o cut)
 |[]=>by simp[rz]
 |e::r=>by
  have ih:=F3 (o:=o) (cs:=r);have shift:(∃(j:Nat) (cut:Option (Int×Int)),r[j]?=some (.ref o cut))→ ∃(j:Nat) (cut:Option (Int×Int)),(e::r)[j]?=some (.ref o cut):=fun⟨j,cut,h⟩=>⟨j+1,cut,by simpa using h⟩
  cases e with
  |ref p cut=>
   simp only[rz,dJ]
   constructor
   ·rintro(rfl|h)
    ·exact⟨0,cut,rfl⟩
    ·exact shift (ih.1 h)
   ·rintro⟨j,c,h⟩
    cases j with
    |zero=>simp only[fu,bq,CE.ref.injEq] at h;exact .inl h.1.symm
    |succ j=>exact .inr (ih.2 ⟨j,c,by simpa using h⟩)
  |_=>
   simp only[rz];rw[ih]
   constructor
   ·exact shift
   ·rintro⟨j,c,h⟩
    cases j with
    |zero=>simp at h
    |succ j=>exact⟨j,c,by simpa using h⟩
theorem CP: ∀(cs:List CE) (st:TS),bw F A w0 φ st tm w→bw F A w0 φ (xu cs st) tm w∧A7 st (xu cs st) (rz cs) []
 |[],st,h=>⟨h,A7.refl st⟩
 |e::r,st,h=>by
  cases e with
  |ref o cut=>
   obtain⟨h1,h2⟩:=CP r (o6 o st) (h.o6 o);exact⟨h1,(A7.kill st o).trans h2⟩
  |_=>exact CP r st h
theorem ahH (h:bw F A w0 φ st tm w) (b:Nat):bw F A w0 φ ⟨st.tm,rG b st.bx,st.ob⟩ tm w∧A7 st ⟨st.tm,rG b st.bx,st.ob⟩ [] [b]:=by
 refine⟨h.less (fun i=> .inr rfl) (fun b' cs hb=> ?_) rfl,fun o=>by simp,fun b' cs hb=> ?_⟩
 ·simp only[jQ] at hb
  split at hb
  ·cases hb
  ·exact hb
 ·simp only[jQ] at hb
  split at hb
  ·cases hb
  ·rename_i hne
   exact⟨by simpa using hne,cs,hb,rfl⟩
def jG (rC:TS):List bY→List TE→List Nat
 |p::ps,e::es=>match p,e with
  | .consume _,.v false [.mk _ cs]=>rz cs++jG rC ps es
  | .inout _,.bp b _=>match an b rC.bx with
    |some cs=>rz cs++jG rC ps es
    |none=>jG rC ps es
  |_,_=>jG rC ps es
 |_,_=>[]
def pX (rC:TS):List bY→List TE→List Nat
 |p::ps,e::es=>match p,e with
  | .inout _,.bp b _=>match an b rC.bx with
    |some cs=>b::pX rC ps es
    |none=>pX rC ps es
  |_,_=>pX rC ps es
 |_,_=>[]
theorem YV {rC:TS}: ∀(ps:List bY) (es:List TE) (st:TS),bw F A w0 φ st tm w→bw F A w0 φ (vW rC ps es st) tm w∧A7 st (vW rC ps es st) (jG rC ps es) (pX rC ps es)
 |[],es,st,h=>by simp only[vW,jG,pX];exact⟨h,A7.refl st⟩
 |p::ps,[],st,h=>by simp only[vW,jG,pX];exact⟨h,A7.refl st⟩
 |p::ps,e::es,st,h=>by
  have ih:=YV (rC:=rC) ps es
  by_cases hc:(∃ms,p= .consume ms)∧ ∃ag cs,e= .v false [.mk ag cs]
  ·obtain⟨⟨ms,rfl⟩,ag,cs,rfl⟩:=hc
   obtain⟨h1,h2⟩:=CP cs st h;obtain⟨h3,h4⟩:=ih _ h1;exact⟨h3,(by simpa using h2.trans h4:A7 st (vW rC ps es (xu cs st)) (rz cs++jG rC ps es) (pX rC ps es))⟩
  ·by_cases hi:(∃ms,p= .inout ms)∧ ∃b off,e= .bp b off
   ·obtain⟨⟨ms,rfl⟩,b,off,rfl⟩:=hi
    simp only[vW,jG,pX]
    cases hb:an b rC.bx with
    |none=>exact ih st h
    |some cs=>
     simp only;obtain⟨h1,h2⟩:=CP cs st h;obtain⟨h3,h4⟩:=ahH h1 b;obtain⟨h5,h6⟩:=ih _ h3;have:=(h2.trans h4).trans h6;simp only[m0,tg,List.singleton_append] at this;exact⟨h5,this⟩
   ·have e1:vW rC (p::ps) (e::es) st=vW rC ps es st:=by
     simp only[vW]
     split
     ·exact absurd ⟨⟨_,rfl⟩,_,_,rfl⟩ hc
     ·exact absurd ⟨⟨_,rfl⟩,_,_,rfl⟩ hi
     ·rfl
    have e2:jG rC (p::ps) (e::es)=jG rC ps es:=by
     simp only[jG]
     split
     ·exact absurd ⟨⟨_,rfl⟩,_,_,rfl⟩ hc
     ·exact absurd ⟨⟨_,rfl⟩,_,_,rfl⟩ hi
     ·rfl
    have e3:pX rC (p::ps) (e::es)=pX rC ps es:=by
     simp only[pX]
     split
     ·exact absurd ⟨⟨_,rfl⟩,_,_,rfl⟩ hi
     ·rfl
    rw[e1,e2,e3];exact ih st h
theorem CQ {rC:TS} {o:Nat}: ∀{ps:List bY} {es:List TE},o∈jG rC ps es↔ ∃(i:Nat) (p:bY) (e:TE),ps[i]?=some p∧es[i]?=some e∧
 (((∃ms,p= .consume ms)∧ ∃ag cs,e= .v false [.mk ag cs]∧o∈rz cs)∨((∃ms,p= .inout ms)∧ ∃b off cs,e= .bp b off∧an b rC.bx=some cs∧o∈rz cs))
 |[],es=>by simp[jG]
 |p::ps,[]=>by simp[jG]
 |p::ps,e::es=>by
  have ih:=CQ (rC:=rC) (o:=o) (ps:=ps) (es:=es)
  have shift:o∈jG rC ps es→ ∃(i:Nat) (p':bY) (e':TE),(p::ps)[i]?=some p'∧(e::es)[i]?=some e'∧
   (((∃ms,p'= .consume ms)∧ ∃ag cs,e'= .v false [.mk ag cs]∧o∈rz cs)∨((∃ms,p'= .inout ms)∧ ∃b off cs,e'= .bp b off∧an b rC.bx=some cs∧o∈rz cs)):=fun h=>by
   obtain⟨i,p',e',a,b,c⟩:=ih.1 h;exact⟨i+1,p',e',by simpa using a,by simpa using b,c⟩
  have back: ∀{i:Nat} {p':bY} {e':TE},(p::ps)[i+1]?=some p'→(e::es)[i+1]?=some e'→
   (((∃ms,p'= .consume ms)∧ ∃ag cs,e'= .v false [.mk ag cs]∧o∈rz cs)∨((∃ms,p'= .inout ms)∧ ∃b off cs,e'= .bp b off∧an b rC.bx=some cs∧o∈rz cs))→o∈jG rC ps es:=fun {i p' e'} a b c=>
   ih.2 ⟨i,p',e',by simpa using a,by simpa using b,c⟩
  simp only[jG]
  split
  ·rename_i ag cs
   rw[List.mem_append]
   constructor
   ·rintro(h|h)
    ·exact⟨0,_,_,rfl,rfl,.inl ⟨⟨_,rfl⟩,ag,cs,rfl,h⟩⟩
    ·exact shift h
   ·rintro⟨i,p',e',a,b,c⟩
    cases i with
    |zero=>
     simp only[fu,bq] at a b;subst a b;rcases c with⟨_,ag',cs',e1,h⟩|⟨e1,_⟩
     ·cases e1;exact .inl h
     ·obtain⟨_,e1⟩:=e1;cases e1
    |succ i=>exact .inr (back a b c)
  ·rename_i b off
   split
   ·rename_i cs hb
    rw[List.mem_append]
    constructor
    ·rintro(h|h)
     ·exact⟨0,_,_,rfl,rfl,.inr ⟨⟨_,rfl⟩,b,off,cs,rfl,hb,h⟩⟩
     ·exact shift h
    ·rintro⟨i,p',e',a,b',c⟩
     cases i with
     |zero=>
      simp only[fu,bq] at a b';subst a b';rcases c with⟨⟨_,e1⟩,_⟩|⟨_,b2,off2,cs2,e1,h2,h⟩
      ·cases e1
      ·cases e1;rw[hb] at h2;cases h2;exact .inl h
     |succ i=>exact .inr (back a b' c)
   ·rename_i hb
    constructor
    ·exact shift
    ·rintro⟨i,p',e',a,b',c⟩
     cases i with
     |zero=>
      simp only[fu,bq] at a b';subst a b';rcases c with⟨⟨_,e1⟩,_⟩|⟨_,b2,off2,cs2,e1,h2,h⟩
      ·cases e1
      ·cases e1;rw[hb] at h2;cases h2
     |succ i=>exact back a b' c
  ·rename_i n1 n2
   constructor
   ·exact shift
   ·rintro⟨i,p',e',a,b',c⟩
    cases i with
    |zero=>
     simp only[fu,bq] at a b';subst a b';rcases c with⟨⟨_,rfl⟩,ag,cs,rfl,h⟩|⟨⟨ms,rfl⟩,b2,off2,cs2,rfl,h2,h⟩
     ·exact(n1 _ _ _ rfl rfl).elim
     ·exact(n2 _ _ _ rfl rfl).elim
    |succ i=>exact back a b' c
theorem IW {rC:TS} {b:Nat}: ∀{ps:List bY} {es:List TE},b∈pX rC ps es↔ ∃(i:Nat) (ms:List Mode) (off:Nat) (cs:List CE),ps[i]?=some (.inout ms)∧es[i]?=some (.bp b off)∧an b rC.bx=some cs
 |[],es=>by simp[pX]
 |p::ps,[]=>by simp[pX]
 |p::ps,e::es=>by
  have ih:=IW (rC:=rC) (b:=b) (ps:=ps) (es:=es)
  have shift:b∈pX rC ps es→ ∃(i:Nat) (ms:List Mode) (off:Nat) (cs:List CE),(p::ps)[i]?=some (.inout ms)∧(e::es)[i]?=some (.bp b off)∧an b rC.bx=some cs:=fun h=>by
   obtain⟨i,ms,off,cs,x,y,z⟩:=ih.1 h;exact⟨i+1,ms,off,cs,by simpa using x,by simpa using y,z⟩
  simp only[pX]
  split
  ·rename_i b' off'
   split
   ·rename_i cs hb
    rw[dJ]
    constructor
    ·rintro(rfl|h)
     ·exact⟨0,_,off',cs,rfl,rfl,hb⟩
     ·exact shift h
    ·rintro⟨i,ms,off,cs',x,y,z⟩
     cases i with
     |zero=>simp only[fu,bq,TE.bp.injEq] at y;exact .inl y.1.symm
     |succ i=>exact .inr (ih.2 ⟨i,ms,off,cs',by simpa using x,by simpa using y,z⟩)
   ·rename_i hb
    constructor
    ·exact shift
    ·rintro⟨i,ms,off,cs',x,y,z⟩
     cases i with
     |zero=>simp only[fu,bq,TE.bp.injEq] at y;rw[y.1] at hb;rw[hb] at z;cases z
     |succ i=>exact ih.2 ⟨i,ms,off,cs',by simpa using x,by simpa using y,z⟩
  ·rename_i n1
   constructor
   ·exact shift
   ·rintro⟨i,ms,off,cs',x,y,z⟩
    cases i with
    |zero=>
     simp only[fu,bq] at x y;subst x y;exact(n1 _ _ _ rfl rfl).elim
    |succ i=>exact ih.2 ⟨i,ms,off,cs',by simpa using x,by simpa using y,z⟩
theorem xD: ∀(os:List Nat) (st:TS) (φ:Fp),bw F A w0 φ st tm w→ ∃φ',bw F A w0 φ' (vf st os) tm w∧φ'.β=φ.β∧φ'.V=φ.V∧φ'.S=φ.S∧(∀k,φ'.I k↔φ.I k∨ ∃o∈os,aT st.ob o∧φ.S o k)∧A7 st (vf st os) os []
 |[],st,φ,h=>⟨φ,h,rfl,rfl,rfl,fun k=>by simp,A7.refl st⟩
 |o::r,st,φ,h=>by
  obtain⟨φ1,h1,a1,a2,a3,a4⟩:=h.zL o
  have hl:A7 st (zL st o) [o] []:=by
   unfold T.zL
   cases hb:an o st.ob with
   |none=>
    refine⟨fun d=> ?_,fun b cs hb=>⟨by simp,cs,hb,rfl⟩⟩
    by_cases hd:d=o
    ·subst hd;rw[aR (.head _)];exact hb
    ·rw[aJ (by simpa using hd)]
   |some b=>
    refine⟨fun d=> ?_,fun b cs hb=>⟨by simp,iX _ b cs hb⟩⟩;show an d (rG o st.ob)=_;rw[jQ]
    by_cases hd:d=o<;>simp[hd]
  obtain⟨φ2,h2,b1,b2,b3,b4,b5⟩:=xD r (zL st o) φ1 h1;refine⟨φ2,h2,b1.trans a1,b2.trans a2,b3.trans a3,fun k=> ?_,hl.trans b5⟩;rw[b4,a4,a3]
  constructor
  ·rintro((hk|hk)|⟨o',ho',hd,hk⟩)
   ·exact .inl hk
   ·exact .inr ⟨o,.head _,hk⟩
   ·refine .inr ⟨o',.tail _ ho',?_,hk⟩
    obtain⟨b,hb⟩:=hd;rw[hl.ob] at hb
    split at hb
    ·cases hb
    ·exact⟨b,hb⟩
  ·rintro(hk|⟨o',ho',hd,hk⟩)
   ·exact .inl (.inl hk)
   ·by_cases he:o'=o
    ·subst he;exact .inl (.inr ⟨hd,hk⟩)
    ·refine .inr ⟨o',(dJ.1 ho').resolve_left he,?_,hk⟩
     obtain⟨b,hb⟩:=hd;exact⟨b,by rw[hl.ob,aJ (by simpa using he)];exact hb⟩
theorem aa9 {e:TE} {o:Nat}:o∈FL st e↔2*o∈uc st e:=by
 have key: ∀(l:List Nat),2*o∈l.map (2* ·)↔o∈l:=fun l=>by
  rw[List.mem_map]
  constructor
  ·rintro⟨x,hx,e⟩
   have:x=o:=by omega
   subst this;exact hx
  ·intro h;exact⟨o,h,rfl⟩
 have bxk: ∀b,2*o∈CC st b↔o∈(match an b st.bx with|some cs=>cs.flatMap ig|none=>[]):=fun b=>by
  unfold CC
  cases an b st.bx with
  |none=>simp;omega
  |some cs=>
   simp only[dJ];rw[key]
   constructor
   ·rintro(h|h)
    ·omega
    ·exact h
   ·exact .inr
 cases e with
 |v t es=>simp only[FL,uc,AX];exact(key _).symm
 |ep d cells=>simp only[FL,uc,AX];exact(key _).symm
 |er r p i f=>simp only[FL,uc,AX,j6];constructor<;>intro h<;>omega
 |bp b off=>simp only[FL,uc];exact(bxk b).symm
 |fn f caps=>
  simp only[FL,uc,List.mem_flatMap]
  constructor
  ·rintro⟨b,h1,h2⟩;exact⟨b,h1,(bxk b).2 h2⟩
  ·rintro⟨b,h1,h2⟩;exact⟨b,h1,(bxk b).1 h2⟩
 |_=>simp[FL,uc,AX]
theorem yw {o:Nat}: ∀{ps:List bY} {es:List TE} {own oE:List Nat},CF st ps es=some (own,oE)→(o∈borrowed st ps es↔2*o∈oE)
 |[],[],own,oE,h=>by cases h;simp[borrowed]
 |[],_::_,_,_,h=>by cases h
 |_::_,[],_,_,h=>by cases h
 |p::ps,e::es,own,oE,h=>by
  simp only[CF] at h
  split at h
  ·rename_i own0 rd0 hg
   have ih:=yw (o:=o) hg
   cases p with
   |borrow=>cases h;simp only[borrowed,List.mem_append];rw[aa9,ih]
   |inout ms=>
    simp only at h
    split at h
    ·cases h;exact ih
    ·cases h
   |consume ms=>
    simp only at h
    split at h
    ·cases h;exact ih
    ·cases h
  ·cases h
end Go.T
namespace Go.T
variable {F : Nat → Prop} {A : Arg} {w0 w w' : World} {φ φ' : Fp} {st st' sta eM qf : TS} {tm IF : Array Value} {C : mG}
variable {R : Type} {cf : Cf} {lp : Lp} {Q : R → Prop}
def Qq:List bY→List TV→Nat→Option TV
 |[],_,_=>none
 |p::ps,fs,i=>match p with
  | .inout _=>match fs with
    |[]=>none
    |f::fs=>match i with
     |0=>some f
     |i+1=>Qq ps fs i
  |_=>match i with
   |0=>none
   |i+1=>Qq ps fs i
def acy (w:World) (NB:Nat→Prop) (dV:List It) (pos:Nat→Nat) (ms:List Mode) (f:TV) (x:Value):Prop:=match f with
 | .c c=>dV[pos 0]?=some (.deep,c,x)
 | .ag cs=> ∃ys:Array Value,x= .agg ys∧ys.size=cs.length∧ ∀(j:Nat) (c:TC),cs[j]?=some c→ ∃u,ys[j]?=some u∧dV[pos j]?=some (.deep,c,u)
 | .bx cs=> ∃(ad:Addr) (us:List Value),x= .pointer (some ad)∧us.length=cs.length∧NB ad.block∧(∀(j:Nat) (u:Value),us[j]?=some u→w.cell? (ad.add j)=some u∧u.cells= #[u]∧w.frozen? (ad.add j)=false)∧
     ∀(j:Nat) (c:TC),cs[j]?=some c→ ∃u,us[j]?=some u∧dV[pos j]?=some (mA2 ms j,c,u)
 |_=>False
structure ajP (w:World) (NB:Nat→Prop) (ps:List bY) (xs:List Value) (fs:List TV) (dV:List It) (pos:Nat→Nat→Nat):Prop where
 lt: ∀i f j,Qq ps fs i=some f→j<(gx f).length→pos i j<dV.length
 inj: ∀i i' f f' j j',Qq ps fs i=some f→j<(gx f).length→Qq ps fs i'=some f'→j'<(gx f').length→pos i j=pos i' j'→i=i'∧j=j'
 at': ∀i f,Qq ps fs i=some f→ ∃ms,ps[i]?=some (.inout ms)∧ ∃x,xs[i]?=some x∧acy w NB dV (pos i) ms f x
theorem VL {cs:List TC}: ∀{ms:List Mode} {vs:List Value} {j:Nat} {c:TC} {v:Value},cs[j]?=some c→vs[j]?=some v→(ez (Yn ms cs) cs vs)[j]?=some (mA2 ms j,c,v):=by
 induction cs with
 |nil=>intro ms vs j c v h;simp at h
 |cons c0 cs ih=>
  intro ms vs j c v h1 h2
  cases vs with
  |nil=>simp at h2
  |cons v0 vs=>
   cases j with
   |zero=>simp only[fu,bq] at h1 h2;subst h1 h2;rw[ae4];rfl
   |succ j=>rw[ae5];exact ih (ms:=ms.drop 1) (by simpa using h1) (by simpa using h2)
theorem WY {cs:List TC} {vs:List Value} {j:Nat} {c:TC} {v:Value} (h1:cs[j]?=some c) (h2:vs[j]?=some v):(ez (Yn [] cs) cs vs)[j]?=some (.deep,c,v):=VL h1 h2
theorem acy.shift {NB:Nat→Prop} {a b:List It} {pos:Nat→Nat} {ms:List Mode} {f:TV} {x:Value} (h:acy w NB b pos ms f x):acy w NB (a++b) (fun j=>a.length+pos j) ms f x:=by
 have sh: ∀{n:Nat} {it:It},b[n]?=some it→(a++b)[a.length+n]?=some it:=fun {n it} hn=>by rw[m7 au,Nat.add_sub_cancel_left];exact hn
 cases f with
 |c c=>exact sh h
 |ag cs=>obtain⟨ys,h1,h2,h3⟩:=h;exact⟨ys,h1,h2,fun j c hj=>let ⟨u,a1,a2⟩:=h3 j c hj;⟨u,a1,sh a2⟩⟩
 |bx cs=>obtain⟨ad,us,h1,h2,h3,h4,h5⟩:=h;exact⟨ad,us,h1,h2,h3,h4,fun j c hj=>let ⟨u,a1,a2⟩:=h5 j c hj;⟨u,a1,sh a2⟩⟩
 |_=>exact h
theorem aba {NB:Nat→Prop}: ∀{ps:List bY} {xs:List Value} {fs:List TV} {dV:List It},zU w NB ps xs fs dV→ ∃pos,ajP w NB ps xs fs dV pos
 |[],[],fs,dV,h=>⟨fun _ _=>0,fun i f j h=>by simp[Qq] at h,fun i i' f f' j j' h=>by simp[Qq] at h,fun i f h=>by simp[Qq] at h⟩
 |[],_::_,_,_,h=>h.elim
 |_::_,[],_,_,h=>h.elim
 |p::ps,x::xs,fs,dV,h=>by
  by_cases hp: ∃ms,p= .inout ms
  ·obtain⟨ms,rfl⟩:=hp
   cases fs with
   |nil=>exact h.elim
   |cons f fs=>
    obtain⟨a,b,rfl,hr,hf⟩:=h;obtain⟨pos,p1,p2,p3⟩:=aba hr
    have hlen:(gx f).length=a.length:=by
     cases f with
     |c c=>have hf:a=[(.deep,c,x)]:=hf.2;subst hf;rfl
     |ag cs=>obtain⟨_,ys,_,h2,rfl⟩:=hf;exact(nX (ms:=Yn [] cs) (cs:=cs) (vs:=ys.toList) (by simp[h2])).symm
     |bx cs=>obtain⟨ad,us,_,h2,_,_,rfl⟩:=hf;exact(nX (ms:=Yn ms cs) (cs:=cs) (vs:=us) h2.symm).symm
     |_=>exact hf.elim
    refine⟨fun i j=>match i with|0=>j|i+1=>a.length+pos i j,fun i f' j hi hj=> ?_,fun i i' f1 f2 j j' h1 h2 h3 h4 he=> ?_,fun i f' hi=> ?_⟩
    ·rw[ct]
     cases i with
     |zero=>simp only[Qq,bq] at hi;subst hi;simp only;omega
     |succ i=>have:=p1 i f' j hi hj;simp only;omega
    ·cases i with
     |zero=>
      simp only[Qq,bq] at h1;subst h1
      cases i' with
      |zero=>exact⟨rfl,he⟩
      |succ i'=>simp only at he;omega
     |succ i=>
      cases i' with
      |zero=>
       simp only[Qq,bq] at h3;subst h3;simp only at he;omega
      |succ i'=>
       simp only at he;obtain⟨e1,e2⟩:=p2 i i' f1 f2 j j' h1 h2 h3 h4 au;exact⟨by omega,e2⟩
    ·cases i with
     |zero=>
      simp only[Qq,bq] at hi;subst hi
      have lf: ∀{n:Nat} {it:It},a[n]?=some it→(a++b)[n]?=some it:=fun {n it} hn=>by rw[kC (List.getElem?_eq_some_iff.1 hn).1];exact hn
      refine⟨ms,rfl,x,rfl,?_⟩
      cases f with
      |c c=>have hf:a=[(.deep,c,x)]:=hf.2;subst hf;rfl
      |ag cs=>
       obtain⟨_,ys,h1,h2,rfl⟩:=hf;refine⟨ys,h1,h2,fun j c hj=> ?_⟩
       have hlt:j<ys.size:=by rw[h2];exact(List.getElem?_eq_some_iff.1 hj).1
       exact⟨ys[j],w8 hlt,lf (WY hj (by simp[hlt]))⟩
      |bx cs=>
       obtain⟨ad,us,h1,h2,h3,h4,rfl⟩:=hf;refine⟨ad,us,h1,h2,h3,h4,fun j c hj=> ?_⟩
       have hlt:j<us.length:=by rw[h2];exact(List.getElem?_eq_some_iff.1 hj).1
       exact⟨us[j],bC hlt,lf (VL hj (bC hlt))⟩
      |_=>exact hf.elim
     |succ i=>
      obtain⟨ms',y0,y,y1,y2⟩:=p3 i f' hi;exact⟨ms',by simpa using y0,y,by simpa using y1,y2.shift⟩
  ·have hr:zU w NB ps xs fs dV:=by cases p<;>first|exact h|exact absurd ⟨_,rfl⟩ hp
   obtain⟨pos,p1,p2,p3⟩:=aba hr
   have hz: ∀fs,Qq (p::ps) fs 0=none:=fun fs=>by cases p<;>first|rfl|exact absurd ⟨_,rfl⟩ hp
   have hs: ∀fs i,Qq (p::ps) fs (i+1)=Qq ps fs i:=fun fs i=>by cases p<;>first|rfl|exact absurd ⟨_,rfl⟩ hp
   refine⟨fun i j=>pos (i-1) j,fun i f j hi hj=> ?_,fun i i' f1 f2 j j' h1 h2 h3 h4 he=> ?_,fun i f hi=> ?_⟩
   ·cases i with
    |zero=>rw[hz] at hi;cases hi
    |succ i=>rw[hs] at hi;exact p1 i f j hi hj
   ·cases i with
    |zero=>rw[hz] at h1;cases h1
    |succ i=>
     cases i' with
     |zero=>rw[hz] at h3;cases h3
     |succ i'=>rw[hs] at h1 h3;obtain⟨e1,e2⟩:=p2 i i' f1 f2 j j' h1 h2 h3 h4 he;exact⟨by omega,e2⟩
   ·cases i with
    |zero=>rw[hz] at hi;cases hi
    |succ i=>
     rw[hs] at hi;obtain⟨ms',y0,y,y1,y2⟩:=p3 i f hi;exact⟨ms',by simpa using y0,y,by simpa using y1,y2⟩
structure CR (st:TS) (ps:List bY) (es:List TE) (fs:List TV) (W:List (Nat×OB)) (B:List (Nat×List Mode×List TC)):Prop where
 memW: ∀o b',(o,b')∈W→ ∃(i:Nat) (ms:List Mode) (f:TV) (ag:Bool) (cs:List CE) (j:Nat) (c:TC) (e':CE),ps[i]?=some (.inout ms)∧es[i]?=some (.v false [.mk ag cs])∧Qq ps fs i=some f∧(gx f)[j]?=some c∧cs[j]?=some e'∧ve st e' c=some [(o,b')]∧(f= .c c∧ag=false∧cs=[e']∨ ∃ts,f= .ag ts∧ag=true)
 allW: ∀(i:Nat) (ms:List Mode) (ag:Bool) (cs:List CE),ps[i]?=some (.inout ms)→es[i]?=some (.v false [.mk ag cs])→ ∃f,Qq ps fs i=some f∧ ∀(j:Nat) (e':CE),cs[j]?=some e'→ ∃c l,(gx f)[j]?=some c∧ve st e' c=some l∧ ∀x∈l,x∈W
 memB: ∀b ms ts,(b,ms,ts)∈B→ ∃(i:Nat) (cs:List CE),ps[i]?=some (.inout ms)∧es[i]?=some (.bp b 0)∧Qq ps fs i=some (.bx ts)∧an b st.bx=some cs∧cs.length=ts.length
 ndB:(∀(i i' b:Nat) (ms ms':List Mode),ps[i]?=some (.inout ms)→ps[i']?=some (.inout ms')→es[i]?=some (.bp b 0)→es[i']?=some (.bp b 0)→i=i')→B.Pairwise fun x y=>x.1≠y.1
theorem CS {e:CE} {c:TC} {l:List (Nat×OB)} (h:ve st e c=some l):l=[]∨ ∃o b',l=[(o,b')]∧mL e=some o:=by
 unfold ve at h
 split at h
 ·cases h;exact .inl rfl
 ·cases h;exact .inl rfl
 ·split at h
  ·split at h
   ·cases h;exact .inr ⟨_,_,rfl,rfl⟩
   ·cases h
  ·cases h
 ·split at h
  ·cases h;exact .inr ⟨_,_,rfl,rfl⟩
  ·cases h
 ·cases h
theorem NL: ∀{cs:List CE} {ts:List TC} {l:List (Nat×OB)},Qn st cs ts=some l→ts.length=cs.length∧(∀x∈l,∃(j:Nat) (e':CE) (c:TC) (l':List (Nat×OB)),cs[j]?=some e'∧ts[j]?=some c∧ve st e' c=some l'∧x∈l')∧
 ∀(j:Nat) (e':CE),cs[j]?=some e'→ ∃c l',ts[j]?=some c∧ve st e' c=some l'∧ ∀x∈l',x∈l
 |[],[],l,h=>by cases h;exact⟨rfl,fun x hx=>(by cases hx),fun j e' he=>by simp at he⟩
 |[],_::_,_,h=>by cases h
 |_::_,[],_,h=>by cases h
 |e::r,c::cs,l,h=>by
  simp only[Qn] at h
  split at h
  ·rename_i a b h1 h2
   cases h
   obtain⟨g1,g2,g3⟩:=NL h2;refine⟨by simp[g1],fun x hx=> ?_,fun j e' he=> ?_⟩
   ·rcases List.mem_append.1 hx with hx|hx
    ·exact⟨0,e,c,a,rfl,rfl,h1,hx⟩
    ·obtain⟨j,e',c',l',a1,a2,a3,a4⟩:=g2 x hx
     exact⟨j+1,e',c',l',by simpa using a1,by simpa using a2,a3,a4⟩
   ·cases j with
    |zero=>simp only[fu,bq] at he;subst he;exact⟨c,a,rfl,h1,fun x hx=>kD _ hx⟩
    |succ j=>
     obtain⟨c',l',a1,a2,a3⟩:=g3 j e' (by simpa using he);exact⟨c',l',by simpa using a1,a2,fun x hx=>p6 _ (a3 x hx)⟩
  ·cases h
theorem CR.skip {p:bY} {ps:List bY} {e:TE} {es:List TE} {fs:List TV} {W:List (Nat×OB)} {B:List (Nat×List Mode×List TC)} (ih:CR st ps es fs W B) (hp: ¬ ∃ms,p= .inout ms):CR st (p::ps) (e::es) fs W B:=by
 have hs: ∀fs i,Qq (p::ps) fs (i+1)=Qq ps fs i:=fun fs i=>by cases p<;>first|rfl|exact absurd ⟨_,rfl⟩ hp
 refine⟨fun o b' hm=> ?_,fun i ms ag cs h1 h2=> ?_,fun b ms ts hm=> ?_,fun hu=>ih.ndB fun i i' b ms ms' h1 h2 h3 h4=> ?_⟩
 ·obtain⟨i,ms,f,ag,cs,j,c,e',a1,a2,a3,a4⟩:=ih.memW o b' hm
  exact⟨i+1,ms,f,ag,cs,j,c,e',by simpa using a1,by simpa using a2,by rw[hs];exact a3,a4⟩
 ·cases i with
  |zero=>simp only[fu,bq] at h1;exact absurd ⟨_,h1⟩ hp
  |succ i=>
   obtain⟨f,a1,a2⟩:=ih.allW i ms ag cs (by simpa using h1) (by simpa using h2);exact⟨f,by rw[hs];exact a1,a2⟩
 ·obtain⟨i,cs,a1,a2,a3,a4⟩:=ih.memB b ms ts hm
  exact⟨i+1,cs,by simpa using a1,by simpa using a2,by rw[hs];exact a3,a4⟩
 ·have:=hu (i+1) (i'+1) b ms ms' (by simpa using h1) (by simpa using h2) (by simpa using h3) (by simpa using h4)
  omega
theorem yx: ∀{ps:List bY} {es:List TE} {fs:List TV} {W:List (Nat×OB)} {B:List (Nat×List Mode×List TC)},xw st ps es fs=some (W,B)→CR st ps es fs W B
 |[],[],[],W,B,h=>by
  cases h
  exact⟨fun o b' hm=>(by cases hm),fun i ms ag cs h=>by simp at h,fun b ms ts hm=>(by cases hm),fun _=> .nil⟩
 |[],[],_::_,_,_,h=>by cases h
 |[],_::_,_,_,_,h=>by cases h
 |_::_,[],_,_,_,h=>by cases h
 |p::ps,e::es,fs,W,B,h=>by
  by_cases hp: ∃ms,p= .inout ms
  ·obtain⟨ms0,rfl⟩:=hp
   have shiftW: ∀{f:TV} {fs:List TV} {W:List (Nat×OB)} {B:List (Nat×List Mode×List TC)},CR st ps es fs W B→ ∀o b',(o,b')∈W→ ∃(i:Nat) (ms:List Mode) (f':TV) (ag:Bool) (cs:List CE) (j:Nat) (c:TC) (e':CE),(bY.inout ms0::ps)[i]?=some (.inout ms)∧(e::es)[i]?=some (.v false [.mk ag cs])∧Qq (.inout ms0::ps) (f::fs) i=some f'∧(gx f')[j]?=some c∧cs[j]?=some e'∧ve st e' c=some [(o,b')]∧
    (f'= .c c∧ag=false∧cs=[e']∨ ∃ts,f'= .ag ts∧ag=true):=fun ih o b' hm=>by
    obtain⟨i,ms,f',ag,cs,j,c,e',a1,a2,a3,a4⟩:=ih.memW o b' hm;exact⟨i+1,ms,f',ag,cs,j,c,e',by simpa using a1,by simpa using a2,a3,a4⟩
   have shiftB: ∀{f:TV} {fs:List TV} {W:List (Nat×OB)} {B:List (Nat×List Mode×List TC)},CR st ps es fs W B→ ∀b ms ts,(b,ms,ts)∈B→ ∃(i:Nat) (cs:List CE),(bY.inout ms0::ps)[i]?=some (.inout ms)∧(e::es)[i]?=some (.bp b 0)∧Qq (.inout ms0::ps) (f::fs) i=some (.bx ts)∧an b st.bx=some cs∧cs.length=ts.length:=fun ih b ms ts hm=>by
    obtain⟨i,cs,a1,a2,a3,a4⟩:=ih.memB b ms ts hm;exact⟨i+1,cs,by simpa using a1,by simpa using a2,a3,a4⟩
   have shiftU: ∀{fs:List TV} {W:List (Nat×OB)} {B:List (Nat×List Mode×List TC)},CR st ps es fs W B→(∀(i i' b:Nat) (ms ms':List Mode),(bY.inout ms0::ps)[i]?=some (.inout ms)→(bY.inout ms0::ps)[i']?=some (.inout ms')→(e::es)[i]?=some (.bp b 0)→(e::es)[i']?=some (.bp b 0)→i=i')→B.Pairwise fun x y=>x.1≠y.1:=fun ih hu=>by
    refine ih.ndB fun i i' b ms ms' h1 h2 h3 h4=> ?_;have:=hu (i+1) (i'+1) b ms ms' (by simpa using h1) (by simpa using h2) (by simpa using h3) (by simpa using h4);omega
   simp only[xw] at h
   split at h
   ·rename_i e0 c0 fs0
    split at h
    ·rename_i a b bs h1 h2
     cases h
     have ih:=yx h2;refine⟨fun o b' hm=> ?_,fun i ms ag cs g1 g2=> ?_,shiftB ih,shiftU ih⟩
     ·rcases List.mem_append.1 hm with hm|hm
      ·rcases CS h1 with rfl|⟨o1,b1,rfl,_⟩
       ·cases hm
       ·simp only[j6] at hm
        cases hm
        exact⟨0,_,_,false,[e0],0,c0,e0,rfl,rfl,rfl,rfl,rfl,h1,.inl ⟨rfl,rfl,rfl⟩⟩
      ·exact shiftW ih o b' hm
     ·cases i with
      |zero=>
       simp only[fu,bq,TE.v.injEq,List.cons.injEq,rF.mk.injEq,and_true,true_and] at g2;obtain⟨rfl,rfl⟩:=g2;refine⟨_,rfl,fun j e' he=> ?_⟩
       cases j with
       |zero=>simp only[fu,bq] at he;subst he;exact⟨c0,a,rfl,h1,fun x hx=>kD _ hx⟩
       |succ j=>simp at he
      |succ i=>
       obtain⟨f,a1,a2⟩:=ih.allW i ms ag cs (by simpa using g1) (by simpa using g2);refine⟨f,a1,fun j e' he=> ?_⟩;obtain⟨c,l,b1,b2,b3⟩:=a2 j e' he;exact⟨c,l,b1,b2,fun x hx=>p6 _ (b3 x hx)⟩
    ·cases h
   ·rename_i cs0 ts0 fs0
    split at h
    ·rename_i a b bs h1 h2
     cases h
     have ih:=yx h2;obtain⟨q1,q2,q3⟩:=NL h1;refine⟨fun o b' hm=> ?_,fun i ms ag cs g1 g2=> ?_,shiftB ih,shiftU ih⟩
     ·rcases List.mem_append.1 hm with hm|hm
      ·obtain⟨j,e',c,l',x1,x2,x3,x4⟩:=q2 _ hm
       rcases CS x3 with rfl|⟨o1,b1,rfl,_⟩
       ·cases x4
       ·simp only[j6] at x4
        cases x4
        exact⟨0,_,_,true,cs0,j,c,e',rfl,rfl,rfl,x2,x1,x3,.inr ⟨_,rfl,rfl⟩⟩
      ·exact shiftW ih o b' hm
     ·cases i with
      |zero=>
       simp only[fu,bq,TE.v.injEq,List.cons.injEq,rF.mk.injEq,and_true,true_and] at g2;obtain⟨rfl,rfl⟩:=g2;refine⟨_,rfl,fun j e' he=> ?_⟩;obtain⟨c,l',x1,x2,x3⟩:=q3 j e' he;exact⟨c,l',x1,x2,fun x hx=>kD _ (x3 x hx)⟩
      |succ i=>
       obtain⟨f,a1,a2⟩:=ih.allW i ms ag cs (by simpa using g1) (by simpa using g2);refine⟨f,a1,fun j e' he=> ?_⟩;obtain⟨c,l,b1,b2,b3⟩:=a2 j e' he;exact⟨c,l,b1,b2,fun x hx=>p6 _ (b3 x hx)⟩
    ·cases h
   ·rename_i b0 ts0 fs0
    split at h
    ·rename_i cs0 a bs hb h2
     split at h
     ·rename_i hl
      cases h
      have ih:=yx h2;refine⟨shiftW ih,fun i ms ag cs g1 g2=> ?_,fun b ms ts hm=> ?_,fun hu=> ?_⟩
      ·cases i with
       |zero=>simp at g2
       |succ i=>exact ih.allW i ms ag cs (by simpa using g1) (by simpa using g2)
      ·rcases dJ.1 hm with hm|hm
       ·cases hm
        exact⟨0,cs0,rfl,rfl,rfl,hb,jw hl⟩
       ·exact shiftB ih b ms ts hm
      ·refine List.pairwise_cons.2 ⟨fun x hx e=> ?_,shiftU ih hu⟩
       obtain⟨b,ms,ts⟩:=x;have e:b0=b:=e;subst e;obtain⟨i,cs,a1,a2,_⟩:=ih.memB b0 ms ts hx;have:=hu 0 (i+1) b0 _ _ rfl (by simpa using a1) rfl (by simpa using a2);omega
     ·cases h
    ·cases h
   ·cases h
  ·have h2:xw st ps es fs=some (W,B):=by cases p<;>first|exact h|exact absurd ⟨_,rfl⟩ hp
   exact(yx h2).skip hp
end Go.T
namespace Go.T
variable {F : Nat → Prop} {A : Arg} {w0 w w' : World} {φ φ' : Fp} {st st' sta eM qf : TS} {tm IF : Array Value} {C : mG}
variable {R : Type} {cf : Cf} {lp : Lp} {Q : R → Prop}
structure AtP (st:TS) (ps:List bY) (es:List TE) (i j:Nat) (p:bY) (e:TE) (e':CE):Prop where
 hp:ps[i]?=some p
 he:es[i]?=some e
 hb:p≠ .borrow
 hc:(iM st e)[j]?=some e'
theorem A6.key {ps:List bY} {es:List TE} {own oE:List Nat} (g:A6 st ps es own oE) {i j:Nat} {p:bY} {e:TE} {e':CE} (a:AtP st ps es i j p e e') {o:Nat} (ho:mL e'=some o):2*o∈own:=by
 obtain⟨l,ok,hl,_,_⟩:=g.ow i p e a.hp a.he a.hb;exact hl _ ((ok.one j e' a.hc).2 o ho)
theorem A6.pos {ps:List bY} {es:List TE} {own oE:List Nat} (g:A6 st ps es own oE) {o:Nat} (ho:2*o∈own): ∃i j p e e',AtP st ps es i j p e e'∧mL e'=some o:=by
 obtain⟨i,p,e,l,h1,h2,h3,h4,h5⟩:=g.mem _ ho;obtain⟨j,e',h6,h7⟩:=(LW h4).mem o h5;exact⟨i,j,p,e,e',⟨h1,h2,h3,h6⟩,h7⟩
theorem A6.Rh {ps:List bY} {es:List TE} {own oE:List Nat} (g:A6 st ps es own oE) (hn:own.Nodup) {o i j i2 j2:Nat} {p p2:bY} {e e2:TE} {e' e2':CE} (a:AtP st ps es i j p e e') (b:AtP st ps es i2 j2 p2 e2 e2') (ha:mL e'=some o) (hb:mL e2'=some o):
 i=i2∧j=j2∧p=p2∧e=e2∧e'=e2':=by
 obtain⟨l,ok,hl,hln,II⟩:=g.ow i p e a.hp a.he a.hb;obtain⟨l2,ok2,Bn,_,aku⟩:=g.ow i2 p2 e2 b.hp b.he b.hb;have hi:=g.uniq hn i i2 p p2 e e2 l l2 (2*o) a.hp b.hp a.he b.he a.hb b.hb II aku ((ok.one j e' a.hc).2 o ha) ((ok2.one j2 e2' b.hc).2 o hb);subst hi;have h1:=a.hp.symm.trans b.hp;have h2:=a.he.symm.trans b.he
 cases h1;cases h2
 have hj:=ok.uniq (hln hn) j j2 e' e2' o a.hc b.hc ha hb;subst hj;have h3:=a.hc.symm.trans b.hc
 cases h3
 exact⟨rfl,rfl,rfl,rfl,rfl⟩
theorem abb {e:CE} {c:TC} {l:List (Nat×OB)} (h:ve st e c=some l) {o:Nat} (ho:mL e=some o): ∃b',l=[(o,b')]:=by
 rcases CS h with rfl|⟨o1,b1,rfl,h1⟩
 ·unfold ve at h
  split at h
  ·cases ho
  ·cases ho
  ·split at h
   ·split at h<;>cases h
   ·cases h
  ·split at h<;>cases h
  ·cases h
 ·rw[ho] at h1;cases h1;exact⟨b1,rfl⟩
theorem Ri {ps:List bY} {es:List TE} {own oE:List Nat} (g:A6 st ps es own oE) {o:Nat} (ho:o∈jG st ps es): ∃i j p e e',AtP st ps es i j p e e'∧mL e'=some o∧((∃ms,p= .consume ms)∨(∃ms,p= .inout ms)∧ ∃b off,e= .bp b off):=by
 obtain⟨i,p,e,h1,h2,h3⟩:=CQ.1 ho;rcases h3 with⟨⟨ms,rfl⟩,ag,cs,rfl,hr⟩|⟨⟨ms,rfl⟩,b,off,cs,rfl,hb,hr⟩
 ·obtain⟨j,cut,hj⟩:=F3.1 hr
  exact⟨i,j,_,_,_,⟨h1,h2,by simp,hj⟩,rfl,.inl ⟨_,rfl⟩⟩
 ·obtain⟨j,cut,hj⟩:=F3.1 hr
  exact⟨i,j,_,_,_,⟨h1,h2,by simp,by simp only[iM,hb];exact hj⟩,rfl,.inr ⟨⟨_,rfl⟩,b,off,rfl⟩⟩
theorem adq {ps:List bY} {es:List TE} {own oE:List Nat} {fs:List TV} {W:List (Nat×OB)} {B:List (Nat×List Mode×List TC)} (g:A6 st ps es own oE) (po:CR st ps es fs W B) {o:Nat} (ho:2*o∈own):o∈jG st ps es∨ ∃b',(o,b')∈W:=by
 obtain⟨i,j,p,e,e',a,hk⟩:=g.pos ho;obtain⟨l,ok,_,_,II⟩:=g.ow i p e a.hp a.he a.hb
 have refOf:ahE st true e'→ ∃cut,e'= .ref o cut:=fun hoc=>by
  cases e' with
  |ref o' cut=>cases hk;exact⟨cut,rfl⟩
  |snap ds loc z rows=>cases loc with
   |none=>cases hk
   |some q=>obtain⟨o1,i1,f1⟩:=q;exact absurd hoc.1 bZ
  |_=>cases hk
 cases p with
 |borrow=>exact absurd rfl a.hb
 |consume ms=>
  rcases ok.form with⟨b,rfl⟩|⟨_,ag,cs,rfl,hcs⟩
  ·have:=(ok.bx b 0 rfl).2.1;cases this
  ·obtain⟨cut,rfl⟩:=refOf ((hcs j e' a.hc).key hk)
   exact .inl (CQ.2 ⟨i,_,_,a.hp,a.he,.inl ⟨⟨_,rfl⟩,ag,cs,rfl,F3.2 ⟨j,cut,a.hc⟩⟩⟩)
 |inout ms=>
  rcases ok.form with⟨b,rfl⟩|⟨_,ag,cs,rfl,hcs⟩
  ·obtain⟨_,_,_,_,hb,hoc⟩:=ok.bx b 0 rfl
   obtain⟨cut,rfl⟩:=refOf ((hoc j e' a.hc).key hk);exact .inl (CQ.2 ⟨i,_,_,a.hp,a.he,.inr ⟨⟨_,rfl⟩,b,0,_,rfl,hb,F3.2 ⟨j,cut,a.hc⟩⟩⟩)
  ·obtain⟨f,_,hall⟩:=po.allW i ms ag cs a.hp a.he
   obtain⟨c,l',_,h2,h3⟩:=hall j e' a.hc;obtain⟨b',rfl⟩:=abb h2 hk;exact .inr ⟨b',h3 _ (.head _)⟩
theorem vH {ps:List bY} {es:List TE} {fs:List TV} {W:List (Nat×OB)} {B:List (Nat×List Mode×List TC)} (po:CR st ps es fs W B) {o:Nat} {b':OB} (hm:(o,b')∈W):
 ∃i j ms e' ag cs f c,AtP st ps es i j (.inout ms) (.v false [.mk ag cs]) e'∧mL e'=some o∧Qq ps fs i=some f∧(gx f)[j]?=some c∧ve st e' c=some [(o,b')]∧(f= .c c∧ag=false∧cs=[e']∧j=0∨ ∃ts,f= .ag ts∧ag=true):=by
 obtain⟨i,ms,f,ag,cs,j,c,e',h1,h2,h3,h4,h5,h6,h7⟩:=po.memW o b' hm;refine⟨i,j,ms,e',ag,cs,f,c,⟨h1,h2,by simp,h5⟩,?_,h3,h4,h6,?_⟩
 ·rcases CS h6 with e0|⟨o1,b1,e0,hk⟩
  ·cases e0
  ·cases e0;exact hk
 ·rcases h7 with⟨rfl,rfl,rfl⟩|h7
  ·refine .inl ⟨rfl,rfl,rfl,?_⟩
   have:=(List.getElem?_eq_some_iff.1 h5).1;simp at this;exact this
  ·exact .inr h7
structure ala (F:Nat→Prop) (A:Arg) (w0 w':World) (φ φ3:Fp) (gS:Sig) (st3:TS) (tm:Array Value) (B:List (Nat×List Mode×List TC)) (r:TV) (v:Value) (ri fi:List It) (X:Nat→Nat→Prop) (posB:Nat→Nat→Nat):Prop where
 rel:bw F A w0 φ3 st3 tm w'
 β:φ3.β=φ.β
 res:VD w' X gS.res r v ri
 item: ∀(i:Nat) (it:It),(ri++fi)[i]?=some it→av w' φ3.I it.1 (X i) it.2.1 it.2.2
 apart: ∀(i j k:Nat),i<(ri++fi).length→j<(ri++fi).length→X i k→X j k→i=j
 free: ∀(i k:Nat),i<ri.length→X i k→uZ F w0 w' φ3 st3 k
 box: ∀b ms ts,(b,ms,ts)∈B→Bl b=true∧(φ.β b).spot=none∧(∀cs,an b st3.bx≠some cs)∧uZ F w0 w' φ3 st3 (φ.β b).block∧(∀i,i<(ri++fi).length→ ¬X i (φ.β b).block)∧
  (∀b' ms' ts',(b',ms',ts')∈B→b'≠b→(φ.β b').block≠(φ.β b).block)∧
  ∃us:List Value,us.length=ts.length∧(∀(j:Nat) (u:Value),us[j]?=some u→w'.cell? ((φ.β b).add j)=some u∧u.cells= #[u]∧w'.frozen? ((φ.β b).add j)=false)∧
   ∀(j:Nat) (c:TC),ts[j]?=some c→ ∃u,us[j]?=some u∧(ri++fi)[posB b j]?=some (mA2 ms j,c,u)∧ri.length≤posB b j∧ ∀k,X (posB b j) k→uZ F w0 w' φ3 st3 k
 posI: ∀b ms ts b' ms' ts' j j',(b,ms,ts)∈B→(b',ms',ts')∈B→j<ts.length→j'<ts'.length→posB b j=posB b' j'→b=b'∧j=j'
 ndB:B.Pairwise fun x y=>x.1≠y.1
end Go.T
namespace Go.T
variable {F : Nat → Prop} {A : Arg} {w0 w w' : World} {φ φ' : Fp} {st st' sta eM qf : TS} {tm IF : Array Value} {C : mG}
variable {R : Type} {cf : Cf} {lp : Lp} {Q : R → Prop}
def Rj (sh:Bool) (st:TS) (ps:List bY) (es:List TE):List Nat:=match sh with
 |true=>jG st ps es++borrowed st ps es
 |false=>jG st ps es
theorem ajQ (h:bw F A w0 φ st tm w) (sh:Bool) (ps:List bY) (es:List TE): ∃φ2,bw F A w0 φ2 (FM sh st ps es) tm w∧φ2.β=φ.β∧φ2.V=φ.V∧φ2.S=φ.S∧(∀k,φ.I k→φ2.I k)∧
 (∀k,φ2.I k→φ.I k∨(sh=true∧ ∃o∈borrowed st ps es,aT st.ob o∧φ.S o k))∧(sh=true→ ∀o∈borrowed st ps es,o∉jG st ps es→aT st.ob o→ ∀k,φ.S o k→φ2.I k)∧A7 st (FM sh st ps es) (Rj sh st ps es) (pX st ps es):=by
 obtain⟨h1,l1⟩:=YV (rC:=st) ps es st h
 cases sh with
 |false=>exact⟨φ,h1,rfl,rfl,rfl,fun _ h=>h,fun _ h=> .inl h,fun e=>(by cases e),l1⟩
 |true=>
  obtain⟨φ2,h2,a1,a2,a3,a4,a5⟩:=xD (borrowed st ps es) _ _ h1
  have dom1: ∀o,aT (vW st ps es st).ob o↔o∉jG st ps es∧aT st.ob o:=fun o=>by
   unfold aT;rw[l1.ob]
   by_cases ho:o∈jG st ps es
   ·simp[ho]
   ·simp[ho]
  refine⟨φ2,h2,a1,a2,a3,fun k hk=>(a4 k).2 (.inl hk),fun k hk=>((a4 k).1 hk).imp id fun⟨o,o1,o2,o3⟩=>⟨rfl,o,o1,((dom1 o).1 o2).2,o3⟩,fun _ o o1 o2 o3 k hk=>(a4 k).2 (.inr ⟨o,o1,(dom1 o).2 ⟨o2,o3⟩,hk⟩),?_⟩;have:=l1.trans a5;exact(by simpa using this:A7 st (vf (vW st ps es st) (borrowed st ps es)) (jG st ps es++borrowed st ps es) (pX st ps es))
theorem adr (h:bw F A w0 φ st tm w) {gS:Sig} {es:List TE} {own oE:List Nat} {xs:List Value} (hgi:CF st gS.ps es=some (own,oE)) (hn:IL own=true) (hm:w9 own oE=false) (h0:(gS.shares&&m8 0 oE)=false)
 (Nx: ∀(i:Nat) (e:TE),es[i]?=some e→ ∃x,xs[i]?=some x∧dx st.ob w φ e x) {r:TV} {fs:List TV} {v:Value}
 (hp:NG (v8 (XOf w φ st gS.ps es) (YOf φ gS.ps es)) (Ib gS.shares (F2 φ st oE) (TP φ st oE)) w w' gS xs r fs v) {W:List (Nat×OB)} {B:List (Nat×List Mode×List TC)} (hpo:xw st gS.ps es fs=some (W,B)):
 ∃φ3 ri fi X posB,ala F A w0 w' φ φ3 gS (wJ W (FM gS.shares st gS.ps es)) tm B r v ri fi X posB:=by
 obtain⟨abZ,I,X,ri,fi,hb,hri,hfi⟩:=hp;have g:=Bz hgi;have Ya:=IV.1 hn;have po:=yx hpo;obtain⟨pos,fp⟩:=aba hfi;obtain⟨φ2,h2,fβ,fV,fS,fI1,fI2,fI3,lost⟩:=ajQ h gS.shares gS.ps es;have hsize:w.heap.size≤w'.heap.size:=abZ.size
 have dom2: ∀{o},aT (FM gS.shares st gS.ps es).ob o→o∉Rj gS.shares st gS.ps es∧aT st.ob o:=fun {o} ⟨b,hb⟩=>by
  rw[lost.ob] at hb
  split at hb
  ·cases hb
  ·rename_i hn;exact⟨hn,b,hb⟩
 have goneSub: ∀{o},o∈jG st gS.ps es→o∈Rj gS.shares st gS.ps es:=fun {o} ho=>by
  unfold Rj;cases gS.shares<;>simp[ho]
 have midSub: ∀{o},o∈Rj gS.shares st gS.ps es→o∈jG st gS.ps es∨o∈borrowed st gS.ps es:=fun {o} ho=>by
  unfold Rj at ho
  revert ho
  cases gS.shares with
  |true=>intro ho;exact List.mem_append.1 ho
  |false=>exact .inl
 have rdNot: ∀{o},2*o∈own→o∉borrowed st gS.ps es:=fun {o} ho hbr=>tw hm ho ((yw hgi).1 hbr)
 have wAlive: ∀{o b'},(o,b')∈W→2*o∈own∧o∉Rj gS.shares st gS.ps es:=fun {o b'} hw=>by
  obtain⟨i,j,_,e',ag,cs,f,c,a,hk,_⟩:=vH po hw;have ho:=g.key a hk;refine⟨ho,fun hmid=> ?_⟩;rcases midSub hmid with hg|hbr
  ·obtain⟨i2,j2,p2,e2,e2',a2,hk2,AV⟩:=Ri g hg
   obtain⟨_,_,e1,e3,_⟩:=g.Rh Ya a a2 hk hk2;subst e1 e3;rcases AV with⟨_,e1⟩|⟨_,b,off,e1⟩<;>cases e1
  ·exact rdNot ho hbr
 have notW: ∀{o},an o W=none→ ∀b',(o,b')∉W:=fun {o} h=>wK h
 have cfX: ∀{k o},v8 (XOf w φ st gS.ps es) (YOf φ gS.ps es) k→aT st.ob o→φ.S o k→ ∃i j p e e',AtP st gS.ps es i j p e e'∧mL e'=some o∧xe w φ st e' k:=fun {k o} hk hd hS=>by
  rcases hk with⟨i,j,hx⟩|⟨i,hy⟩
  ·obtain⟨p,e,e',o',l,x1,x2,x3,x4,x5,x6,x7,_⟩:=Kk h g Nx hx
   have:=h.sep.apart o o' k hd x6 hS x7;subst this;obtain⟨p',e2,y1,y2,y3,y4⟩:=hx;rw[x2] at y2;cases y2;rw[List.getD,x4] at y4;exact⟨i,j,p,e,e',⟨x1,x2,x3,x4⟩,x5,y4⟩
  ·obtain⟨p,b,y1,y2,y3,rfl⟩:=hy
   obtain⟨l,ok,_⟩:=g.ow i p _ y1 y2 y3;obtain⟨_,_,_,_,Ny,_⟩:=ok.bx b 0 rfl;exact(h.pW hd hS Ny rfl).elim
 have cfOwn: ∀{k},v8 (XOf w φ st gS.ps es) (YOf φ gS.ps es) k→(∃o,2*o∈own∧aT st.ob o∧φ.S o k)∨ ∃(i b:Nat) (ms:List Mode) (cs:List CE),gS.ps[i]?=some (bY.inout ms)∧es[i]?=some (TE.bp b 0)∧Bl b=true∧an b st.bx=some cs∧2*b+1∈own∧k=(φ.β b).block:=fun {k} hk=>by
  rcases hk with⟨i,j,hx⟩|⟨i,hy⟩
  ·obtain⟨p,e,e',o',l,x1,x2,x3,x4,x5,x6,x7,_,_,x10⟩:=Kk h g Nx hx
   exact .inl ⟨o',x10,x6,x7⟩
  ·obtain⟨p,b,y1,y2,y3,rfl⟩:=hy
   obtain⟨l,ok,hl,_⟩:=g.ow i p _ y1 y2 y3;obtain⟨_,hc,hw,hbl,Ny,_⟩:=ok.bx b 0 rfl
   obtain⟨ms,rfl⟩: ∃ms,p= .inout ms:=by cases p with
    |borrow=>exact absurd rfl y3
    |inout ms=>exact⟨ms,rfl⟩
    |consume ms=>cases hc
   exact .inr ⟨i,b,ms,_,y1,y2,hw,Ny,hl _ hbl,rfl⟩
 have hβ: ∀b,φ2.β b=φ.β b:=fun b=>by rw[fβ]
 have cfFree: ∀{k},v8 (XOf w φ st gS.ps es) (YOf φ gS.ps es) k→k<w.heap.size∧(w0.heap.size≤k∨F k)∧ ¬φ2.I k∧(∀d,aT (FM gS.shares st gS.ps es).ob d→an d W=none→ ¬φ.S d k)∧ ∀b cs,an b (FM gS.shares st gS.ps es).bx=some cs→(φ.β b).block≠k:=fun {k} hk=>by
  rcases cfOwn hk with⟨o,ho,hd,hS⟩|⟨i,b,msb,cs,h1,h3,hw,Ny,hbo,rfl⟩
  ·refine⟨(h.sep.fresh o k hd hS).1,(h.sep.fresh o k hd hS).2,fun hI=> ?_,fun d hd' hnW Fx=> ?_,fun b cs hb'=> ?_⟩
   ·rcases fI2 k hI with hI|⟨_,o',o1,o2,o3⟩
    ·exact h.sep.read o k hd hS hI
    ·have:=h.sep.apart o o' k hd o2 hS o3
     subst this;exact rdNot ho o1
   ·obtain⟨d1,d2⟩:=dom2 hd'
    have:=h.sep.apart o d k hd d2 hS Fx;subst this;rcases adq g po ho with hg|⟨b',hw⟩
    ·exact d1 (goneSub hg)
    ·exact notW hnW b' hw
   ·obtain⟨_,cs0,c0,_⟩:=lost.bx b cs hb'
    exact h.pW hd hS c0
  ·obtain⟨x1,x2,x3,x4⟩:=h.sep.box b cs Ny hw
   refine⟨(h.sep.spot b cs Ny).2.1,x3,fun hI=> ?_,fun d hd' _ Fx=>x2 d (dom2 hd').2 Fx,fun b' cs' hb' e=> ?_⟩
   ·rcases fI2 _ hI with hI|⟨_,o',o1,o2,o3⟩
    ·exact x1 hI
    ·exact x2 o' o2 o3
   ·obtain⟨hng,cs0,c0,_⟩:=lost.bx b' cs' hb'
    by_cases TF:b'=b
    ·subst TF;exact hng (IW.2 ⟨i,_,0,cs,h1,h3,Ny⟩)
    ·exact x4 b' cs0 c0 TF e
 have hI: ∀{k},I k→φ2.I k∨w.heap.size≤k∨v8 (XOf w φ st gS.ps es) (YOf φ gS.ps es) k:=fun {k} hk=>by
  rcases (hb.ro k hk).2 with h1|h1|⟨hsh,h1⟩
  ·exact .inr (.inl h1)
  ·exact .inr (.inr h1)
  ·left
   rcases h1 with h1|⟨o,o1,o2,o3⟩
   ·exact fI1 k h1
   ·have ho0:o≠0:=fun e=>by
     subst e;rw[hsh] at h0;simp only[eO] at h0;exact fk.1 h0 o1
    have hd:=o2.resolve_left ho0;have hbr:=(yw hgi).2 o1;refine fI3 hsh o hbr (fun hg=> ?_) hd k o3;obtain⟨i2,j2,p2,e2,e2',a2,hk2,_⟩:=Ri g hg;exact rdNot (g.key a2 hk2) hbr
 have itemFree: ∀{i k},i<(ri++fi).length→X i k→k<w'.heap.size∧(w0.heap.size≤k∨F k)∧ ¬φ2.I k∧ ¬I k∧(∀d,aT (FM gS.shares st gS.ps es).ob d→an d W=none→ ¬φ.S d k)∧ ∀b cs,an b (FM gS.shares st gS.ps es).bx=some cs→(φ.β b).block≠k:=fun {i k} hi hk=>by
  obtain⟨r1,r2,r3⟩:=hb.rng i k hi hk;rcases r2 with r2|r2
  ·refine⟨r1,.inl (bQ h.frm.size r2),fun hI=> ?_,r3,fun d hd _ hS=> ?_,fun b cs hb' e=> ?_⟩
   ·have:=(h2.sep.ro k hI).1;omega
   ·have:=(h.sep.fresh d k (dom2 hd).2 hS).1;omega
   ·obtain⟨_,cs0,c0,_⟩:=lost.bx b cs hb'
    have:=(h.sep.spot b cs0 c0).2.1;rw[e] at this;omega
  ·obtain⟨c1,c2,c3,c4,c5⟩:=cfFree r2
   exact⟨r1,c2,c3,r3,c4,c5⟩
 let X':Nat→Nat→Prop:=fun o k=> ∃(i j:Nat) (p:bY) (e:TE) (e':CE),AtP st gS.ps es i j p e e'∧mL e'=some o∧((φ.S o k∧ ¬xe w φ st e' k)∨X (ri.length+pos i j) k)
 have hX': ∀{o i j p e e'},AtP st gS.ps es i j p e e'→mL e'=some o→X' o=fun k=>(φ.S o k∧ ¬xe w φ st e' k)∨X (ri.length+pos i j) k:=fun {o i j p e e'} a hk=>by
  funext k
  refine propext ⟨?_,fun hx=>⟨i,j,p,e,e',a,hk,hx⟩⟩;rintro⟨i2,j2,p2,e2,e2',a2,hk2,hx⟩;obtain⟨rfl,rfl,rfl,rfl,rfl⟩:=g.Rh Ya a a2 hk hk2;exact hx
 have posLt: ∀{o b'},(o,b')∈W→ ∀{i j p e e'},AtP st gS.ps es i j p e e'→mL e'=some o→ri.length+pos i j<(ri++fi).length:=fun {o b'} hw {i j p e e'} a hk=>by
  obtain⟨i2,j2,_,e2',ag,cs,f,c,a2,hk2,hf,hc,_⟩:=vH po hw;obtain⟨rfl,rfl,rfl,rfl,rfl⟩:=g.Rh Ya a a2 hk hk2;have:=fp.lt i f j hf (List.getElem?_eq_some_iff.1 hc).1;rw[ct];omega
 have posNe: ∀{o1 b1 o2 b2},(o1,b1)∈W→(o2,b2)∈W→ ∀{i j p e e' i2 j2 p2 e2 e2'},AtP st gS.ps es i j p e e'→mL e'=some o1→AtP st gS.ps es i2 j2 p2 e2 e2'→mL e2'=some o2→ri.length+pos i j=ri.length+pos i2 j2→o1=o2:=fun {o1 b1 o2 b2} hw1 Vm {i j p e e' i2 j2 p2 e2 e2'} a hk a2 hk2 heq=>by
  obtain⟨i3,j3,_,e3',ag,cs,f,c,a3,hk3,hf,hc,_⟩:=vH po hw1;obtain⟨rfl,rfl,rfl,rfl,rfl⟩:=g.Rh Ya a a3 hk hk3;obtain⟨i4,j4,_,e4',ag4,cs4,f4,c4,a4,hk4,hf4,hc4,_⟩:=vH po Vm;obtain⟨rfl,rfl,rfl,rfl,rfl⟩:=g.Rh Ya a2 a4 hk2 hk4;obtain⟨rfl,rfl⟩:=fp.inj i i2 f f4 j j2 hf (List.getElem?_eq_some_iff.1 hc).1 hf4 (List.getElem?_eq_some_iff.1 hc4).1 au;have e1:=a.hc;have e2:=a2.he;rw[a.he] at e2;cases e2;have e3:=a2.hc
  rw[e1] at e3;cases e3;rw[hk] at hk2;cases hk2
  rfl
 have frm':J2 F w0 w':=by
  refine⟨abZ.os.trans h.frm.os,abZ.tape.trans h.frm.tape,abZ.output.trans h.frm.output,bQ h.frm.size hsize,fun k hk hF=> ?_⟩
  rw[abZ.block k (kE hk h.frm.size) fun hc=>by
   rcases (cfFree hc).2.1 with h3|h3
   ·omega
   ·exact hF h3]
  exact h.frm.block k hk hF
 have R3:=h2.wrote (w':=w') W X' I (v8 (XOf w φ st gS.ps es) (YOf φ gS.ps es)) frm' hsize (fun k hk hn=>abZ.block k hk hn) (fun k hk=>(cfFree hk).2.1) (fun k hk=>(cfFree hk).2.2.1)
  (fun k o hk ho hnW hS=>by rw[fS] at hS;exact(cfFree hk).2.2.2.1 o ho hnW hS) (fun b cs hb' hk=>by rw[hβ] at hk;exact(cfFree hk).2.2.2.2 b cs hb' rfl)
  (fun o b' zo=>by
    have hw:=kg zo;obtain⟨i,j,_,e',ag,cs,f,c,a,hkey,hf,hc,Yh,hform⟩:=vH po hw;obtain⟨hown,hnm⟩:=wAlive hw;obtain⟨msF,akv,x,hx,hfa⟩:=fp.at' i f hf;obtain⟨x',hx',htx⟩:=Nx i _ a.he;rw[hx] at hx';cases hx'
    obtain⟨u,hu,hce⟩: ∃u,fi[pos i j]?=some (.deep,c,u)∧ek st.ob w φ e' u:=by
     rcases hform with⟨rfl,rfl,rfl,rfl⟩|⟨ts,rfl,rfl⟩
     ·obtain⟨c0,e0,htx⟩:=htx
      cases e0
      obtain⟨e1,e2,_,h3⟩:=htx
      cases e2
      exact⟨x,hfa,h3⟩
     ·obtain⟨ys,rfl,_,hys⟩:=hfa
      obtain⟨c0,e0,htx⟩:=htx
      cases e0
      obtain⟨zs,e1,_,h3⟩:=htx
      cases e1
      obtain⟨u,u1,u2⟩:=hys j c hc;obtain⟨u',u3,_,u4⟩:=h3 j e' a.hc;rw[u1] at u3;cases u3;exact⟨u,u2,u4⟩
    have hidx:(ri++fi)[ri.length+pos i j]?=some (.deep,c,u):=by rw[m7 au,Nat.add_sub_cancel_left];exact hu
    have ac0:=hb.ok _ _ hidx;simp only at ac0;have hlt:=posLt hw a hkey;rw[hX' a hkey]
    obtain⟨b0,hb0,anH,hz,hlen,hcell⟩: ∃b0,an o st.ob=some b0∧b'.deep=true∧b'.z=b0.z∧b'.rows.length=b0.rows.length∧av w' (fun k=>φ2.I k∨I k) .deep (fun k=>(φ.S o k∧ ¬xe w φ st e' k)∨X (ri.length+pos i j) k) (.sub b'.z b'.rows) (φ.V o):=by
     unfold ve at Yh
     split at Yh
     ·cases hkey
     ·cases hkey
     ·rename_i o' z rows
      cases hkey
      split at Yh
      ·rename_i z0 qg II
       split at Yh
       ·rename_i JS
        have JS:=jw JS;subst JS;simp only[bq,List.cons.injEq,zJ,and_true,true_and] at Yh;subst Yh;obtain⟨b1,g1,g2⟩:=hce;have g2:u=φ.V o:=g2;subst g2
        have alW:rows.length=qg.length:=by
         have hO:=h.obj o _ II;unfold o7 at hO;obtain⟨A1,c1,e1,_⟩:=av.len ac0;obtain⟨A2,c2,e2,_⟩:=av.len hO;rw[e1] at e2
         injection e2 with _ e3 _
        exact⟨_,II,rfl,rfl,alW,(ac0.Ic rfl).mono fun k hk=> .inr hk⟩
       ·cases Yh
      ·cases Yh
     ·rename_i ds o' i0 f0 z0 qg z' bE
      cases hkey
      split at Yh
      ·rename_i z rows II JS
       have JS:=jw JS;subst JS;simp only[bq,List.cons.injEq,zJ,and_true,true_and] at Yh;subst Yh;obtain⟨_,_,h3⟩:=hce;obtain⟨_,b1,g1,g2,g3,ad,n,c',g4,g5⟩:=h3 o i0 f0 rfl;rw[II] at g1;cases g1;obtain⟨_,q2,q3⟩:=LS h o i0 f0 _ ad n c' _ u II rfl g4 g3 g5
       have hcl:=q3 w' (.sub z' bE) (fun k=>φ2.I k∨I k) (X (ri.length+pos i j)) (ac0.Ic rfl) (fun k hk hn'=>abZ.block k (h.sep.fresh o k ⟨_,II⟩ hk).1 fun HY=>by
        obtain⟨i2,j2,p2,e2,e2',a2,hk2,X8⟩:=cfX HY ⟨_,II⟩ hk;obtain⟨_,_,_,_,e5⟩:=g.Rh Ya a a2 rfl hk2;subst e5
        exact hn' X8)
        (fun k hk=>by
          rcases (hb.rng _ k hlt hk).2.1 with r2|r2
          ·right;intro hS;have:=(h.sep.fresh o k ⟨_,II⟩ hS).1;omega
          ·by_cases hS:φ.S o k
           ·left
            obtain⟨i2,j2,p2,e2,e2',a2,hk2,X8⟩:=cfX r2 ⟨_,II⟩ hS;obtain⟨_,_,_,_,e5⟩:=g.Rh Ya a a2 rfl hk2;subst e5;exact X8
           ·exact .inr hS)
       refine⟨_,II,rfl,rfl,by simp only[vl,mo],?_⟩;simp only[vl];exact hcl
      ·cases Yh
     ·cases Yh
    have hd0:aT st.ob o:=⟨b0,hb0⟩
    have Bn:an o (FM gS.shares st gS.ps es).ob=some b0:=by rw[lost.ob,aJ hnm];exact hb0
    refine⟨b0,Bn,hz,hlen,?_,fun k hk=> ?_⟩
    ·rw[fV]
     have:b'.m= .deep:=by unfold OB.m;rw[anH];rfl
     rw[this];exact hcell
    ·
     have ofS:φ.S o k→ ¬xe w φ st e' k→ ¬I k∧ ¬v8 (XOf w φ st gS.ps es) (YOf φ gS.ps es) k:=fun hS hnp=>by
      have alX: ¬v8 (XOf w φ st gS.ps es) (YOf φ gS.ps es) k:=fun HY=>by
       obtain⟨i2,j2,p2,e2,e2',a2,hk2,X8⟩:=cfX HY hd0 hS;obtain⟨_,_,_,_,e5⟩:=g.Rh Ya a a2 hkey hk2;subst e5;exact hnp X8
      refine⟨fun hIk=> ?_,alX⟩;rcases hI hIk with h3|h3|h3
      ·exact h2.sep.read o k ⟨_,Bn⟩ (by rw[fS];exact hS) h3
      ·have:=(h.sep.fresh o k hd0 hS).1;omega
      ·exact alX h3
     have noS: ∀{d b1},an d W=some b1→X' d k→d=o:=fun {d b1} hld hxd=>by
      have zp:=kg hld;obtain⟨i2,j2,_,e2',ag2,cs2,f2,c2,a2,hk2,_⟩:=vH po zp;rw[hX' a2 hk2] at hxd
      have hdd:aT st.ob d:=by
       have:=(wAlive zp).1;obtain⟨x2,Qz,ht2⟩:=Nx i2 _ a2.he;obtain⟨u2,hu2⟩:=CO h ht2 a2.hc;obtain⟨l,ok,_⟩:=g.ow i2 _ _ a2.hp a2.he a2.hb;obtain⟨⟨cb,_,hoc,_⟩,_⟩:=ok.one j2 e2' a2.hc;have hoc:=hoc.key hk2
       cases e2' with
       |ref o1 cut=>cases hk2;obtain⟨b2,g1,_⟩:=hu2;exact⟨b2,g1⟩
       |snap ds loc z rows=>cases loc with
        |none=>cases hk2
        |some q=>obtain⟨o1,i1,f1⟩:=q;cases hk2;obtain⟨_,_,Ly⟩:=F0 hoc.2;exact⟨_,Ly⟩
       |_=>cases hk2
      rcases hxd with⟨s1,s2⟩|s1
      ·rcases hk with⟨t1,t2⟩|t1
       ·exact h.sep.apart d o k hdd hd0 s1 t1
       ·
        exfalso
        rcases (hb.rng _ k hlt t1).2.1 with r2|r2
        ·have:=(h.sep.fresh d k hdd s1).1;omega
        ·obtain⟨i3,j3,p3,e3,e3',a3,hk3,hp3⟩:=cfX r2 hdd s1
         obtain⟨_,_,_,_,e5⟩:=g.Rh Ya a2 a3 hk2 hk3;subst e5;exact s2 hp3
      ·rcases hk with⟨t1,t2⟩|t1
       ·exfalso
        rcases (hb.rng _ k (posLt zp a2 hk2) s1).2.1 with r2|r2
        ·have:=(h.sep.fresh o k hd0 t1).1;omega
        ·exact(ofS t1 t2).2 r2
       ·exact posNe zp hw a2 hk2 a hkey (hb.apart _ _ k (posLt zp a2 hk2) hlt s1 t1)
     rcases hk with⟨t1,t2⟩|t1
     ·refine⟨kE (h.sep.fresh o k hd0 t1).1 hsize,(h.sep.fresh o k hd0 t1).2,h2.sep.read o k ⟨_,Bn⟩ (by rw[fS];exact t1),(ofS t1 t2).1,fun d hd hnW hS=> ?_,fun d b1 hld hxd=>noS hld hxd,fun b cs hb' _=> ?_⟩
      ·rw[fS] at hS
       have:=h.sep.apart d o k (dom2 hd).2 hd0 hS t1;subst this;rw[zo] at hnW;cases hnW
      ·obtain⟨_,cs0,c0,_⟩:=lost.bx b cs hb'
       rw[hβ];exact h.pW hd0 t1 c0
     ·obtain⟨q1,q2,q3,q4,q5,q6⟩:=itemFree hlt t1
      exact⟨q1,q2,q3,q4,fun d hd hnW hS=>q5 d hd hnW (by rw[fS] at hS;exact hS),fun d b1 hld hxd=>noS hld hxd,fun b cs hb' _=>by rw[hβ];exact q6 b cs hb'⟩)
  (fun k hk=>by
    rcases hI hk with h3|h3|h3
    ·refine⟨(hb.ro k hk).1,(h2.sep.ro k h3).2,fun d hd _=>fun hS=>h2.sep.read d k hd hS h3,fun b cs hb' HW e=> ?_⟩
     exact(h2.sep.box b cs hb' HW).1 (by rw[e];exact h3)
    ·refine⟨(hb.ro k hk).1,.inl (bQ h.frm.size h3),fun d hd _ hS=> ?_,fun b cs hb' _ e=> ?_⟩
     ·have:=(h2.sep.fresh d k hd hS).1;omega
     ·have:=(h2.sep.spot b cs hb').2.1;rw[e] at this;omega
    ·obtain⟨c1,c2,c3,c4,c5⟩:=cfFree h3
     exact⟨(hb.ro k hk).1,c2.elim .inl fun hF=> .inr (.inl hF),fun d hd hnW hS=>c4 d hd hnW (by rw[fS] at hS;exact hS),fun b cs hb' _=>by rw[hβ];exact c5 b cs hb'⟩)
 have dom3: ∀{o},aT (wJ W (FM gS.shares st gS.ps es)).ob o→aT (FM gS.shares st gS.ps es).ob o:=fun {o} hd=>by
  cases W with
  |nil=>exact hd
  |cons a q=>
   obtain⟨b,hb'⟩:=hd;have hb':an o (mh (a::q) (FM gS.shares st gS.ps es).ob)=some b:=hb';rw[uh] at hb'
   cases hl:an o (a::q) with
   |none=>rw[hl] at hb';exact⟨b,hb'⟩
   |some b1=>
    have hw:=kg hl;obtain⟨hown,hnm⟩:=wAlive hw;obtain⟨i,j,_,e',ag,cs,f,c,a',hkey,_⟩:=vH po hw;obtain⟨x2,Qz,ht2⟩:=Nx i _ a'.he;obtain⟨u2,hu2⟩:=CO h ht2 a'.hc;obtain⟨l,ok,_⟩:=g.ow i _ _ a'.hp a'.he a'.hb;obtain⟨⟨cb,_,hoc,_⟩,_⟩:=ok.one j e' a'.hc;have hoc:=hoc.key hkey
    have hd0:aT st.ob o:=by
     cases e' with
     |ref o1 cut=>cases hkey;obtain⟨b2,g1,_⟩:=hu2;exact⟨b2,g1⟩
     |snap ds loc z rows=>cases loc with
      |none=>cases hkey
      |some q=>obtain⟨o1,i1,f1⟩:=q;cases hkey;obtain⟨_,_,Ly⟩:=F0 hoc.2;exact⟨_,Ly⟩
     |_=>cases hkey
    obtain⟨b0,hb0⟩:=hd0;exact⟨b0,by rw[lost.ob,aJ hnm];exact hb0⟩
 have bx3: ∀{b cs},an b (wJ W (FM gS.shares st gS.ps es)).bx=some cs→ ∃cs0,an b (FM gS.shares st gS.ps es).bx=some cs0:=fun {b cs} hb'=>by
  cases W with
  |nil=>exact⟨cs,hb'⟩
  |cons a q=>obtain⟨cs0,c0,_⟩:=iX _ b cs hb';exact⟨cs0,c0⟩
 have R3S: ∀{o k},aT (wJ W (FM gS.shares st gS.ps es)).ob o→(φ2.wr W X' I).S o k→(an o W=none∧φ.S o k)∨ ∃b',(o,b')∈W∧X' o k:=fun {o k} _ hS=>by
  cases hl:an o W with
  |none=>rw[TN hl,fS] at hS;exact .inl ⟨rfl,hS⟩
  |some b'=>rw[YP hl] at hS;exact .inr ⟨b',kg hl,hS⟩
 have freeOf: ∀{n k},n<(ri++fi).length→(∀o b',(o,b')∈W→ ∀i j p e e',AtP st gS.ps es i j p e e'→mL e'=some o→ri.length+pos i j≠n)→X n k→uZ F w0 w' (φ2.wr W X' I) (wJ W (FM gS.shares st gS.ps es)) k:=fun {n k} hlt hne hx=>by
  obtain⟨q1,q2,q3,q4,q5,q6⟩:=itemFree hlt hx;refine⟨q1,q2,fun hi=>hi.elim q3 q4,fun o hd hS=> ?_,fun b cs hb'=> ?_⟩
  ·rcases R3S hd hS with⟨hnW,hS⟩|⟨b',hw,hx'⟩
   ·exact q5 o (dom3 hd) hnW hS
   ·obtain⟨i,j,_,e',ag,cs,f,c,a,hkey,_⟩:=vH po hw
    rw[hX' a hkey] at hx';rcases hx' with⟨s1,s2⟩|s1
    ·obtain⟨_,hd1⟩:=dom2 (dom3 hd)
     rcases (hb.rng n k hlt hx).2.1 with r2|r2
     ·have:=(h.sep.fresh o k hd1 s1).1;omega
     ·obtain⟨i2,j2,p2,e2,e2',a2,hk2,X8⟩:=cfX r2 hd1 s1
      obtain⟨_,_,_,_,e5⟩:=g.Rh Ya a a2 hkey hk2;subst e5;exact s2 X8
    ·exact hne o b' hw i j _ _ e' a hkey (hb.apart _ _ k (posLt hw a hkey) hlt s1 hx)
  ·obtain⟨cs0,c0⟩:=bx3 hb'
   show(φ2.β b).block≠k;rw[hβ];exact q6 b cs0 c0
 have uniqI: ∀(i i' b:Nat) (ms ms':List Mode),gS.ps[i]?=some (.inout ms)→gS.ps[i']?=some (.inout ms')→es[i]?=some (.bp b 0)→es[i']?=some (.bp b 0)→i=i':=fun i i' b ms ms' h1 QA h3 h4=>by
  obtain⟨l,ok,_,_,II⟩:=g.ow i _ _ h1 h3 bZ;obtain⟨l2,ok2,_,_,aku⟩:=g.ow i' _ _ QA h4 bZ;exact g.uniq Ya i i' _ _ _ _ l l2 (2*b+1) h1 QA h3 h4 bZ bZ II aku (ok.bx b 0 rfl).2.2.2.1 (ok2.bx b 0 rfl).2.2.2.1
 let iOf:Nat→Nat:=fun b=>Classical.epsilon fun i=>(∃ms,gS.ps[i]?=some (.inout ms))∧es[i]?=some (.bp b 0)
 have akx: ∀{i b ms},gS.ps[i]?=some (.inout ms)→es[i]?=some (.bp b 0)→iOf b=i:=fun {i b ms} h1 h3=>by
  have:=Classical.epsilon_spec (p:=fun i=>(∃ms,gS.ps[i]?=some (bY.inout ms))∧es[i]?=some (TE.bp b 0)) ⟨i,⟨ms,h1⟩,h3⟩;obtain⟨⟨ms',Cv⟩,h3'⟩:=this;exact uniqI _ _ b _ _ Cv h1 h3' h3
 refine⟨φ2.wr W X' I,ri,fi,X,fun b j=>ri.length+pos (iOf b) j,⟨R3,fβ,hri,fun i it hi=>(hb.ok i it hi).qm fun k hk=> .inr hk,hb.apart,fun i k hi hk=>freeOf (by rw[ct];omega) (fun o b' hw i' j' p e e' a hkey hne=>by omega) hk,fun b ms ts hbm=> ?_,fun b ms ts b' ms' ts' j j' hb1 hb2 hj hj' he=> ?_,po.ndB uniqI⟩⟩
 ·obtain⟨i,cs,g1,g2,g3,g4,g5⟩:=po.memB b ms ts hbm
  obtain⟨msF,akv,x,hx,hfa⟩:=fp.at' i _ g3;rw[g1] at akv
  cases akv
  obtain⟨x',hx',htx⟩:=Nx i _ g2;rw[hx] at hx';cases hx';have htx:x= .pointer (some ((φ.β b).add 0)):=htx;rw[Addr.add_zero'] at htx;obtain⟨ad,us,e1,e2,⟨nb1,nb2⟩,e4,e5⟩:=hfa;rw[htx] at e1
  cases e1
  obtain⟨l,ok,hl,_⟩:=g.ow i _ _ g1 g2 bZ;obtain⟨_,_,HW,hbl,_,_⟩:=ok.bx b 0 rfl;have HY:v8 (XOf w φ st gS.ps es) (YOf φ gS.ps es) (φ.β b).block:= .inr ⟨i,_,b,g1,g2,by simp,rfl⟩;obtain⟨c1,c2,c3,c4,c5⟩:=cfFree HY;refine⟨HW,(h.sep.spot b cs g4).1 HW,fun cs' hb'=> ?_,⟨kE c1 hsize,c2,fun hi=>hi.elim c3 nb1,fun o hd hS=> ?_,fun b' cs' hb'=> ?_⟩,nb2,fun b' ms' ts' hb' hne=> ?_,us,e2,e4,fun j c hj=> ?_⟩
  ·obtain⟨cs0,c0⟩:=bx3 hb'
   exact(lost.bx b cs0 c0).1 (IW.2 ⟨i,_,0,cs,g1,g2,g4⟩)
  ·rcases R3S hd hS with⟨hnW,hS⟩|⟨b',hw,hx'⟩
   ·exact c4 o (dom3 hd) hnW hS
   ·obtain⟨i',j',_,e',ag,cs',f,c,a,hkey,_⟩:=vH po hw
    rw[hX' a hkey] at hx';rcases hx' with⟨s1,s2⟩|s1
    ·exact h.pW (dom2 (dom3 hd)).2 s1 g4 rfl
    ·exact nb2 _ (posLt hw a hkey) s1
  ·obtain⟨cs0,c0⟩:=bx3 hb'
   show(φ2.β b').block≠_;rw[hβ];exact c5 b' cs0 c0
  ·obtain⟨i',cs',k1,k2,k3,k4,k5⟩:=po.memB b' ms' ts' hb'
   exact(h.sep.box b cs g4 HW).2.2.2 b' cs' k4 hne
  ·obtain⟨u,u1,u2⟩:=e5 j c hj
   have hi:=akx g1 g2;simp only[hi];have hlt:=fp.lt i _ j g3 (List.getElem?_eq_some_iff.1 hj).1;refine⟨u,u1,by rw[m7 au,Nat.add_sub_cancel_left];exact u2,by omega,fun k hk=>freeOf (by rw[ct];omega) (fun o b' hw i' j' p e e' a hkey hne=> ?_) hk⟩;obtain⟨i2,j2,_,e2',ag,cs',f,c',a2,hk2,HX,hc2,_⟩:=vH po hw;obtain⟨rfl,rfl,rfl,rfl,rfl⟩:=g.Rh Ya a a2 hkey hk2;obtain⟨rfl,_⟩:=fp.inj i' i f _ j' j HX (List.getElem?_eq_some_iff.1 hc2).1 g3 (List.getElem?_eq_some_iff.1 hj).1 au
   have:=a.he;rw[g2] at this
   cases this
 ·obtain⟨i,cs,g1,g2,g3,_⟩:=po.memB b ms ts hb1
  obtain⟨i',cs',g1',g2',g3',_⟩:=po.memB b' ms' ts' hb2;have he:ri.length+pos (iOf b) j=ri.length+pos (iOf b') j':=he;rw[akx g1 g2,akx g1' g2'] at he;obtain⟨rfl,rfl⟩:=fp.inj i i' _ _ j j' g3 hj g3' hj' au;rw[g2] at g2'
  cases g2'
  exact⟨rfl,rfl⟩
end Go.T
namespace Go.T
variable {F : Nat → Prop} {A : Arg} {w0 w w' : World} {φ φ' φ1 : Fp} {st st' sta eM qf : TS} {tm IF : Array Value} {C : mG}
variable {R : Type} {cf : Cf} {lp : Lp} {Q : R → Prop}
theorem ahI {o:Nat} {b:OB} {X:Nat→Prop} {V:Value} (h0:o≠0) {e:CE} {v:Value} (h:ek st.ob w φ e v) (hd:o∉ig e):ek (FK o b st).ob w (φ.add o X V) e v:=by
 have h1:=h.kill (o:=o)
 have h2:Vr o e=e:=by unfold Vr;rw[fk.2 hd]
 rw[h2] at h1;exact h1.add h0 (fun hd=>(pM.1 hd).1 rfl)
theorem uZ.FK {o k:Nat} {b:OB} {X:Nat→Prop} {V:Value} (h:uZ F w0 w φ st k) (hX: ¬X k):uZ F w0 w (φ.add o X V) (FK o b st) k:=by
 refine⟨h.lt,h.new,h.I,fun d hd hk=> ?_,fun c cs hb=> ?_⟩
 ·by_cases he:d=o
  ·subst he
   have hk:(if d=d then X k else φ.S d k):=hk;rw[aR rfl] at hk;exact hX hk
  ·rw[xd he] at hk
   have hd:aT (pU o b (rG o st.ob)) d:=hd;rcases kG.1 hd with e|hd
   ·exact he e
   ·exact h.S d (pM.1 hd).2 hk
 ·have hb:an c (mapA (List.map (Vr o)) st.bx)=some cs:=hb
  obtain⟨cs0,c0,_⟩:=iX _ c cs hb;exact h.B c cs0 c0
def CT (st st':TS):Prop:= ∀b cs,an b st'.bx=some cs→ ∃cs0,an b st.bx=some cs0∧cs.length=cs0.length
theorem CT.refl (st:TS):CT st st:=fun b cs h=>⟨cs,h,rfl⟩
theorem CT.trans {a b c:TS} (h:CT a b) (k:CT b c):CT a c:=fun x cs hx=>by
 obtain⟨c1,a1,a2⟩:=k x cs hx;obtain⟨c0,b1,b2⟩:=h x c1 a1;exact⟨c0,b1,a2.trans b2⟩
theorem ahJ {o:Nat} {b:OB}:CT st (FK o b st):=fun c cs hb=>iX _ c cs hb
structure Made (F:Nat→Prop) (A:Arg) (w0 w:World) (φ φ':Fp) (st st':TS) (tm:Array Value) (nums:Nat→Prop) (Xs:Nat→Prop):Prop where
 rel:bw F A w0 φ' st' tm w
 β:φ'.β=φ.β
 I:φ'.I=φ.I
 keep: ∀e v,ek st.ob w φ e v→(∀o∈ig e,¬nums o)→ek st'.ob w φ' e v
 free: ∀k,uZ F w0 w φ st k→ ¬Xs k→uZ F w0 w φ' st' k
 bx:CT st st'
theorem Made.refl (h:bw F A w0 φ st tm w) {nums Xs:Nat→Prop}:Made F A w0 w φ φ st st tm nums Xs:=⟨h,rfl,rfl,fun e v h _=>h,fun k h _=>h,CT.refl st⟩
theorem Made.trans {φ2:Fp} {n1 n2 X1 X2 nums Xs:Nat→Prop} (h:Made F A w0 w φ φ1 st eM tm n1 X1) (k:Made F A w0 w φ1 φ2 eM qf tm n2 X2) (hn: ∀o,n1 o∨n2 o→nums o) (hX: ∀x,X1 x∨X2 x→Xs x):Made F A w0 w φ φ2 st qf tm nums Xs:=
 ⟨k.rel,k.β.trans h.β,k.I.trans h.I,fun e v he hd=>k.keep e v (h.keep e v he fun o ho hc=>hd o ho (hn o (.inl hc))) fun o ho hc=>hd o ho (hn o (.inr hc)),
   fun x hf hx=>k.free x (h.free x hf fun hc=>hx (hX x (.inl hc))) fun hc=>hx (hX x (.inr hc)),h.bx.trans k.bx⟩
theorem qF {f:Nat→Nat} (hf0: ∀j,f j≠0) (hinj: ∀j j',f j=f j'→j=j'): ∀(cs:List TC) (ms:List Mode) (j:Nat) (st:TS) (φ:Fp) (vs:List Value) (X:Nat→Nat→Prop),bw F A w0 φ st tm w→vs.length=cs.length→
 (∀(n:Nat) (c:TC) (v:Value),cs[n]?=some c→vs[n]?=some v→av w φ.I (ms.getD n .snap) (X n) c v)→(∀n k,n<cs.length→X n k→uZ F w0 w φ st k)→(∀n n' k,n<cs.length→n'<cs.length→X n k→X n' k→n=n')→
 ∃φ',Made F A w0 w φ φ' st (cD f ms j cs st).2 tm (fun o=> ∃n,j≤n∧n<j+cs.length∧o=f n) (fun k=> ∃n,n<cs.length∧X n k)∧(cD f ms j cs st).1.length=cs.length∧
  ∀(n:Nat) (e:CE) (v:Value),(cD f ms j cs st).1[n]?=some e→vs[n]?=some v→ek (cD f ms j cs st).2.ob w φ' e v∧ ∀o∈ig e,∃n,j≤n∧n<j+cs.length∧o=f n
 |[],ms,j,st,φ,vs,X,h,hl,hc,hF,hd=>⟨φ,Made.refl h,rfl,fun n e v he=>by simp[cD] at he⟩
 |c::cs,ms,j,st,φ,vs,X,h,hl,hc,hF,hd=>by
  cases vs with
  |nil=>cases hl
  |cons v vs=>
   have h0:=hc 0 c v rfl rfl
   obtain⟨φ1,eM,e1,m1,he1,agW,hmk⟩: ∃φ1 eM e1,Made F A w0 w φ φ1 st eM tm (fun o=>o=f j) (X 0)∧ek eM.ob w φ1 e1 v∧(∀o∈ig e1,o=f j)∧cD f ms j (c::cs) st=(e1::(cD f (ms.drop 1) (j+1) cs eM).1,(cD f (ms.drop 1) (j+1) cs eM).2):=by
    cases c with
    |any=>exact⟨φ,st,.gone,Made.refl h,trivial,fun o ho=>(by cases ho),rfl⟩
    |sc x=>
     refine⟨φ,st,.sc x,Made.refl h,?_,fun o ho=>(by cases ho),rfl⟩
     cases h0 with|sc _ _ _ hs=>exact⟨rfl,hs⟩
    |sub z rows=>
     have mk: ∀dp,(ms.getD 0 .snap)=OB.m ⟨dp,z,rows⟩→ ∃φ1,Made F A w0 w φ φ1 st (FK (f j) ⟨dp,z,rows⟩ st) tm (fun o=>o=f j) (X 0)∧ek (FK (f j) ⟨dp,z,rows⟩ st).ob w φ1 (.ref (f j) none) v:=fun dp hm=>by
      rw[hm] at h0
      have hr:=h.FK (o:=f j) (b:=⟨dp,z,rows⟩) (hf0 j) h0 (fun k hk=>⟨(hF 0 k bZ hk).lt,(hF 0 k bZ hk).new⟩) (fun k hk=>(hF 0 k bZ hk).I) (fun k d hk _ hdm=>(hF 0 k bZ hk).S d hdm)
       (fun b cs hb _ hk=>(hF 0 _ bZ hk).B b cs hb rfl)
      refine⟨_,⟨hr,rfl,rfl,fun e v he hd=>ahI (hf0 j) he fun hm=>hd _ hm rfl,fun k hk hn=>hk.FK hn,ahJ⟩,⟨dp,z,rows⟩,?_,?_⟩
      ·show an _ (pU _ _ _)=_
       exact nI
      ·show v=(if f j=f j then v else _)
       rw[aR rfl]
     have hhd:ms.headD .snap=ms.getD 0 .snap:=vi ms .snap
     cases hm:ms.headD .snap with
     |snap=>
      refine⟨φ,st,.snap [] none z rows,Made.refl h,⟨fun d hd=>(by cases hd),?_,fun o i f e=>(by cases e)⟩,fun o ho=>(by cases ho),?_⟩
      ·rw[←hhd,hm] at h0
       exact h0.rm fun k hk=> .inl hk
      ·simp only[cD,hm]
     |top=>
      obtain⟨φ1,m,hce⟩:=mk false (by rw[←hhd,hm];rfl);exact⟨φ1,_,_,m,hce,fun o ho=>by simpa [ig] using ho,by simp only[cD,hm]⟩
     |deep=>
      obtain⟨φ1,m,hce⟩:=mk true (by rw[←hhd,hm];rfl);exact⟨φ1,_,_,m,hce,fun o ho=>by simpa [ig] using ho,by simp only[cD,hm]⟩
   obtain⟨φ2,m2,l2,c2⟩:=qF hf0 hinj cs (ms.drop 1) (j+1) eM φ1 vs (fun n=>X (n+1)) m1.rel (by simpa using hl) (fun n c' v' hn hv=>by
    rw[m1.I,nW]
    exact hc (n+1) c' v' (by simpa using hn) (by simpa using hv)) (fun n k hn hk=>m1.free k (hF (n+1) k (by simpa using hn) hk) fun hx0=>by
    have:=hd 0 (n+1) k bZ (by simpa using hn) hx0 hk
    omega) (fun n n' k hn hn' hk hk'=>by
    have:=hd (n+1) (n'+1) k (by simpa using hn) (by simpa using hn') hk hk'
    omega)
   rw[hmk];refine⟨φ2,m1.trans m2 (fun o ho=> ?_) (fun k hk=> ?_),by simp only[gG];rw[l2],fun n e v' hn hv=> ?_⟩
   ·rcases ho with ho|⟨n,n1,n2,n3⟩
    ·exact⟨j,cL _,by simp,ho⟩
    ·exact⟨n,by omega,by simp only[gG];omega,n3⟩
   ·rcases hk with hk|⟨n,n1,n2⟩
    ·exact⟨0,by simp,hk⟩
    ·exact⟨n+1,by simpa using n1,n2⟩
   ·cases n with
    |zero=>
     simp only[fu,bq] at hn hv;subst hn hv;refine⟨m2.keep _ _ he1 fun o ho ⟨n,n1,n2,n3⟩=> ?_,fun o ho=>⟨j,cL _,by simp,agW o ho⟩⟩;rw[agW o ho] at n3;have:=hinj _ _ n3;omega
    |succ n=>
     obtain⟨q1,q2⟩:=c2 n e v' (by simpa using hn) (by simpa using hv);refine⟨q1,fun o ho=> ?_⟩;obtain⟨n',n1,n2,n3⟩:=q2 o ho;exact⟨n',by omega,by simp only[gG];omega,n3⟩
theorem bw.amS (h:bw F A w0 φ st tm w) {b:Nat} {cs:List CE} (hw:Bl b=true) (hs:(φ.β b).spot=none) (hf:uZ F w0 w φ st (φ.β b).block)
 (hc: ∀(j:Nat) (e:CE),cs[j]?=some e→ ∃v,w.cell? ((φ.β b).add j)=some v∧v.cells= #[v]∧ek st.ob w φ e v) (hz: ∀j,j<cs.length→w.frozen? ((φ.β b).add j)=false):bw F A w0 φ (st.LB b cs) tm w:=by
 have look: ∀{c cs'},an c (pU b cs st.bx)=some cs'→(c=b∧cs'=cs)∨(c≠b∧an c st.bx=some cs'):=fun {c cs'} hl=>by
  rw[gf] at hl
  split at hl
  ·cases hl;exact .inl ⟨by assumption,rfl⟩
  ·exact .inr ⟨by assumption,hl⟩
 refine⟨h.tmp,fun c cs' hl j e he=> ?_,h.obj,?_,h.frm⟩
 ·rcases look hl with⟨rfl,rfl⟩|⟨_,hl⟩
  ·exact hc j e he
  ·exact h.box c cs' hl j e he
 ·exact {
   arg:=h.sep.arg,nz:=h.sep.nz,apart:=h.sep.apart,read:=h.sep.read,fresh:=h.sep.fresh,ro:=h.sep.ro,oY:=h.sep.oY
   box:=fun c cs' hl hwc=>by
    rcases look hl with⟨rfl,rfl⟩|⟨hne,II⟩
    ·refine⟨hf.I,hf.S,hf.new,fun c' X5 hl' hne=> ?_⟩
     rcases look hl' with⟨rfl,_⟩|⟨_,hl'⟩
     ·exact absurd rfl hne
     ·exact hf.B c' X5 hl'
    ·obtain⟨a1,a2,a3,a4⟩:=h.sep.box c cs' II hwc
     refine⟨a1,a2,a3,fun c' X5 hl' anM=> ?_⟩;rcases look hl' with⟨rfl,_⟩|⟨_,hl'⟩
     ·exact fun e=>hf.B c cs' II e.symm
     ·exact a4 c' X5 hl' anM
   spot:=fun c cs' hl=>by
    rcases look hl with⟨rfl,rfl⟩|⟨_,hl⟩
    ·exact⟨fun _=>hs,hf.lt,fun e=>by rw[hw] at e;cases e⟩
    ·exact h.sep.spot c cs' hl
   soft:=fun c cs' j hl hwc hj=>by
    rcases look hl with⟨rfl,rfl⟩|⟨_,hl⟩
    ·exact hz j hj
    ·exact h.sep.soft c cs' j hl hwc hj}
theorem uZ.LB {b k:Nat} {cs:List CE} (h:uZ F w0 w φ st k) (hk:(φ.β b).block≠k):uZ F w0 w φ (st.LB b cs) k:=by
 refine⟨h.lt,h.new,h.I,h.S,fun c cs' hl=> ?_⟩;have hl:an c (pU b cs st.bx)=some cs':=hl;rw[gf] at hl
 split at hl
 ·rename_i e;rw[e];exact hk
 ·exact h.B c cs' hl
end Go.T
namespace Go.T
variable {F : Nat → Prop} {A : Arg} {w0 w w' : World} {φ φ' φ1 : Fp} {st st' sta eM qf : TS} {tm IF : Array Value} {C : mG}
variable {R : Type} {cf : Cf} {lp : Lp} {Q : R → Prop}
theorem NM {β:Nat→Addr} {XB:Nat→Nat→Nat→Prop} {E:Nat→Prop}: ∀(B:List (Nat×List Mode×List TC)) (st:TS) (φ:Fp),φ.β=β→bw F A w0 φ st tm w→(B.Pairwise fun x y=>x.1≠y.1)→
 (∀b ms ts,(b,ms,ts)∈B→Bl b=true∧(β b).spot=none∧uZ F w0 w φ st (β b).block∧(∀b' ms' ts',(b',ms',ts')∈B→b'≠b→(β b').block≠(β b).block)∧ ¬E (β b).block∧
   (∀b' ms' ts' j,(b',ms',ts')∈B→j<ts'.length→ ¬XB b' j (β b).block)∧
   ∃us:List Value,us.length=ts.length∧(∀(j:Nat) (u:Value),us[j]?=some u→w.cell? ((β b).add j)=some u∧u.cells= #[u]∧w.frozen? ((β b).add j)=false)∧
    ∀(j:Nat) (c:TC),ts[j]?=some c→ ∃u,us[j]?=some u∧av w φ.I (mA2 ms j) (XB b j) c u∧ ∀k,XB b j k→uZ F w0 w φ st k∧ ¬E k)→
 (∀b ms ts b' ms' ts' j j' k,(b,ms,ts)∈B→(b',ms',ts')∈B→j<ts.length→j'<ts'.length→XB b j k→XB b' j' k→b=b'∧j=j')→(∀k,E k→uZ F w0 w φ st k)→
 ∃φ',bw F A w0 φ' (JX B st) tm w∧φ'.β=β∧φ'.I=φ.I∧ ∀k,E k→uZ F w0 w φ' (JX B st) k
 |[],st,φ,hβ,h,_,_,_,hE=>⟨φ,h,hβ,rfl,hE⟩
 |(b,ms,ts)::r,st,φ,hβ,h,hp,hB,hX,hE=>by
  obtain⟨hw,hs,hf,hbl,hnE,hnX,us,u1,u2,u3⟩:=hB b ms ts (.head _);have hpr:=List.pairwise_cons.1 hp
  obtain⟨φ1,m,l1,c1⟩:=qF (f:=bid b) (fun j=>by unfold bid;omega) (fun j j' e=>by unfold bid at e;omega) ts (Yn ms ts) 0 st φ us (XB b) h u1 (fun n c v hn hv=>by
   rw[YM (List.getElem?_eq_some_iff.1 hn).1];obtain⟨u,a1,a2,_⟩:=u3 n c hn;rw[hv] at a1;cases a1
   exact a2) (fun n k hn hk=>by
   obtain⟨u,_,_,a3⟩:=u3 n _ (bC hn)
   exact(a3 k hk).1) (fun n n' k hn hn' hk hk'=>(hX b ms ts b ms ts n n' k (.head _) (.head _) hn hn' hk hk').2)
  have hβ1:φ1.β=β:=m.β.trans hβ
  have hput:=m.rel.amS (b:=b) (cs:=(cD (bid b) (Yn ms ts) 0 ts st).1) hw (by rw[hβ1];exact hs) (by rw[hβ1];exact m.free _ hf fun⟨n,n1,n2⟩=>hnX b ms ts n (.head _) n1 n2) (fun j e he=>by
   have hj:j<us.length:=by rw[u1,←l1];exact(List.getElem?_eq_some_iff.1 he).1
   obtain⟨q1,q2,q3⟩:=u2 j _ (bC hj)
   exact⟨_,by rw[hβ1];exact q1,q2,(c1 j e _ he (bC hj)).1⟩) (fun j hj=>by
   have hj:j<us.length:=by rw[u1,←l1];exact hj
   rw[hβ1];exact(u2 j _ (bC hj)).2.2)
  have stay: ∀k,uZ F w0 w φ st k→(∀n,n<ts.length→ ¬XB b n k)→(β b).block≠k→uZ F w0 w φ1 ((cD (bid b) (Yn ms ts) 0 ts st).2.LB b (cD (bid b) (Yn ms ts) 0 ts st).1) k:=fun k hk hn hne=>
   (m.free k hk fun⟨n,n1,n2⟩=>hn n n1 n2).LB (by rw[hβ1];exact hne)
  obtain⟨φ2,r1,r2,r3,r4⟩:=NM (E:=E) (XB:=XB) r _ φ1 hβ1 hput hpr.2 (fun b' ms' ts' hm=>by
   obtain⟨a1,a2,a3,a4,a5,a6,us',v1,v2,v3⟩:=hB b' ms' ts' (.tail _ hm);have hne:b≠b':=hpr.1 _ hm;refine⟨a1,a2,stay _ a3 (fun n hn=>a6 b ms ts n (.head _) hn) (a4 b ms ts (.head _) hne),fun b2 ms2 ts2 hm2=>a4 b2 ms2 ts2 (.tail _ hm2),a5,fun b2 ms2 ts2 j hm2=>a6 b2 ms2 ts2 j (.tail _ hm2),us',v1,v2,fun j c hj=> ?_⟩;obtain⟨u,w1,w2,w3⟩:=v3 j c hj;have hjl:=(List.getElem?_eq_some_iff.1 hj).1;refine⟨u,w1,by rw[m.I];exact w2,fun k hk=>⟨stay k (w3 k hk).1 (fun n hn hx=> ?_) (fun e=> ?_),(w3 k hk).2⟩⟩
   ·exact hne (hX b ms ts b' ms' ts' n j k (.head _) (.tail _ hm) hn hjl hx hk).1
   ·exact hnX b' ms' ts' j (.tail _ hm) hjl (by rw[e];exact hk))
   (fun b1 ms1 ts1 b2 ms2 ts2 j j' k h1 h2=>hX b1 ms1 ts1 b2 ms2 ts2 j j' k (.tail _ h1) (.tail _ h2)) (fun k hk=>stay k (hE k hk) (fun n hn hx=>by
     obtain⟨u,_,_,a3⟩:=u3 n _ (bC hn)
     exact(a3 k hx).2 hk) (fun e=>hnE (by rw[e];exact hk)))
  exact⟨φ2,r1,r2,r3.trans m.I,r4⟩
theorem vm {ms:List Mode}: ∀{cs:List TC} {vs:List Value} {n:Nat} {c:TC} {v:Value},cs[n]?=some c→vs[n]?=some v→(ez ms cs vs)[n]?=some (ms.getD n .snap,c,v):=by
 intro cs
 induction cs generalizing ms with
 |nil=>intro vs n c v h;simp at h
 |cons c0 cs ih=>
  intro vs n c v h1 h2
  cases vs with
  |nil=>simp at h2
  |cons v0 vs=>
   cases n with
   |zero=>simp only[fu,bq] at h1 h2;subst h1 h2;simp only[ez,fu,vi]
   |succ n=>
    simp only[ez,tU] at h1 h2 ⊢;rw[ih (ms:=ms.drop 1) h1 h2,nW]
theorem VM {ob:List (Nat×OB)} {a:Nat} {cs:List TC} {u:Value} (hc:YL a cs u) {cs':List CE} (hl:cs'.length=cs.length) (hce: ∀(n:Nat) (e:CE) (v:Value),cs'[n]?=some e→u.cells.toList[n]?=some v→ek ob w φ e v) (h1: ∀v∈u.cells.toList,v.cells= #[v]):nV ob w φ (.mk (Nat.beq a 1) cs') u:=by
 obtain⟨ha,hsz,hag,hno⟩:=hc
 match a,ha with
 |0,_=>
  have hu:=hno bZ;rw[hu] at hsz
  have Ly:cs'.length=1:=by rw[hl];simpa using hsz.symm
  match cs',Ly with
  |[e],_=>exact⟨e,rfl,hu,hce 0 e u rfl (by rw[hu];rfl)⟩
 |1,_=>
  obtain⟨xs,rfl⟩:=hag rfl;have hsz:xs.size=cs.length:=hsz;refine⟨xs,rfl,by rw[hl];exact hsz,fun j e he=> ?_⟩
  have hj:j<xs.size:=by rw[hsz,←hl];exact(List.getElem?_eq_some_iff.1 he).1
  have hx:(Value.agg xs).cells.toList[j]?=some xs[j]:=by show xs.toList[j]?=_;simp[hj]
  exact⟨xs[j],w8 hj,h1 _ (iV hx),hce j e _ he hx⟩
theorem Qs {d k j j':Nat} (h:uY d k j=uY d k j'):j=j':=by unfold uY at h;omega
theorem afm {d k k':Nat} (h:xx d k=xx d k'):k=k':=by unfold xx at h;omega
theorem YW (d k:Nat):Bl (xx d k)=true:=by
 unfold Bl xx;rw[show Nat.ble 200000 (400000+20*d+k)=true from QE au];exact QE au
structure Ih (F:Nat→Prop) (A:Arg) (w0 w:World) (φ φ':Fp) (st st':TS) (tm:Array Value) (nums nb Xs:Nat→Prop):Prop where
 rel:bw F A w0 φ' st' tm w
 β: ∀b,¬nb b→φ'.β b=φ.β b
 I:φ'.I=φ.I
 keep: ∀e v,ek st.ob w φ e v→(∀o∈ig e,¬nums o)→ek st'.ob w φ' e v
 free: ∀k,uZ F w0 w φ st k→ ¬Xs k→uZ F w0 w φ' st' k
theorem Made.toB {nums nb Xs:Nat→Prop} (h:Made F A w0 w φ φ' st st' tm nums Xs):Ih F A w0 w φ φ' st st' tm nums nb Xs:=⟨h.rel,fun b _=>by rw[h.β],h.I,h.keep,h.free⟩
theorem Ih.trans {φ2:Fp} {n1 n2 b1 b2 X1 X2 nums nb Xs:Nat→Prop} (h:Ih F A w0 w φ φ1 st eM tm n1 b1 X1) (k:Ih F A w0 w φ1 φ2 eM qf tm n2 b2 X2) (hn: ∀o,n1 o∨n2 o→nums o) (hb: ∀o,b1 o∨b2 o→nb o) (hX: ∀x,X1 x∨X2 x→Xs x):Ih F A w0 w φ φ2 st qf tm nums nb Xs:=
 ⟨k.rel,fun b hbn=>(k.β b fun hc=>hbn (hb b (.inr hc))).trans (h.β b fun hc=>hbn (hb b (.inl hc))),k.I.trans h.I,fun e v he hd=>k.keep e v (h.keep e v he fun o ho hc=>hd o ho (hn o (.inl hc))) fun o ho hc=>hd o ho (hn o (.inr hc)),
   fun x hf hx=>k.free x (h.free x hf fun hc=>hx (hX x (.inl hc))) fun hc=>hx (hX x (.inr hc))⟩
theorem VN (h:bw F A w0 φ st tm w) {b:Nat} {cs:List CE} {ad:Addr} (hw:Bl b=true) (hs:ad.spot=none) (hf:uZ F w0 w φ st ad.block)
 (hc: ∀(j:Nat) (e:CE),cs[j]?=some e→ ∃v,w.cell? (ad.add j)=some v∧v.cells= #[v]∧ek st.ob w φ e v) (hz: ∀j,j<cs.length→w.frozen? (ad.add j)=false):
 Ih F A w0 w φ (φ.box b ad) st (LC b cs st) tm (fun _=>False) (fun x=>x=b) (fun x=>x=ad.block):=by
 refine⟨h.LC hw hs hf.lt hf.S hf.I hf.new (fun b' cs' hb' _=>hf.B b' cs' hb') hc hz,fun b' hb'=> ?_,rfl,fun e v he _=>(by cases e<;>exact he),fun k hk hx=>⟨hk.lt,hk.new,hk.I,hk.S,fun c cs' hl=> ?_⟩⟩
 ·show(if b'=b then ad else φ.β b')=_
  rw[aJ hb']
 ·have hl:an c (pU b cs (rG b st.bx))=some cs':=hl
  show((if c=b then ad else φ.β c)).block≠k;rw[gf,jQ] at hl
  by_cases hcb:c=b
  ·rw[aR hcb];exact fun e=>hx e.symm
  ·rw[aJ hcb,aJ hcb] at hl
   rw[aJ hcb];exact hk.B c cs' hl
theorem oM.shift {X:Nat→Nat→Prop} {a:Nat}: ∀{vs:List (Nat×List TC)} {n:Nat} {ms:List (List Mode)} {us:List Value} {dV:List It},oM w X (a+n) ms vs us dV→oM w (fun i=>X (a+i)) n ms vs us dV
 |[],n,ms,[],dV,h=>by cases ms<;>exact h
 |[],n,ms,_::_,dV,h=>by cases ms<;>exact h.elim
 |(_,_)::_,n,ms,[],dV,h=>by cases ms<;>exact h.elim
 |(a',cs)::r,n,ms,u::us,dV,h=>by
  obtain⟨a0,b,h1,h2,h3⟩:=h;rw[nO] at h3;exact⟨a0,b,h1,h2,h3.shift⟩
theorem NN {d:Nat}: ∀(vs:List (Nat×List TC)) (k:Nat) (ms:List (List Mode)) (st:TS) (φ:Fp) (us:List Value) (dV:List It) (X:Nat→Nat→Prop),bw F A w0 φ st tm w→oM w X 0 ms vs us dV→Hf vs=true→
 (∀(n:Nat) (it:It),dV[n]?=some it→av w φ.I it.1 (X n) it.2.1 it.2.2)→(∀n x,n<dV.length→X n x→uZ F w0 w φ st x)→(∀n n' x,n<dV.length→n'<dV.length→X n x→X n' x→n=n')→
 ∃φ',Ih F A w0 w φ φ' st (iW d k ms vs st).2 tm (fun o=> ∃k' j,k≤k'∧j<20∧o=uY d k' j) (fun b=> ∃k',k≤k'∧b=xx d k') (fun x=> ∃n,n<dV.length∧X n x)∧(iW d k ms vs st).1.length=vs.length∧us.length=vs.length∧
  ∀(n:Nat) (c:rF) (u:Value),(iW d k ms vs st).1[n]?=some c→us[n]?=some u→nV (iW d k ms vs st).2.ob w φ' c u
 |[],k,ms,st,φ,us,dV,X,h,hc,hs,_,_,_=>by
  cases us with
  |nil=>exact⟨φ,(Made.refl h).toB,rfl,rfl,fun n c u hn=>by simp[iW] at hn⟩
  |cons u us=>cases ms<;>exact hc.elim
 |(a,cs)::r,k,ms,st,φ,us,dV,X,h,hc,hs,hi,hF,hd=>by
  cases us with
  |nil=>cases ms<;>exact hc.elim
  |cons u us=>
   obtain⟨a0,b,rfl,TG,ac1⟩:=hc;have ac1:=oM.shift (n:=0) (by rw[lG] at ac1;exact ac1)
   have hsm:cs.length≤20∧Hf r=true:=by
    simp only[Hf] at hs
    split at hs
    ·exact⟨tX ir,hs⟩
    ·cases hs
   have tail: ∀{φ1:Fp} {eM:TS} {nums nb:Nat→Prop},Ih F A w0 w φ φ1 st eM tm nums nb (fun x=> ∃n,n<a0.length∧X n x)→(∀o,nums o→ ∃j,j<20∧o=uY d k j)→(∀o,nb o→o=xx d k)→
    ∃φ',Ih F A w0 w φ φ' st (iW d (k+1) (ms.drop 1) r eM).2 tm (fun o=> ∃k' j,k≤k'∧j<20∧o=uY d k' j) (fun b=> ∃k',k≤k'∧b=xx d k') (fun x=> ∃n,n<(a0++b).length∧X n x)∧
     Ih F A w0 w φ1 φ' eM (iW d (k+1) (ms.drop 1) r eM).2 tm (fun o=> ∃k' j,k+1≤k'∧j<20∧o=uY d k' j) (fun b=> ∃k',k+1≤k'∧b=xx d k') (fun x=> ∃n,n<b.length∧X (a0.length+n) x)∧
     (iW d (k+1) (ms.drop 1) r eM).1.length=r.length∧us.length=r.length∧
     ∀(n:Nat) (c:rF) (u:Value),(iW d (k+1) (ms.drop 1) r eM).1[n]?=some c→us[n]?=some u→nV (iW d (k+1) (ms.drop 1) r eM).2.ob w φ' c u:=fun {φ1 eM nums nb} m1 anN hnb=>by
    obtain⟨φ2,m2,l2,l3,c2⟩:=NN (d:=d) r (k+1) (ms.drop 1) eM φ1 us b (fun n=>X (a0.length+n)) m1.rel ac1 hsm.2 (fun n it hn=>by
     rw[m1.I]
     exact hi (a0.length+n) it (by rw[m7 au,Nat.add_sub_cancel_left];exact hn)) (fun n x hn hx=>m1.free x (hF (a0.length+n) x (by rw[ct];omega) hx) fun⟨n',n1,n2⟩=>by
     have:=hd n' (a0.length+n) x (by rw[ct];omega) (by rw[ct];omega) n2 hx
     omega) (fun n n' x hn hn' hx hx'=>by
     have:=hd (a0.length+n) (a0.length+n') x (by rw[ct];omega) (by rw[ct];omega) hx hx'
     omega)
    refine⟨φ2,m1.trans m2 (fun o ho=> ?_) (fun o ho=> ?_) (fun x hx=> ?_),m2,l2,l3,c2⟩
    ·rcases ho with ho|⟨k',j,n1,n2,n3⟩
     ·obtain⟨j,j1,j2⟩:=anN o ho
      exact⟨k,j,cL _,j1,j2⟩
     ·exact⟨k',j,by omega,n2,n3⟩
    ·rcases ho with ho|⟨k',n1,n3⟩
     ·exact⟨k,cL _,hnb o ho⟩
     ·exact⟨k',by omega,n3⟩
    ·rcases hx with⟨n,n1,n2⟩|⟨n,n1,n2⟩
     ·exact⟨n,by rw[ct];omega,n2⟩
     ·exact⟨a0.length+n,by rw[ct];omega,n2⟩
   rcases TG with⟨hn2,TG,rfl⟩|⟨rfl,ad,us0,rfl,wH,Qf,Tw,hX0,rfl⟩
   ·have Qf:u.cells.toList.length=cs.length:=by rw[yf];exact TG.2.1
    have hcl:(ez (ms.headD []) cs u.cells.toList).length=cs.length:=nX Qf.symm
    obtain⟨φ1,m1,l1,c1⟩:=qF (f:=uY d k) (fun j=>by unfold uY;omega) (fun j j' e=>Qs e) cs (ms.headD []) 0 st φ u.cells.toList X h Qf (fun n c v hn hv=>by
     have:=hi n _ (by rw[kC (by rw[hcl];exact(List.getElem?_eq_some_iff.1 hn).1)];exact vm hn hv)
     exact this) (fun n x hn hx=>hF n x (by rw[ct,hcl];omega) hx) (fun n n' x hn hn' hx hx'=>hd n n' x (by rw[ct,hcl];omega) (by rw[ct,hcl];omega) hx hx')
    obtain⟨φ2,m,m2,l2,l3,c2⟩:=tail (nums:=fun o=> ∃n,0≤n∧n<0+cs.length∧o=uY d k n) (nb:=fun _=>False) (by rw[hcl];exact m1.toB) (fun o ⟨n,_,n2,n3⟩=>⟨n,by omega,n3⟩) (fun o ho=>ho.elim);have hb2:Nat.beq a 2=false:=beq_false hn2
    have hmk:iW d k ms ((a,cs)::r) st=(.mk (Nat.beq a 1) (cD (uY d k) (ms.headD []) 0 cs st).1::(iW d (k+1) (ms.drop 1) r (cD (uY d k) (ms.headD []) 0 cs st).2).1,(iW d (k+1) (ms.drop 1) r (cD (uY d k) (ms.headD []) 0 cs st).2).2):=by
     simp only[iW,hb2]
    rw[hmk];refine⟨φ2,m,by simp only[gG];rw[l2],by simp only[gG];rw[l3],fun n c v hn hv=> ?_⟩
    cases n with
    |zero=>
     simp only[fu,bq] at hn hv;subst hn hv;refine VM TG l1 (fun n e v he hv=> ?_) fun v hv=> ?_
     ·obtain⟨q1,q2⟩:=c1 n e v he hv
      refine m2.keep e v q1 fun o ho ⟨k',j,n1,n2,n3⟩=> ?_;obtain⟨n',_,n4,n5⟩:=q2 o ho;rw[n5] at n3;unfold uY at n3;omega
     ·obtain⟨n,hn,rfl⟩:=List.mem_iff_getElem.1 hv
      have hn':n<cs.length:=by rw[←Qf];exact hn
      have:=hi n _ (by rw[kC (by rw[hcl];exact hn')];exact vm (bC hn') (bC hn));exact this.cells
    |succ n=>exact c2 n c v (by simpa using hn) (by simpa using hv)
   ·have hcl:(ez (ms.headD []) cs us0).length=cs.length:=nX Qf.symm
    have hit: ∀{n:Nat} {it:It},(ez (ms.headD []) cs us0)[n]?=some it→((WQ::ez (ms.headD []) cs us0)++b)[1+n]?=some it:=fun {n it} hn=>by
     rw[kC (by rw[gG];have:=(List.getElem?_eq_some_iff.1 hn).1;omega),show 1+n=n+1 by omega,tU];exact hn
    have hlt: ∀{n:Nat},n<cs.length→1+n<((WQ::ez (ms.headD []) cs us0)++b).length:=fun {n} hn=>by rw[ct,gG,hcl];omega
    obtain⟨φ1,m1,l1,c1⟩:=qF (f:=uY d k) (fun j=>by unfold uY;omega) (fun j j' e=>Qs e) cs (ms.headD []) 0 st φ us0 (fun n=>X (1+n)) h Qf (fun n c v hn hv=>hi (1+n) _ (hit (vm hn hv)))
     (fun n x hn hx=>hF (1+n) x (hlt hn) hx) (fun n n' x hn hn' hx hx'=>by have:=hd (1+n) (1+n') x (hlt hn) (hlt hn') hx hx';omega)
    have hfree:uZ F w0 w φ1 (cD (uY d k) (ms.headD []) 0 cs st).2 ad.block:=m1.free _ (hF 0 _ bZ hX0) fun⟨n,n1,n2⟩=>by
     have:=hd 0 (1+n) _ bZ (hlt n1) hX0 n2;omega
    have mb:=VN m1.rel (b:=xx d k) (cs:=(cD (uY d k) (ms.headD []) 0 cs st).1) (YW d k) wH hfree (fun j e he=>by
     have hj:j<us0.length:=by rw[Qf,←l1];exact(List.getElem?_eq_some_iff.1 he).1
     obtain⟨q1,q2,q3⟩:=Tw j _ (bC hj)
     exact⟨_,q1,q2,(c1 j e _ he (bC hj)).1⟩) (fun j hj=>by
     have hj:j<us0.length:=by rw[Qf,←l1];exact hj
     exact(Tw j _ (bC hj)).2.2)
    have m12:=(m1.toB (nb:=fun _=>False)).trans mb (nums:=fun o=> ∃n,0≤n∧n<0+cs.length∧o=uY d k n) (nb:=fun x=>x=xx d k) (Xs:=fun x=> ∃n,n<(WQ::ez (ms.headD []) cs us0).length∧X n x) (fun o ho=>ho.elim id fun hx=>hx.elim) (fun o ho=>ho.elim (fun hx=>hx.elim) id) (fun x hx=>by
     rcases hx with⟨n,n1,n2⟩|hx
     ·exact⟨1+n,by rw[gG,hcl];omega,n2⟩
     ·exact⟨0,by simp,by rw[hx];exact hX0⟩)
    obtain⟨φ2,m,m2,l2,l3,c2⟩:=tail m12 (fun o ⟨n,_,n2,n3⟩=>⟨n,by omega,n3⟩) (fun o ho=>ho);have hmk:iW d k ms ((2,cs)::r) st=(.ptr (xx d k)::(iW d (k+1) (ms.drop 1) r (LC (xx d k) (cD (uY d k) (ms.headD []) 0 cs st).1 (cD (uY d k) (ms.headD []) 0 cs st).2)).1,(iW d (k+1) (ms.drop 1) r (LC (xx d k) (cD (uY d k) (ms.headD []) 0 cs st).1 (cD (uY d k) (ms.headD []) 0 cs st).2)).2):=rfl;rw[hmk];refine⟨φ2,m,by simp only[gG];rw[l2],by simp only[gG];rw[l3],fun n c v hn hv=> ?_⟩
    cases n with
    |zero=>
     simp only[fu,bq] at hn hv;subst hn hv;show Value.pointer (some ad)=Value.pointer (some (φ2.β (xx d k)));rw[m2.β _ fun⟨k',n1,n2⟩=>by have:=afm n2;omega];show _=Value.pointer (some (if xx d k=xx d k then ad else _));rw[aR rfl]
    |succ n=>exact c2 n c v (by simpa using hn) (by simpa using hv)
theorem afn {d:Nat} {ms:List (List Mode)} {r:TV} {v:Value} {dV:List It} {X:Nat→Nat→Prop} (h:bw F A w0 φ st tm w) (hr:VD w X ms r v dV) (hi: ∀(n:Nat) (it:It),dV[n]?=some it→av w φ.I it.1 (X n) it.2.1 it.2.2) (hF: ∀n x,n<dV.length→X n x→uZ F w0 w φ st x)
 (hd: ∀n n' x,n<dV.length→n'<dV.length→X n x→X n' x→n=n') (hdt:d<tm.size) {st':TS} (ht:aey d ms r st=some st'):Rel F A w0 st' (tm.setIfInBounds d v) w:=by
 have one: ∀(a:Nat) (cs:List TC),YL a cs v→dV=ez (ms.headD []) cs v.cells.toList→Rel F A w0 ((cD (uY d 0) (ms.headD []) 0 cs st).2.set d (.v false [.mk (Nat.beq a 1) (cD (uY d 0) (ms.headD []) 0 cs st).1])) (tm.setIfInBounds d v) w:=fun a cs TG he=>by
  subst he
  have Qf:v.cells.toList.length=cs.length:=by rw[yf];exact TG.2.1
  have hcl:(ez (ms.headD []) cs v.cells.toList).length=cs.length:=nX Qf.symm
  obtain⟨φ1,m1,l1,c1⟩:=qF (f:=uY d 0) (fun j=>by unfold uY;omega) (fun j j' e=>Qs e) cs (ms.headD []) 0 st φ v.cells.toList X h Qf (fun n c u hn hv=>hi n _ (vm hn hv)) (fun n x hn hx=>hF n x (by rw[hcl];exact hn) hx)
   (fun n n' x hn hn' hx hx'=>hd n n' x (by rw[hcl];exact hn) (by rw[hcl];exact hn') hx hx')
  refine⟨φ1,m1.rel.TM hdt ⟨_,rfl,VM TG l1 (fun n e u he hv=>(c1 n e u he hv).1) fun u hu=> ?_⟩⟩;obtain⟨n,hn,rfl⟩:=List.mem_iff_getElem.1 hu
  have hn':n<cs.length:=by rw[←Qf];exact hn
  exact(hi n _ (vm (bC hn') (bC hn))).cells
 cases r with
 |c c=>obtain⟨h1,h2⟩:=hr;cases ht;exact one 0 [c] h1 h2
 |ag cs=>obtain⟨h1,h2⟩:=hr;cases ht;exact one 1 cs h1 h2
 |bx cs=>
  have hc:oM w X 0 ms [(2,cs)] [v] dV:=⟨dV,[],by simp,.inr ⟨rfl,hr⟩,by cases ms.drop 1<;>rfl⟩;have hsm: ∃b,Hf [(2,cs)]=b:=⟨_,rfl⟩;obtain⟨ad,us0,rfl,wH,Qf,Tw,hX0,rfl⟩:=hr
  cases ht
  have hcl:(ez (ms.headD []) cs us0).length=cs.length:=nX Qf.symm
  have hit: ∀{n:Nat} {it:It},(ez (ms.headD []) cs us0)[n]?=some it→(WQ::ez (ms.headD []) cs us0)[1+n]?=some it:=fun {n it} hn=>by
   rw[show 1+n=n+1 by omega,tU];exact hn
  have hlt: ∀{n:Nat},n<cs.length→1+n<(WQ::ez (ms.headD []) cs us0).length:=fun {n} hn=>by rw[gG,hcl];omega
  obtain⟨φ1,m1,l1,c1⟩:=qF (f:=uY d 0) (fun j=>by unfold uY;omega) (fun j j' e=>Qs e) cs (ms.headD []) 0 st φ us0 (fun n=>X (1+n)) h Qf (fun n c v hn hv=>hi (1+n) _ (hit (vm hn hv)))
   (fun n x hn hx=>hF (1+n) x (hlt hn) hx) (fun n n' x hn hn' hx hx'=>by have:=hd (1+n) (1+n') x (hlt hn) (hlt hn') hx hx';omega)
  have hfree:uZ F w0 w φ1 (cD (uY d 0) (ms.headD []) 0 cs st).2 ad.block:=m1.free _ (hF 0 _ bZ hX0) fun⟨n,n1,n2⟩=>by
   have:=hd 0 (1+n) _ bZ (hlt n1) hX0 n2;omega
  have mb:=VN m1.rel (b:=xx d 0) (cs:=(cD (uY d 0) (ms.headD []) 0 cs st).1) (YW d 0) wH hfree (fun j e he=>by
   have hj:j<us0.length:=by rw[Qf,←l1];exact(List.getElem?_eq_some_iff.1 he).1
   obtain⟨q1,q2,q3⟩:=Tw j _ (bC hj)
   exact⟨_,q1,q2,(c1 j e _ he (bC hj)).1⟩) (fun j hj=>by
   have hj:j<us0.length:=by rw[Qf,←l1];exact hj
   exact(Tw j _ (bC hj)).2.2)
  refine⟨_,mb.rel.TM hdt ?_⟩;show Value.pointer (some ad)=Value.pointer (some ((if xx d 0=xx d 0 then ad else _).add 0));rw[aR rfl,Addr.add_zero']
 |tu vs=>
  obtain⟨us,rfl,hc⟩:=hr;simp only[aey] at ht
  split at ht
  ·rename_i hs
   cases ht
   obtain⟨φ1,m1,l1,l2,c1⟩:=NN (d:=d) vs 0 ms st φ us.toList dV X h hc hs hi hF hd;refine⟨φ1,m1.rel.TM hdt ⟨us,rfl,by rw[l1,←l2];simp,fun n c hn=> ?_⟩⟩
   have hnl:n<us.toList.length:=by rw[l2,←l1];exact(List.getElem?_eq_some_iff.1 hn).1
   have hnu:n<us.size:=by simpa using hnl
   exact⟨us[n],w8 hnu,c1 n c _ hn (by simp[hnu])⟩
  ·cases ht
 |_=>cases ht
end Go.T
namespace Go.T
variable {F : Nat → Prop} {A : Arg} {w0 w w' : World} {φ φ' φ1 : Fp} {st st' sta eM qf : TS} {tm IF : Array Value} {C : mG}
variable {R : Type} {cf : Cf} {lp : Lp} {Q : R → Prop}
def Rk (n:Nat) (o:Oper):Bool:=match o.dst with|some d=>Nat.blt d n|none=>true
def Od (n:Nat):List Oper→Bool
 |[]=>true
 |o::r=>match Rk n o with|true=>Od n r|false=>false
def we (n:Nat):Code→Bool
 | .region _ ops _=>Od n ops.toList
 | .seq a b=>match we n a with|true=>we n b|false=>false
 | .cond _ a b=>match we n a with|true=>we n b|false=>false
 | .block _ b=>we n b
 | .loop b=>we n b
 |_=>true
structure COk (C:mG):Prop where
 ty:ij C
 name: ∀(f:Nat) (fn:Func),C.P.funcs[f]?=some fn→(fn.name== "runtime.NumGoroutine")=false
 dst: ∀(f:Nat) (fn:Func) (c:Code),C.P.funcs[f]?=some fn→fn.body=some c→we fn.ntmps c=true
structure LX (C:mG) (f:FuncId) (vs:List TV) (r:TV) (fs:List TV):Prop where
 body: ∃fn c,C.P.funcs[f]?=some fn∧fn.body=some c
 calls: ∀(w:World) (xs:List Value) (Rg BB:Nat→Prop) (X:Nat→Nat→Nat→Prop) (Y:Nat→Nat→Prop),WO w (C.sig f).ps vs xs Rg BB X Y→(C.sig f).ps.length=xs.length→
  Calls C.P f xs.toArray w fun e w'=> ∃v,e= .returned v∧NG (v8 X Y) (Ib true Rg BB) w w' (C.sig f) xs r fs v
def Rl (C:mG) (cf:Cf):Prop:= ∀f vs r fs,cf f vs r fs→LX C f vs r fs
theorem WZ (hC:COk C) {f:FuncId} {args:Array Value} (h: ∃fn c,C.P.funcs[f]?=some fn∧fn.body=some c):(callFunc f args).run C.P w= .ok (.enter f args) w:=by
 obtain⟨fn,c,h1,h2⟩:=h;unfold callFunc;simp only[Sem.run_bind];have:(program:Sem Program).run C.P w= .ok C.P w:=rfl;rw[this];simp only[Result.andThen,h1,hC.name f fn h1,h2]
 rfl
theorem YX {ps:List bY} {es:List TE} {own oE:List Nat} (h:bw F A w0 φ st tm w) (hgi:CF st ps es=some (own,oE)) {xs:List Value} (Nx: ∀(i:Nat) (e:TE),es[i]?=some e→ ∃x,xs[i]?=some x∧dx st.ob w φ e x) {k:Nat} (hk:v8 (XOf w φ st ps es) (YOf φ ps es) k):
 Wr st φ (sK st ps es) k:=by
 have g:=Bz hgi
 have mem: ∀{ps:List bY} {es:List TE} {i:Nat} {p:bY} {e:TE} {x:Nat},ps[i]?=some p→es[i]?=some e→p≠ .borrow→x∈FN st e→x∈sK st ps es:=by
  intro ps
  induction ps with
  |nil=>intro es i p e x h;simp at h
  |cons q ps ih=>
   intro es i p e x h1 h2 h3 h4
   cases es with
   |nil=>simp at h2
   |cons e0 es=>
    cases i with
    |zero=>
     simp only[fu,bq] at h1 h2;subst h1 h2
     cases q with
     |borrow=>exact absurd rfl h3
     |inout ms=>exact kD _ h4
     |consume ms=>exact kD _ h4
    |succ i=>
     have:=ih (by simpa using h1) (by simpa using h2) h3 h4
     cases q with
     |borrow=>exact this
     |inout ms=>exact p6 _ this
     |consume ms=>exact p6 _ this
 rcases hk with⟨i,j,hx⟩|⟨i,hy⟩
 ·obtain⟨p,e,e',o,l,h1,h2,h3,h4,h5,h6,h7,h8,_⟩:=Kk h g Nx hx
  refine .inr ⟨o,mem h1 h2 h3 ?_,h6,h7⟩
  have agW:o∈ig e':=by
   cases e' with
   |ref o1 cut=>cases h5;exact .head _
   |snap ds loc z rows=>cases loc with
    |none=>cases h5
    |some q=>
     obtain⟨o1,i1,f1⟩:=q
     cases h5
     obtain⟨x,_,ht⟩:=Nx i e h2;obtain⟨v,hv⟩:=CO h ht h4;exact(hv.2.2 o i1 f1 rfl).1
   |_=>cases h5
  have ok:=LW h8;rcases ok.form with⟨b,rfl⟩|⟨_,ag,cs,rfl,_⟩
  ·obtain⟨_,_,_,_,Ny,_⟩:=ok.bx b 0 rfl
   simp only[FN,Wv,Ny];exact .tail _ (List.mem_map.2 ⟨o,List.mem_flatMap.2 ⟨e',iV h4,agW⟩,rfl⟩)
  ·simp only[FN,jP,m0]
   exact List.mem_map.2 ⟨o,List.mem_flatMap.2 ⟨e',iV h4,agW⟩,rfl⟩
 ·obtain⟨p,b,h1,h2,h3,rfl⟩:=hy
  obtain⟨l,ok,_⟩:=g.ow i p _ h1 h2 h3;obtain⟨_,_,HW,_,Ny,_⟩:=ok.bx b 0 rfl;refine .inl ⟨b,_,mem h1 h2 h3 ?_,Ny,HW,rfl⟩;simp only[FN,Wv,Ny];exact .head _
theorem zZ: ∀{cs:List TC} {ms:List Mode} {j:Nat} {c:TC},qD ms cs=true→cs[j]?=some c→(∃v,c= .sc v)∨ms.getD j .snap= .deep
 |[],_,_,_,_,h=>by simp at h
 | .sc v::r,ms,0,c,ht,h=>by simp only[fu,bq] at h;exact .inl ⟨v,h.symm⟩
 | .sc v::r,ms,j+1,c,ht,h=>by
   have:=zZ (ms:=ms.drop 1) ht (by simpa using h)
   rwa [nW] at this
 | .sub z rows::r,ms,j,c,ht,h=>by
   simp only[qD] at ht
   split at ht
   ·rename_i hm
    cases j with
    |zero=>rw[vi] at hm;exact .inr hm
    |succ j=>
     have:=zZ (ms:=ms.drop 1) ht (by simpa using h)
     rwa [nW] at this
   ·cases ht
 | .any::r,ms,j,c,ht,h=>by
   simp only[qD] at ht
   split at ht
   ·rename_i hm
    cases j with
    |zero=>rw[vi] at hm;exact .inr hm
    |succ j=>
     have:=zZ (ms:=ms.drop 1) ht (by simpa using h)
     rwa [nW] at this
   ·cases ht
def Hp (it:It):Prop:=it.1= .deep∨ ∃v,it.2.1= .sc v
theorem tD {ms:List Mode} {cs:List TC} {vs:List Value} (ht:qD ms cs=true) {i:Nat} {it:It} (h:(ez ms cs vs)[i]?=some it):Hp it:=by
 obtain⟨c,v,h1,h2,rfl⟩:=adg h;exact(zZ ht h1).elim .inr .inl
theorem VO {X:Nat→Nat→Prop} {n:Nat} {m:List Mode} {cs:List TC} {u:Value} {dV:List It} (h:VC w X n m cs u dV) (ht:qD m cs=true): ∀it∈dV,Hp it:=by
 obtain⟨_,us,_,_,_,_,_,rfl⟩:=h;intro it hi;rcases dJ.1 hi with rfl|hi
 ·exact .inl rfl
 ·obtain⟨i,hi⟩:=List.mem_iff_getElem?.1 hi
  exact tD ht hi
theorem NO {X:Nat→Nat→Prop}: ∀{vs:List (Nat×List TC)} {n:Nat} {ms:List (List Mode)} {us:List Value} {dV:List It},oM w X n ms vs us dV→Qo ms vs=true→ ∀it∈dV,Hp it
 |[],n,ms,[],dV,h,_=>by
  have h:dV=[]:=by cases ms<;>exact h
  rw[h];intro it hi;cases hi
 |[],n,ms,_::_,dV,h,_=>by cases ms<;>exact h.elim
 |(_,_)::_,n,ms,[],dV,h,_=>by cases ms<;>exact h.elim
 |(a,cs)::r,n,ms,u::us,dV,h,ht=>by
  obtain⟨a0,b,rfl,h2,h3⟩:=h;simp only[Qo] at ht
  split at ht
  ·rename_i hcs
   intro it hi;rcases List.mem_append.1 hi with hi|hi
   ·rcases h2 with⟨_,_,rfl⟩|⟨_,hb⟩
    ·obtain⟨i,hi⟩:=List.mem_iff_getElem?.1 hi
     exact tD hcs hi
    ·exact VO hb hcs it hi
   ·exact NO h3 ht it hi
  ·cases ht
theorem adt {X:Nat→Nat→Prop} {ms:List (List Mode)} {r:TV} {v:Value} {dV:List It} (h:VD w X ms r v dV) (ht:ab5 ms r=true): ∀it∈dV,Hp it:=by
 cases r with
 |c c=>obtain⟨_,rfl⟩:=h;intro it hi;obtain⟨i,hi⟩:=List.mem_iff_getElem?.1 hi;exact tD ht hi
 |ag cs=>obtain⟨_,rfl⟩:=h;intro it hi;obtain⟨i,hi⟩:=List.mem_iff_getElem?.1 hi;exact tD ht hi
 |bx cs=>exact VO h ht
 |tu vs=>obtain⟨_,_,h⟩:=h;exact NO h ht
 |_=>exact h.elim
theorem VP {cs:List TC}:qD (Yn [] cs) cs=true:=by
 induction cs with
 |nil=>rfl
 |cons c r ih=>cases c<;>exact ih
theorem Hq {NB:Nat→Prop}: ∀{ps:List bY} {xs:List Value} {fs:List TV} {dV:List It},zU w NB ps xs fs dV→Wu ps=true→ ∀it∈dV,Hp it
 |[],[],fs,dV,h,_=>by rw[h.2];intro it hi;cases hi
 |[],_::_,_,_,h,_=>h.elim
 |_::_,[],_,_,h,_=>h.elim
 |p::ps,x::xs,fs,dV,h,ht=>by
  cases p with
  |inout ms=>
   cases ms with
   |cons m ms=>cases ht
   |nil=>
    cases fs with
    |nil=>exact h.elim
    |cons f fs=>
     obtain⟨a,b,rfl,h2,h3⟩:=h;intro it hi;rcases List.mem_append.1 hi with hi|hi
     ·cases f with
      |c c=>rw[h3.2] at hi;simp only[j6] at hi;rw[hi];exact .inl rfl
      |ag cs=>obtain⟨_,ys,_,_,rfl⟩:=h3;obtain⟨i,hi⟩:=List.mem_iff_getElem?.1 hi;exact tD VP hi
      |bx cs=>obtain⟨ad,us,_,_,_,_,rfl⟩:=h3;obtain⟨i,hi⟩:=List.mem_iff_getElem?.1 hi;exact tD VP hi
      |_=>exact h3.elim
     ·exact Hq h2 ht it hi
  |borrow=>exact Hq (ps:=ps) (xs:=xs) (fs:=fs) h ht
  |consume _=>exact Hq (ps:=ps) (xs:=xs) (fs:=fs) h ht
theorem NG.tight {F:Nat→Prop} {Rg BB:Nat→Prop} {g:Sig} {args:List Value} {r:TV} {fs:List TV} {v:Value} (h:NG F (Ib true Rg BB) w0 w g args r fs v) (ht:aaJ g r=true):NG F (Ib g.shares Rg BB) w0 w g args r fs v:=by
 unfold aaJ at ht
 cases hs:g.shares with
 |true=>exact h
 |false=>
  rw[hs] at ht;simp only at ht
  split at ht
  ·rename_i hps
   obtain⟨frm,I,X,ri,fi,hb,hr,hf⟩:=h;refine⟨frm,fun _=>False,X,ri,fi,⟨fun i it hi=> ?_,fun i k hi hk=>⟨(hb.rng i k hi hk).1,(hb.rng i k hi hk).2.1,id⟩,hb.apart,fun k hk=>hk.elim⟩,hr,hf.mono fun k hk=>⟨id,hk.2⟩⟩;have hc:=hb.ok i it hi;have:Hp it:=(List.mem_append.1 (iV hi)).elim (adt hr ht it) (Hq hf hps it);obtain⟨m,c,u⟩:=it;rcases this with e|⟨y,e⟩
   ·have e:m= .deep:=e
    subst e;exact hc.Ic rfl
   ·have e:c= .sc y:=e
    subst e;have hc:av w I m (X i) (.sc y) u:=hc
    cases hc with|sc _ _ _ h=>exact .sc _ _ _ h
  ·cases ht
theorem NP (hC:COk C) (HY:Rl C cf) {a:Act} (h:bw F A w0 φ st a.tmps w) {o:Oper} {f:FuncId} {es:List TE} {xs:List Value} (hlen:es.length=xs.length) (Nx: ∀(i:Nat) (e:TE),es[i]?=some e→ ∃x,xs[i]?=some x∧dx st.ob w φ e x)
 (alZ:(execOp a.eval o).run C.P w=(callFunc f xs.toArray).run C.P w) (hwr:writes C st o=sK st (C.sig f).ps es) {K:TS→Ev R} (hd: ∀d,o.dst=some d→d<a.tmps.size) (hk:(JY C o.dst f es st K).holds cf lp Q) {Kc:Act→World→Prop} {Qc:Exit→Act→World→Prop}
 (hK: ∀st' v w',Rel F A w0 st' (a.put o.dst v).tmps w'→(K st').holds cf lp Q→w.heap.size≤w'.heap.size→(∀k,k<w.heap.size→ ¬Wr st φ (writes C st o) k→w'.heap[k]?=w.heap[k]?)→Kc (a.put o.dst v) w'):o.wp C.P a w Kc Qc:=by
 unfold JY at hk
 split at hk
 ·rename_i own oE hgi
  split at hk
  ·rename_i hn hm h0
   obtain⟨vs,hk,hin⟩:=ahG h hgi hn hm Nx hk
   split at hk
   ·rename_i hsm
    obtain⟨r,fs,hc,hk⟩:=hk;have hin:=hin hsm;obtain⟨hbody,aky⟩:=HY f vs r fs hc;have g:=Bz hgi;have hC':=aky w xs _ _ _ _ hin (by rw[g.len,hlen]);unfold Oper.wp;rw[alZ,WZ hC hbody,Oper.upon_enter];refine hC'.mono fun e w' hpost=> ?_;obtain⟨v,rfl,hp⟩:=hpost;simp only;simp only at hk
    split at hk
    ·exact hk.elim
    rename_i akz;have hp:=hp.tight akz
    split at hk
    ·rename_i W B hpo
     obtain⟨φ3,ri,fi,X,posB,af⟩:=adr h hgi hn hm h0 Nx hp hpo;rw[uf] at hk
     obtain⟨φ4,r4,β4,I4,free4⟩:=NM (β:=φ.β) (XB:=fun b j=>X (posB b j)) (E:=fun k=> ∃i,i<ri.length∧X i k) B _ φ3 af.β af.rel af.ndB (fun b ms ts hm=>by
      obtain⟨b1,b2,b3,b4,b5,b6,us,b7,b8,b9⟩:=af.box b ms ts hm;refine⟨b1,b2,b4,b6,fun⟨i,hi,hx⟩=>b5 i (by rw[ct];omega) hx,fun b' ms' ts' j hm' hj hx=> ?_,us,b7,b8,fun j c hj=> ?_⟩
      ·obtain⟨_,_,_,_,_,_,us',_,_,c9⟩:=af.box b' ms' ts' hm'
       obtain⟨u,u1,u2,u3,u4⟩:=c9 j _ (bC hj);exact b5 _ (List.getElem?_eq_some_iff.1 u2).1 hx
      ·obtain⟨u,u1,u2,u3,u4⟩:=b9 j c hj
       refine⟨u,u1,af.item _ _ u2,fun k hk=>⟨u4 k hk,fun⟨i,hi,hx⟩=> ?_⟩⟩;have:=af.apart _ _ k (List.getElem?_eq_some_iff.1 u2).1 (by rw[ct];omega) hk hx
       omega)
      (fun b ms ts b' ms' ts' j j' k hm hm' hj hj' hx hx'=>by
        obtain⟨_,_,_,_,_,_,us,_,_,c9⟩:=af.box b ms ts hm;obtain⟨u,u1,u2,u3,u4⟩:=c9 j _ (bC hj);obtain⟨_,_,_,_,_,_,us',_,_,c9'⟩:=af.box b' ms' ts' hm';obtain⟨u',u1',u2',u3',u4'⟩:=c9' j' _ (bC hj')
        exact af.posI b ms ts b' ms' ts' j j' hm hm' hj hj' (af.apart _ _ k (List.getElem?_eq_some_iff.1 u2).1 (List.getElem?_eq_some_iff.1 u2').1 hx hx')) (fun k ⟨i,hi,hx⟩=>af.free i k hi hx)
     have hfr: ∀k,k<w.heap.size→ ¬Wr st φ (writes C st o) k→w'.heap[k]?=w.heap[k]?:=fun k hk hn=>hp.frm.block k hk fun hc=>hn (by rw[hwr];exact YX h hgi Nx hc)
     cases mR:o.dst with
     |none=>
      rw[mR] at hk hK;exact hK _ v w' ⟨φ4,r4⟩ hk hp.frm.size hfr
     |some d=>
      rw[mR] at hk hK;simp only at hk
      split at hk
      ·rename_i st4 hres
       refine hK _ v w' ?_ hk hp.frm.size hfr
       exact afn r4 af.res (fun n it hn=>by rw[I4];exact af.item n it (by rw[kC (List.getElem?_eq_some_iff.1 hn).1];exact hn)) (fun n x hn hx=>free4 x ⟨n,hn,hx⟩)
        (fun n n' x hn hn' hx hx'=>af.apart n n' x (by rw[ct];omega) (by rw[ct];omega) hx hx') (hd d mR) hres
      ·exact hk.elim
    ·exact hk.elim
   ·exact hk.elim
  ·exact hk.elim
 ·exact hk.elim
theorem Rm (hT:ij C) {a:Act} (h:bw F A w0 φ st a.tmps w): ∀(xs:List Operand) (ts:List TypeId),xs.length=ts.length→(JZ C st xs ts).length=xs.length∧ ∀(i:Nat) (e:TE),(JZ C st xs ts)[i]?=some e→ ∃x,(xs.map a.eval)[i]?=some x∧dx st.ob w φ e x
 |[],[],_=>⟨rfl,fun i e h=>by simp[JZ] at h⟩
 |[],_::_,h=>by cases h
 |_::_,[],h=>by cases h
 |x::xs,t::ts,hl=>by
  obtain⟨h1,h2⟩:=Rm hT h xs ts (by simpa using hl);refine⟨by simp[JZ,h1],fun i e he=> ?_⟩
  cases i with
  |zero=>simp only[JZ,fu,bq] at he;subst he;exact⟨_,rfl,fC hT h t x⟩
  |succ i=>exact h2 i e (by simpa [JZ] using he)
theorem YY (hC:COk C) (HY:Rl C cf) {a:Act} (h:bw F A w0 φ st a.tmps w) {o:Oper} {K:TS→Ev R} (hd: ∀d,o.dst=some d→d<a.tmps.size) (hk:(ql C st o K).holds cf lp Q) {Kc:Act→World→Prop} {Qc:Exit→Act→World→Prop}
 (hK: ∀st' v w',Rel F A w0 st' (a.put o.dst v).tmps w'→(K st').holds cf lp Q→w.heap.size≤w'.heap.size→(∀k,k<w.heap.size→ ¬Wr st φ (writes C st o) k→w'.heap[k]?=w.heap[k]?)→Kc (a.put o.dst v) w'):o.wp C.P a w Kc Qc:=by
 have hT:=hC.ty
 have did:Did C F A w0 φ st o a w K cf lp Q→o.wp C.P a w Kc Qc:=fun⟨nx,v,w',st',h1,h2,h3,h4,h5,h6⟩=>by
  unfold Oper.wp;rw[h1];rcases h2 with rfl|⟨rfl,rfl⟩
  ·exact hK st' v w' h3 h4 h5 h6
  ·exact hK st' undef w' h3 h4 h5 h6
 have Lx:=hk;unfold ql at hk
 split at hk
 ·rename_i e;exact did (ae9 hT h e hd Lx)
 ·rename_i e;exact did (ajN hT h e hd Lx)
 ·rename_i e;exact did (afa hT h e Lx)
 ·rename_i e;exact did (TO hT h e hd Lx)
 ·rename_i e;exact did (WW hT h e hd Lx)
 ·rename_i e;exact did (afc hT h e hd Lx)
 ·rename_i e;exact did (adl hT h e hd Lx)
 ·rename_i e;exact did (ahD hT h e hd Lx)
 ·rename_i f args ts e
  split at hk
  ·rename_i hl
   have hl:=jw hl;obtain⟨g1,g2⟩:=Rm hT h args.toList ts.toList hl;refine NP hC HY h (xs:=args.toList.map a.eval) (by rw[g1];simp) g2 ?_ ?_ hd hk hK
   ·unfold execOp
    rw[e];simp only[resolve,Act.eval,Deferred.ofValue,Sem.run_bind,Sem.run_pure,Result.andThen,invoke]
    congr 2
    apply Array.ext'
    simp[Act.eval]
   ·unfold writes;rw[e]
  ·exact hk.elim
 ·rename_i i args ts e
  split at hk
  ·rename_i hl
   have hl:=jw hl
   split at hk
   ·rename_i f caps hf
    obtain⟨g1,g2⟩:=Rm hT h args.toList ts.toList hl;have hfv:=h.tmp i;rw[hf] at hfv;have hfv:a.tmps.getD i undef= .func (.func f) #[] (caps.map fun b=>Value.pointer (some (φ.β b))).toArray:=hfv;refine NP hC HY h (xs:=args.toList.map a.eval++caps.map fun b=>Value.pointer (some (φ.β b))) (by rw[ct,ct,g1];simp) (fun j e' he=> ?_) ?_ ?_ hd hk hK
    ·by_cases hlt:j<(JZ C st args.toList ts.toList).length
     ·rw[kC hlt] at he
      obtain⟨x,x1,x2⟩:=g2 j e' he;exact⟨x,by rw[kC (by rw[cq,←g1];exact hlt)];exact x1,x2⟩
     ·rw[m7 au,me] at he
      rw[m7 (by rw[cq,←g1];omega),cq,←g1,me]
      cases hb:caps[j-(JZ C st args.toList ts.toList).length]? with
      |none=>rw[hb] at he;cases he
      |some b=>
       rw[hb] at he;simp only[nT,bq] at he;subst he;exact⟨_,rfl,by show _=Value.pointer (some ((φ.β b).add 0));rw[Addr.add_zero']⟩
    ·unfold execOp
     rw[e];simp only[resolve,Sem.run_bind];have hev:a.eval (.tmp i)= .func (.func f) #[] (caps.map fun b=>Value.pointer (some (φ.β b))).toArray:=hfv;rw[hev];simp only[Deferred.ofValue,Sem.run_pure,Result.andThen,invoke]
     congr 2
     apply Array.ext'
     simp
    ·unfold writes;rw[e];simp only[hf]
   ·exact hk.elim
  ·exact hk.elim
 ·exact did (acq hT h hd hk)
end Go.T
namespace Go.T
variable {F : Nat → Prop} {A : Arg} {w0 w w' : World} {φ φ' φ1 : Fp} {st st' sta eM qf : TS} {tm IF : Array Value} {C : mG}
variable {R : Type} {cf : Cf} {lp : Lp} {Q : R → Prop}
structure Inv (F:Nat→Prop) (A:Arg) (w0:World) (fx:List Nat) (g:Nat→Value) (n:Nat) (st:TS) (a:Act) (w:World):Prop where
 rel:Rel F A w0 st a.tmps w
 fix: ∀i∈fx,a.tmps.getD i undef=g i
 defers:a.defers=[]
 size:n≤a.tmps.size
variable {fx : List Nat} {g : Nat → Value} {n : Nat}
theorem Kl (a:Act) (d:Option Tmp) (v:Value):(a.put d v).tmps.size=a.tmps.size:=by cases d<;>simp[Act.put]
theorem put_defers (a:Act) (d:Option Tmp) (v:Value):(a.put d v).defers=a.defers:=by cases d<;>rfl
theorem W0 {a:Act} {o:Oper} (ho:ab7 fx o=true) (hf: ∀i∈fx,a.tmps.getD i undef=g i) (v:Value): ∀i∈fx,(a.put o.dst v).tmps.getD i undef=g i:=fun i hi=>by
 cases hd:o.dst with
 |none=>exact hf i hi
 |some d=>
  have hne:i≠d:=fun e=>by
   subst e;unfold ab7 at ho;rw[hd] at ho;simp only[yg] at ho;exact fk.1 ho hi
  show(a.tmps.setIfInBounds d v).getD i undef=g i;rw[getD_set_ne _ _ _ _ _ hne];exact hf i hi
theorem IX {ops:Array Oper} {a:Act} {j t:Nat} {oj:Oper} {b:Bool} (hj:ops[j]?=some oj) (ht:oj.dst=some t) (hv:a.tmps.getD t undef= .bool b):yielded ops a.tmps j=some b:=by
 unfold yielded;rw[hj];simp only[Option.bind_some,ht]
 have hlt:t<a.tmps.size:=by
  rcases Nat.lt_or_ge t a.tmps.size with h|h
  ·exact h
  ·rw[w7,Array.getElem?_eq_none h] at hv
   cases hv
 rw[w8 hlt];rw[w7,w8 hlt] at hv;simp only[Option.getD_some] at hv;rw[hv]
theorem Rn {ops:Array Oper} {a:Act} {j t:Nat} {oj:Oper} (hj:ops[j]?=some oj) (ht:oj.dst=some t) (hv:a.tmps.getD t undef=undef):yielded ops a.tmps j=none:=by
 unfold yielded;rw[hj];simp only[Option.bind_some,ht];rw[w7] at hv
 cases h:a.tmps[t]? with
 |none=>rfl
 |some v=>
  rw[h] at hv;simp only[Option.getD_some] at hv;rw[hv]
  rfl
theorem acz {ob:List (Nat×OB)} {v:Value} (h:dx ob w φ (.v true []) v):v=undef:=by
 obtain⟨vs,rfl,h1,_⟩:=h;have:vs= #[]:=Array.eq_empty_of_size_eq_zero h1;rw[this];rfl
theorem afo {ob:List (Nat×OB)}:dx ob w φ (.v true []) undef:=⟨#[],rfl,rfl,fun k c h=>by simp at h⟩
theorem bw.amU {tm:Array Value} (h:bw F A w0 φ st tm w) {d:Nat}:bw F A w0 φ (st.set d (.v true [])) (tm.setIfInBounds d undef) w where
 tmp i:=by
  rw[Wy]
  by_cases hi:i=d
  ·subst hi
   rw[aR rfl]
   have:(tm.setIfInBounds i undef).getD i undef=undef:=by
    rw[w7,Vo];simp only[if_true]
    split<;>rfl
   rw[this];exact afo
  ·rw[aJ hi,getD_set_ne _ _ _ _ _ hi];exact h.tmp i
 box:=h.box
 obj:=h.obj
 sep:=h.sep
 frm:=h.frm
theorem ahK (h:bw F A w0 φ st tm w) {fx:List Nat} {o:Oper}: ∃φ1,bw F A w0 φ1 (ajz C fx st o) tm w:=by
 unfold ajz
 split
 ·split
  ·obtain⟨φ1,h1,_⟩:=xD (ab6 C st _ _) st φ h
   exact⟨φ1,h1⟩
  ·exact⟨φ,h⟩
 ·split
  ·exact⟨φ,h⟩
  ·obtain⟨φ1,h1,_⟩:=xD (Vu st _ _) st φ h
   exact⟨φ1,h1⟩
 ·exact⟨φ,h⟩
theorem A8 {fl:List Nat} {ops:Array Oper} {a:Act} (h:bw F A w0 φ st a.tmps w) {o:Oper} {K:TS→Ev R} (hk:(guarded C fx fl ops st o K).holds cf lp Q):
 ab7 fx o=true∧((Region.wanted o (yielded ops a.tmps)=true∧ ∃eM φ1,bw F A w0 φ1 eM a.tmps w∧FO C ops eM o fl=true∧(ql C eM o K).holds cf lp Q)∨
  (Region.wanted o (yielded ops a.tmps)=false∧ ∃eM,bw F A w0 φ eM (a.put o.dst undef).tmps w∧(K eM).holds cf lp Q)):=by
 have fs: ∀{st:TS},bw F A w0 φ st a.tmps w→(Yo C fx fl ops st o K).holds cf lp Q→ ∃eM φ1,bw F A w0 φ1 eM a.tmps w∧FO C ops eM o fl=true∧(ql C eM o K).holds cf lp Q:=fun {st} h hk=>by
  unfold Yo at hk;rw[uf] at hk
  split at hk
  ·obtain⟨φ1,h1⟩:=ahK (C:=C) (fx:=fx) (o:=o) h
   exact⟨_,φ1,h1,by assumption,hk⟩
  ·exact hk.elim
 have skip: ∀{st:TS},bw F A w0 φ st a.tmps w→(Yp st o K).holds cf lp Q→ ∃eM,bw F A w0 φ eM (a.put o.dst undef).tmps w∧(K eM).holds cf lp Q:=fun {st} h hk=>by
  unfold Yp at hk
  cases hd:o.dst with
  |none=>rw[hd] at hk;exact⟨st,h,hk⟩
  |some d=>
   rw[hd] at hk;exact⟨_,h.amU,hk⟩
 have gg: ∀{st:TS} {b want:Bool} {j:Nat},bw F A w0 φ st a.tmps w→o.guard=some (j,want)→yielded ops a.tmps j=some b→(aaK C fx fl ops st o b want K).holds cf lp Q→
  (Region.wanted o (yielded ops a.tmps)=true∧ ∃eM φ1,bw F A w0 φ1 eM a.tmps w∧FO C ops eM o fl=true∧(ql C eM o K).holds cf lp Q)∨
  (Region.wanted o (yielded ops a.tmps)=false∧ ∃eM,bw F A w0 φ eM (a.put o.dst undef).tmps w∧(K eM).holds cf lp Q):=fun {st b want j} h hg hy hk=>by
  have agX:Region.wanted o (yielded ops a.tmps)=(b==want):=by
   unfold Region.wanted;rw[hg];simp only[hy]
   cases b<;>cases want<;>rfl
  have no:(b==want)=false→(Yp st o K).holds cf lp Q→Region.wanted o (yielded ops a.tmps)=false∧ ∃eM,bw F A w0 φ eM (a.put o.dst undef).tmps w∧(K eM).holds cf lp Q:=fun hb hk=>by
   exact⟨by rw[agX];exact hb,skip h hk⟩
  cases b with
  |true=>
   cases want with
   |true=>exact .inl ⟨by rw[agX];rfl,fs h hk⟩
   |false=>exact .inr (no rfl hk)
  |false=>
   cases want with
   |true=>exact .inr (no rfl hk)
   |false=>exact .inl ⟨by rw[agX];rfl,fs h hk⟩
 unfold guarded at hk
 split at hk
 ·exact hk.elim
 ·rename_i hok
  refine⟨hok,?_⟩
  split at hk
  ·rename_i hg
   exact .inl ⟨by unfold Region.wanted;rw[hg],fs h hk⟩
  ·rename_i j want hg
   split at hk
   ·rename_i oj hj
    split at hk
    ·rename_i t ht
     have htv:=h.tmp t
     split at hk
     ·rename_i b hb
      rw[hb] at htv;exact gg h hg (IX hj ht htv) hk
     ·rename_i b hb
      rw[hb] at htv;have hv:=qn htv;exact gg (h.ahk (d:=t) (e:= .kb b) hv) hg (IX hj ht hv) hk
     ·rename_i hb
      rw[hb] at htv;refine .inr ⟨?_,skip h hk⟩;unfold Region.wanted;rw[hg];simp only[Rn hj ht (acz htv)]
      rfl
     ·exact hk.elim
    ·exact hk.elim
   ·exact hk.elim
theorem abc (hC:COk C) (HY:Rl C cf) {fl:List Nat} {ops:Array Oper} {a:Act} (hi:Inv F A w0 fx g n st a w) {o:Oper} (Yb:Rk n o=true) {K:TS→Ev R} (hk:(guarded C fx fl ops st o K).holds cf lp Q) {Kc:Act→World→Prop} {Qc:Exit→Act→World→Prop}
 (hK: ∀st' v w',Inv F A w0 fx g n st' (a.put o.dst v) w'→(K st').holds cf lp Q→Kc (a.put o.dst v) w'):if Region.wanted o (yielded ops a.tmps) then o.wp C.P a w Kc Qc else Kc (a.put o.dst undef) w:=by
 obtain⟨⟨φ,h⟩,agY,agZ,hsz⟩:=hi;obtain⟨hok,hc⟩:=A8 h hk;have mk: ∀{st' v w'},Rel F A w0 st' (a.put o.dst v).tmps w'→Inv F A w0 fx g n st' (a.put o.dst v) w':=fun hr=>⟨hr,W0 hok agY _,by rw[put_defers];exact agZ,by rw[Kl];exact hsz⟩;rcases hc with⟨hw,eM,φ1,h1,_,Cu⟩|⟨hw,eM,h1,Cu⟩
 ·rw[aR hw]
  exact YY hC HY h1 (fun d hd=>by
   unfold Rk at Yb;rw[hd] at Yb;have Yb:Nat.ble (d+1) n=true:=Yb
   exact kE (show d<n from tX Yb) hsz) Cu fun st' v w' hr hk' _ _=>hK st' v w' (mk hr) hk'
 ·rw[aJ (by rw[hw];exact Bool.false_ne_true)]
  exact hK eM undef w (mk ⟨φ,h1⟩) Cu
theorem VQ (hC:COk C) (HY:Rl C cf) {l:List Nat} {ops:Array Oper} {K:TS→Ev R} {Qc:Exit→Act→World→Prop} (hQ: ∀st a w,Inv F A w0 fx g n st a w→(K st).holds cf lp Q→Qc .normal a w):
 ∀(os:List Oper) (st:TS) (a:Act) (w:World),Od n os=true→Inv F A w0 fx g n st a w→(Ww C fx l ops os st K).holds cf lp Q→wpList C.P ops Qc os a w
 |[],st,a,w,_,hi,hk=>by
  simp only[Ww] at hk;rw[uf] at hk;obtain⟨⟨φ,h⟩,h2,h3,h4⟩:=hi;exact hQ _ a w ⟨⟨φ,h.keep l⟩,h2,h3,h4⟩ hk
 |o::r,st,a,w,hb,hi,hk=>by
  simp only[Od] at hb
  split at hb
  ·rename_i hd
   have:=abc hC HY hi hd hk (Kc:=wpList C.P ops Qc r) (Qc:=Qc) fun st' v w' hi' hk'=>by
    rw[uf] at hk';exact VQ hC HY hQ r st' _ w' hb hi' hk'
   unfold wpList
   split
   ·rename_i hw;rw[aR hw] at this;exact .inl this
   ·rename_i hw;rw[aJ hw] at this;exact this
  ·cases hb
end Go.T
