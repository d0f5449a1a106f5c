/- Calls: what goes in, seen from the caller. -/
import Derived.Test.YtiinnfilgnhjfaaGreatT3
import Derived.OrdersHeld
set_option linter.unusedVariables false
set_option linter.unusedSimpArgs false
namespace Go.T
variable {F : Nat → Prop} {A : Arg} {w0 w w' : World} {φ φ' : Fp} {st st' sta fG sF : TS} {tm LS : Array Value} {C : pO}
variable {R : Type} {cf : Cf} {lp : Lp} {Q : R → Prop}
theorem L6: ∀{l:List Nat},LW l=true↔l.Nodup
 |[]=>by simp[LW]
 |a::r=>by
  simp only[LW,List.nodup_cons]
  cases h:pE a r with
  |true=>simp[nu.1 h]
  |false=>simp only[L6 (l:=r)];have:=fP.1 h;simp[this]
def PA (w:World) (φ:Fp) (st:TS) (o:Nat) (i:Int) (f:Nat) (T0:Nat→Prop):Prop:=
 ∀b ad n c tc v,az o st.ob=some b→b.deep=true→φ.V o= .slice (some ad) n c→BI b.rows i.toNat f=some tc→w.cell? (ad.add (i.toNat*b.z+f))=some v→
  aB w φ.I .deep T0 tc v∧(∀k,T0 k→φ.S o k)∧ ∀(w':World) (tc':TC) (Rd' T1:Nat→Prop),aB w' Rd' .deep T1 tc' v→(∀k,φ.S o k→ ¬T0 k→w'.heap[k]?=w.heap[k]?)→(∀k,T1 k→T0 k∨ ¬φ.S o k)→
   aB w' Rd' .deep (fun k=>(φ.S o k∧ ¬T0 k)∨T1 k) (.sub b.z (u6 b.rows i.toNat f [tc'])) (φ.V o)
theorem ajJ (h:bB F A w0 φ st tm w) (o:Nat) (i:Int) (f:Nat): ∃T0,PA w φ st o i f T0:=by
 by_cases hx: ∃b ad n c tc v,az o st.ob=some b∧b.deep=true∧φ.V o= .slice (some ad) n c∧BI b.rows i.toNat f=some tc∧w.cell? (ad.add (i.toNat*b.z+f))=some v
 ·obtain⟨b,ad,n,c,tc,v,h1,h2,h3,h4,h5⟩:=hx
  have hO:=h.obj o b h1;unfold rS at hO;rw[h3] at hO
  have hm:b.m= .deep:=by unfold OB.m;rw[h2];rfl
  rw[hm] at hO;obtain⟨V1,T0,v1,v2,v3,_,v5⟩:=aB.inner hO h4;refine⟨T0,fun b' ad' n' c' tc' v' g1 g2 g3 g4 g5=> ?_⟩;rw[h1] at g1;cases g1;rw[h3] at g3;cases g3;rw[h4] at g4;cases g4;rw[h5] at g5;cases g5;rw[h5] at v1;cases v1;refine⟨v2,fun k hk=>(v3 k hk).1,fun w' tc' Rd' T1 k1 k2 k3=> ?_⟩;rw[h3];exact(v5 w' tc' T1 (k1.Jp rfl) k2 k3).Jp rfl
 ·exact⟨Ph,fun b ad n c tc v h1 h2 h3 h4 h5=>absurd ⟨b,ad,n,c,tc,v,h1,h2,h3,h4,h5⟩ hx⟩
noncomputable def ajK (w:World) (φ:Fp) (st:TS) (o:Nat) (i:Int) (f:Nat):Nat→Prop:=Classical.epsilon (PA w φ st o i f)
theorem PB (h:bB F A w0 φ st tm w) (o:Nat) (i:Int) (f:Nat):PA w φ st o i f (ajK w φ st o i f):=Classical.epsilon_spec (ajJ h o i f)
noncomputable def zw (w:World) (φ:Fp) (st:TS) (e:CE):Nat→Prop:=match e with
 | .ref o _=>φ.S o
 | .snap _ (some (o,i,f)) _ _=>ajK w φ st o i f
 |_=>Ph
def nO:CE→Option Nat
 | .ref o _=>some o
 | .snap _ (some (o,_,_)) _ _=>some o
 |_=>none
theorem Js {o:Nat} (h:D6 st o=true): ∃z rows,az o st.ob=some ⟨true,z,rows⟩:=by
 unfold D6 at h
 split at h
 ·rename_i z rows hl;exact⟨z,rows,hl⟩
 ·cases h
def ag7 (st:TS) (c:Bool) (e:CE):Prop:=match e with
 | .sc _=>True
 | .nil _=>True
 | .ref o none=>D6 st o=true
 | .ref o (some _)=>c=true∧D6 st o=true
 | .snap _ (some (o,_,_)) _ _=>c=false∧D6 st o=true
 |_=>False
def ahP (e:CE):Prop:=match e with
 | .sc _=>True
 | .nil _=>True
 | .snap [] none _ _=>True
 |_=>False
def Lu (st:TS) (c:Bool) (m:Mode) (e:CE):Prop:=(m= .snap∧ahP e)∨(m≠ .snap∧ag7 st c e)
theorem ahP.key {e:CE} (h:ahP e):nO e=none:=by
 unfold ahP at h
 split at h<;>first|rfl|exact h.elim
theorem Lu.key {c:Bool} {m:Mode} {e:CE} {o:Nat} (h:Lu st c m e) (hk:nO e=some o):ag7 st c e:=by
 rcases h with⟨_,h⟩|⟨_,h⟩
 ·rw[h.key] at hk;cases hk
 ·exact h
def mAt (ms:List Mode) (j:Nat):Mode:=(ct.inout ms).mc j
theorem V2 (ms:List Mode):mAt ms 0=(match ms.headD .deep with| .snap=> .snap|_=> .deep):=by cases ms with
 |nil=>rfl
 |cons m ms=>cases m<;>rfl
theorem V3 (ms:List Mode) (j:Nat):mAt ms (j+1)=mAt (ms.drop 1) j:=by cases ms<;>rfl
structure Jt (st:TS) (c:Bool) (ms:List Mode) (cs:List CE) (l:List Nat):Prop where
 one: ∀(j:Nat) (e:CE),cs[j]?=some e→Lu st c (mAt ms j) e∧ ∀o,nO e=some o→2*o∈l
 mem: ∀x∈l,∃o,x=2*o∧ ∃(j:Nat) (e:CE),cs[j]?=some e∧nO e=some o
 uniq:l.Nodup→ ∀(j j':Nat) (e e':CE) (o:Nat),cs[j]?=some e→cs[j']?=some e'→nO e=some o→nO e'=some o→j=j'
theorem Jt.plain {c:Bool} {ms:List Mode} {e0:CE} {r:List CE} {l:List Nat} (ih:Jt st c (ms.drop 1) r l) (ho:Lu st c (mAt ms 0) e0) (hk:nO e0=none):Jt st c ms (e0::r) l:=by
 refine⟨fun j e he=> ?_,fun x hx=> ?_,fun hn j j' e e' o he he' KM hk2=> ?_⟩
 ·cases j with
  |zero=>simp only[gE,aY] at he;subst he;exact⟨ho,fun o h=>by rw[hk] at h;cases h⟩
  |succ j=>rw[V3];exact ih.one j e (by simpa using he)
 ·obtain⟨o,a1,j,e,a2,a3⟩:=ih.mem x hx
  exact⟨o,a1,j+1,e,by simpa using a2,a3⟩
 ·cases j with
  |zero=>simp only[gE,aY] at he;subst he;rw[hk] at KM;cases KM
  |succ j=>
   cases j' with
   |zero=>simp only[gE,aY] at he';subst he';rw[hk] at hk2;cases hk2
   |succ j'=>rw[ih.uniq hn j j' e e' o (by simpa using he) (by simpa using he') KM hk2]
theorem Jt.keyed {c:Bool} {ms:List Mode} {e0:CE} {r:List CE} {l0:List Nat} (ih:Jt st c (ms.drop 1) r l0) {o0:Nat} (ho:Lu st c (mAt ms 0) e0) (hk:nO e0=some o0):Jt st c ms (e0::r) ((2*o0)::l0):=by
 refine⟨fun j e he=> ?_,fun x hx=> ?_,fun hn j j' e e' o he he' KM hk2=> ?_⟩
 ·cases j with
  |zero=>simp only[gE,aY] at he;subst he;exact⟨ho,fun o h=>by rw[hk] at h;cases h;exact .head _⟩
  |succ j=>rw[V3];obtain⟨a,b⟩:=ih.one j e (by simpa using he);exact⟨a,fun o h=> .tail _ (b o h)⟩
 ·rcases fX.1 hx with rfl|hx
  ·exact⟨o0,rfl,0,e0,rfl,hk⟩
  ·obtain⟨o,a1,j,e,a2,a3⟩:=ih.mem x hx
   exact⟨o,a1,j+1,e,by simpa using a2,a3⟩
 ·have hn':=List.nodup_cons.1 hn
  cases j with
  |zero=>
   simp only[gE,aY] at he;subst he;rw[hk] at KM;cases KM
   cases j' with
   |zero=>rfl
   |succ j'=>exact absurd ((ih.one j' e' (by simpa using he')).2 _ hk2) hn'.1
  |succ j=>
   cases j' with
   |zero=>
    simp only[gE,aY] at he';subst he';rw[hk] at hk2;cases hk2;exact absurd ((ih.one j e (by simpa using he)).2 _ KM) hn'.1
   |succ j'=>rw[ih.uniq hn'.2 j j' e e' o (by simpa using he) (by simpa using he') KM hk2]
theorem Aq {c:Bool}: ∀{ms:List Mode} {cs:List CE} {l:List Nat},zE st c ms cs=some l→Jt st c ms cs l
 |ms,[],l,h=>by
  have h:l=[]:=by cases ms<;>(cases h;rfl)
  subst h;exact⟨fun j e he=>by simp at he,fun x hx=>(by cases hx),fun _ j j' e e' o he=>by simp at he⟩
 |ms,e0::r,l,h=>by
  simp only[zE] at h
  cases hr:zE st c (ms.drop 1) r with
  |none=>rw[hr] at h;cases h
  |some l0=>
   rw[hr] at h;have ih:=Aq hr
   by_cases hm:ms.headD .deep= .snap
   ·have hz:mAt ms 0= .snap:=by rw[V2,hm]
    rw[hm] at h
    have pl:ahP e0→l0=l→Jt st c ms (e0::r) l:=fun hf e=>by
     subst e;exact ih.plain (.inl ⟨hz,hf⟩) hf.key
    cases e0 with
    |sc v=>cases h;exact pl trivial rfl
    |nil z=>cases h;exact pl trivial rfl
    |snap ds loc z rows=>
     cases ds with
     |nil=>cases loc with
      |none=>cases h;exact pl trivial rfl
      |some q=>cases h
     |cons d ds=>cases h
    |_=>cases h
   ·have hz:mAt ms 0≠ .snap:=by rw[V2];revert hm;cases ms.headD .deep<;>simp
    generalize ms.headD .deep=m at h hm
    cases e0 with
    |sc v=>have h:some l0=some l:=by cases m<;>first|exact h|exact absurd rfl hm
           cases h;exact ih.plain (.inr ⟨hz,trivial⟩) rfl
    |nil z=>have h:some l0=some l:=by cases m<;>first|exact h|exact absurd rfl hm
            cases h;exact ih.plain (.inr ⟨hz,trivial⟩) rfl
    |ref o cut=>
     cases cut with
     |none=>
      have h:(match D6 st o with|true=>some ((2*o)::l0)|false=>none)=some l:=by cases m<;>first|exact h|exact absurd rfl hm
      cases hd:D6 st o with
      |false=>rw[hd] at h;cases h
      |true=>rw[hd] at h;cases h;exact ih.keyed (o0:=o) (.inr ⟨hz,hd⟩) rfl
     |some q=>
      cases c with
      |false=>cases m<;>first|exact absurd rfl hm|cases h
      |true=>
       have h:D6 st o=true∧some ((2*o)::l0)=some l:=by
        cases m<;>first|exact absurd rfl hm|(simp only at h;split at h<;>first|exact⟨by assumption,h⟩|cases h)
       obtain⟨hd,h⟩:=h
       cases h
       exact ih.keyed (o0:=o) (.inr ⟨hz,rfl,hd⟩) rfl
    |snap ds loc z rows=>
     cases loc with
     |none=>cases ds<;>cases m<;>first|exact absurd rfl hm|cases h
     |some q=>
      obtain⟨o,i,f⟩:=q
      cases c with
      |true=>cases ds<;>cases m<;>first|exact absurd rfl hm|cases h
      |false=>
       have h:D6 st o=true∧some ((2*o)::l0)=some l:=by
        cases m<;>first|exact absurd rfl hm|(simp only at h;split at h<;>first|exact⟨by assumption,h⟩|cases h)
       obtain⟨hd,h⟩:=h
       cases h
       exact ih.keyed (o0:=o) (.inr ⟨hz,rfl,hd⟩) rfl
    |gone=>cases m<;>first|exact absurd rfl hm|cases h
theorem qq: ∀{cs:List CE} {ts:List TC},zC st cs=some ts→ts.length=cs.length∧ ∀(j:Nat) (c:TC),ts[j]?=some c→ ∃e,cs[j]?=some e∧Jc st e=some c
 |[],ts,h=>by cases h;exact⟨rfl,fun j c hj=>by simp at hj⟩
 |e::r,ts,h=>by
  simp only[zC] at h
  split at h
  ·rename_i c cs' h1 h2
   cases h
   obtain⟨g1,g2⟩:=qq h2;refine⟨by simp[g1],fun j c' hj=> ?_⟩
   cases j with
   |zero=>simp only[gE,aY] at hj;subst hj;exact⟨e,rfl,h1⟩
   |succ j=>obtain⟨e',a,b⟩:=g2 j c' (by simpa using hj);exact⟨e',by simpa using a,b⟩
  ·cases h
theorem PC (h:bB F A w0 φ st tm w) {e:CE} {v:Value} (he:eP st.ob w φ e v) {c:TC} (hc:Jc st e=some c):aB w (rd φ (iM e)) .snap Ph c v∧ ∀d∈iM e,d=0∨aT st.ob d:=by
 unfold Jc at hc
 split at hc
 ·cases hc
  obtain⟨rfl,hs⟩:=he;exact⟨.sc _ _ _ hs,fun d hd=>by cases hd⟩
 ·split at hc
  ·rename_i z rows hr
   cases hc
   exact v8 h he hr
  ·cases hc
theorem ajL (h:bB F A w0 φ st tm w) {e:CE} {v:Value} (he:eP st.ob w φ e v) {c:TC} (hc:Jc st e=some c) {cb:Bool} (ho:ag7 st cb e) {Rd:Nat→Prop}:aB w Rd .deep (zw w φ st e) c v∧(∀k,zw w φ st e k→ ∃o,nO e=some o∧aT st.ob o∧φ.S o k):=by
 cases e with
 |sc x=>cases hc;obtain⟨rfl,hs⟩:=he;exact⟨.sc _ _ _ hs,fun k hk=>hk.elim⟩
 |nil z=>cases hc;obtain⟨rfl,hz⟩:=he;exact⟨FA hz,fun k hk=>hk.elim⟩
 |ref o cut=>
  have hd:D6 st o=true:=by cases cut with
   |none=>exact ho
   |some _=>exact ho.2
  obtain⟨z,rows,hl⟩:=Js hd;obtain⟨b,h1,h2⟩:=he;rw[hl] at h1;cases h1;simp only[Jc,sM,hl] at hc
  cases hc
  exact⟨(rS.cut (h.obj o _ hl) h2:aB w φ.I .deep (φ.S o) _ _).Jp rfl,fun k hk=>⟨o,rfl,⟨_,hl⟩,hk⟩⟩
 |snap ds loc z rows=>
  cases loc with
  |none=>exact ho.elim
  |some q=>
   obtain⟨o,i,f⟩:=q;obtain⟨z0,uB,hl⟩:=Js ho.2;obtain⟨h1,h2,h3⟩:=he;obtain⟨_,b,g1,g2,g3,ad,n,c',g4,g5⟩:=h3 o i f rfl;rw[hl] at g1;cases g1;simp only[Jc,sM] at hc
   cases hc
   obtain⟨k1,k2,_⟩:=PB h o i f _ ad n c' _ v hl rfl g4 g3 g5;exact⟨k1.Jp rfl,fun k hk=>⟨o,rfl,⟨_,hl⟩,k2 k hk⟩⟩
 |gone=>exact ho.elim
def Ju (φ:Fp) (st:TS) (qk:List Nat) (k:Nat):Prop:=φ.I k∨ ∃o,2*o∈qk∧(o=0∨aT st.ob o)∧φ.S o k
def Yt (φ:Fp) (st:TS) (qk:List Nat) (k:Nat):Prop:=Ju φ st qk k∨ ∃b cs,2*b+1∈qk∧az b st.bx=some cs∧k=(φ.β b).block
theorem rg_of {ds qk:List Nat} (hd: ∀d∈ds,d=0∨aT st.ob d) (hr: ∀d∈ds,2*d∈qk) {k:Nat} (hk:rd φ ds k):Ju φ st qk k:=by
 rcases hk with hk|⟨d,hm,hk⟩
 ·exact .inl hk
 ·exact .inr ⟨d,hr d hm,hd d hm,hk⟩
theorem aaU (h:bB F A w0 φ st tm w) {b:Nat} {cs:List CE} (hb:az b st.bx=some cs) {off:Nat} {ts:List TC} (hc:zC st (cs.drop off)=some ts) {qk:List Nat} (hr: ∀d∈Ft st b,d∈qk):
 Yt φ st qk (φ.β b).block∧ ∀(j:Nat) (c:TC),ts[j]?=some c→ ∃u,w.cell? (((φ.β b).add off).add j)=some u∧aB w (Ju φ st qk) .snap Ph c u:=by
 have hbd:Ft st b=(2*b+1)::(cs.flatMap iM).map (2* ·):=by unfold Ft;rw[hb]
 rw[hbd] at hr;refine⟨.inr ⟨b,cs,hr _ (.head _),hb,rfl⟩,fun j c hj=> ?_⟩;obtain⟨e,he,hce⟩:=(qq hc).2 j c hj;rw[uu] at he;obtain⟨u,u1,u2,u3⟩:=h.box b cs hb _ e he;obtain⟨k1,k2⟩:=PC h u3 hce;refine⟨u,by rw[Addr.add_add];exact u1,k1.ux fun k hk=>rg_of k2 (fun d hd=>hr _ (.tail _ (List.mem_map.2 ⟨d,List.mem_flatMap.2 ⟨e,gP he,hd⟩,rfl⟩))) hk⟩
theorem V4: ∀{caps:List Nat} {xs:List (List TC)},abw st caps=some xs→xs.length=caps.length∧ ∀(i:Nat) (ts:List TC),xs[i]?=some ts→ ∃b cs,caps[i]?=some b∧az b st.bx=some cs∧zC st cs=some ts
 |[],xs,h=>by cases h;exact⟨rfl,fun i ts hi=>by simp at hi⟩
 |b::r,xs,h=>by
  simp only[abw] at h
  split at h
  ·rename_i cs hb
   split at h
   ·rename_i c cs' h1 h2
    cases h
    obtain⟨g1,g2⟩:=V4 h2;refine⟨by simp[g1],fun i ts hi=> ?_⟩
    cases i with
    |zero=>simp only[gE,aY] at hi;subst hi;exact⟨b,cs,rfl,hb,h1⟩
    |succ i=>obtain⟨b',cs',a,b'',c⟩:=g2 i ts (by simpa using hi);exact⟨b',cs',by simpa using a,b'',c⟩
   ·cases h
  ·cases h
theorem afP (h:bB F A w0 φ st tm w) {e:TE} {x:Value} (ht:dK st.ob w φ e x) {qk:List Nat} (hr: ∀d∈wJ st e,d∈qk) {X:Nat→Nat→Prop} {Y:Nat→Prop} {K:TV→Ev R} (hk:(ai4 st e K).holds cf lp Q):
 ∃v,Ed w .borrow (Ju φ st qk) (Yt φ st qk) X Y v x∧(K v).holds cf lp Q:=by
 have cells: ∀{cs:List CE} {ts:List TC} {xs:Array Value},zC st cs=some ts→(∀d∈cs.flatMap iM,2*d∈qk)→(∀(j:Nat) (e:CE),cs[j]?=some e→ ∃y,xs[j]?=some y∧y.cells= #[y]∧eP st.ob w φ e y)→
  ∀(j:Nat) (c:TC),ts[j]?=some c→ ∃u,xs[j]?=some u∧ ∀X:Nat→Prop,aB w (Ju φ st qk) .snap X c u:=fun {cs ts xs} hc hd hx j c hj=>by
  obtain⟨e,he,hce⟩:=(qq hc).2 j c hj;obtain⟨y,y1,_,y3⟩:=hx j e he;obtain⟨k1,k2⟩:=PC h y3 hce;exact⟨y,y1,fun X=>k1.ux fun k hk=>rg_of k2 (fun d hd'=>hd d (List.mem_flatMap.2 ⟨e,gP he,hd'⟩)) hk⟩
 unfold ai4 at hk
 split at hk
 ·rename_i ag cs
  obtain⟨c0,e0,ht⟩:=ht
  cases e0
  have hdd: ∀d∈cs.flatMap iM,2*d∈qk:=fun d hd=>hr _ (List.mem_map.2 ⟨d,by simp only[kK,qm];exact hd,rfl⟩)
  split at hk
  ·rename_i ts hc
   split at hk
   ·obtain⟨xs,rfl,hsz,hx⟩:=ht
    refine⟨.ag ts,⟨xs,rfl,by rw[(qq hc).1];exact hsz,fun j c hj=> ?_⟩,hk⟩;obtain⟨u,u1,u2⟩:=cells hc hdd hx j c hj;exact⟨u,u1,u2 _⟩
   ·rename_i c
    obtain⟨e1,rfl,hv,hce⟩:=ht
    obtain⟨u,u1,u2⟩:=cells (xs:= #[x]) hc hdd (fun j e he=>by
     cases j with
     |zero=>simp only[gE,aY] at he;subst he;exact⟨x,rfl,hv,hce⟩
     |succ j=>simp at he) 0 c rfl
    have:x=u:=by simpa using u1
    subst this;exact⟨.c c,u2 _,hk⟩
   ·exact hk.elim
  ·exact hk.elim
 ·rename_i b
  have ht:x= .bool b:=ht;exact⟨.c (.sc (.bool b)),(by rw[ht];exact .sc _ _ _ trivial:aB w (Ju φ st qk) (ct.borrow.mc 0) (X 0) (.sc (.bool b)) x),hk⟩
 ·rename_i b off
  have ht:x= .pointer (some ((φ.β b).add off)):=ht
  split at hk
  ·rename_i cs hb
   split at hk
   ·rename_i ts hc
    obtain⟨b1,b2⟩:=aaU h hb hc (qk:=qk) hr;refine⟨.bx ts,⟨_,ht,by rw[c7];exact(h.sep.spot b cs hb).2.1,fun _=>by rw[c7];exact b1,fun hn=>absurd rfl hn,fun j c hj=> ?_⟩,hk⟩;obtain⟨u,u1,u2⟩:=b2 j c hj;exact⟨u,u1,u2.ux fun _ h=>h⟩
   ·exact hk.elim
  ·exact hk.elim
 ·rename_i ds c0 apE
  obtain⟨hd,ad,hv,hb,hc⟩:=ht;have hrr: ∀{k},rd φ ds k→Ju φ st qk k:=fun hk=>rg_of hd (fun d hm=>hr _ (List.mem_map.2 ⟨d,hm,rfl⟩)) hk;have hbk:=hb cW;refine⟨.bx _,⟨ad,hv,h.sep.aok h.frm.size hd hbk,fun _=> .inl (hrr hbk),fun hn=>absurd rfl hn,fun j c hj=> ?_⟩,hk⟩;obtain⟨u,u1,u2⟩:=hc j c hj;exact⟨u,u1,u2.ux fun k hk=>hrr hk⟩
 ·rename_i r p i f
  obtain⟨b0,hb0,_⟩:=id ht;obtain⟨ad,apE,hv,hb,hc,hk,_⟩:=VP h.obj ht hk
  have hd: ∀d∈[r],d=0∨aT st.ob d:=fun d hm=>by simp only[qn] at hm;subst hm;exact .inr ⟨_,hb0⟩
  have hrr: ∀{k},rd φ [r] k→Ju φ st qk k:=fun hk=>rg_of hd (fun d hm=>hr _ (by simp only[qn] at hm;subst hm;exact .head _)) hk
  split at hk
  ·exact hk.elim
  ·rename_i c1 asx
   have hbk:=hb cW;refine⟨.bx _,⟨ad,hv,h.sep.aok h.frm.size hd hbk,fun _=> .inl (hrr hbk),fun hn=>absurd rfl hn,fun j c hj=> ?_⟩,hk⟩;obtain⟨u,u1,u2⟩:=hc j c hj;exact⟨u,u1,u2.ux fun k hk=>hrr hk⟩
 ·rename_i f caps
  have ht:x= .func (.func f) #[] (caps.map fun b=>Value.pointer (some (φ.β b))).toArray:=ht
  split at hk
  ·rename_i xs hc
   obtain⟨g1,g2⟩:=V4 hc;refine⟨.fn f xs,⟨rfl,caps.map φ.β,by rw[bX,g1],by rw[ht,List.map_map];rfl,fun i ts hi=> ?_⟩,hk⟩;obtain⟨b,cs,c1,c2,c3⟩:=g2 i ts hi;obtain⟨b1,b2⟩:=aaU h c2 (off:=0) (by rw[List.drop_zero];exact c3) (qk:=qk) (fun d hd=>hr d (List.mem_flatMap.2 ⟨b,gP c1,hd⟩));refine⟨φ.β b,by rw[lW,c1];rfl,(h.sep.spot b cs c2).2.1,b1,fun j c hj=> ?_⟩;obtain⟨u,u1,u2⟩:=b2 j c hj;rw[Addr.add_zero'] at u1
   exact⟨u,u1,u2⟩
  ·exact hk.elim
 ·exact hk.elim
def jl (st:TS):TE→List CE
 | .v false [.mk _ cs]=>cs
 | .bp b _=>match az b st.bx with|some cs=>cs|none=>[]
 |_=>[]
def Ef:ct→Bool
 | .consume=>true
 |_=>false
theorem PD (h:bB F A w0 φ st tm w) {e:CE} {v:Value} (he:eP st.ob w φ e v) {c:TC} (hc:Jc st e=some c) {cb:Bool} {m:Mode} (ho:Lu st cb m e) (hm:m= .snap∨m= .deep) {Rd:Nat→Prop} (hR: ∀k,φ.I k→Rd k):aB w Rd m (zw w φ st e) c v:=by
 rcases ho with⟨rfl,hf⟩|⟨hn,ho⟩
 ·obtain⟨k1,_⟩:=PC h he hc
  have hd:iM e=[]:=by
   unfold ahP at hf
   split at hf<;>first|rfl|exact hf.elim
  rw[hd] at k1
  exact k1.ux fun k hk=>hk.elim (hR k) fun⟨d,hd,_⟩=>by cases hd
 ·rcases hm with rfl|rfl
  ·exact absurd rfl hn
  ·exact(ajL h he hc ho).1
theorem afQ (p:ct) (j:Nat):p.mc j= .snap∨p.mc j= .deep:=by
 cases hm:p.mc j with
 |snap=>exact .inl rfl
 |top=>have:=ct.Vl (p:=p) (j:=j) (by rw[hm];simp);rw[hm] at this;cases this
 |deep=>exact .inr rfl
theorem anG {p:ct} (hp:p≠ .borrow) (j:Nat):p.mc j=mAt p.ms j:=by
 cases p with
 |borrow=>exact absurd rfl hp
 |inout ms=>rfl
 |consume=>rfl
theorem al4 (h:bB F A w0 φ st tm w) {e:TE} {x:Value} (ht:dK st.ob w φ e x) {p:ct} (hp:p≠ .borrow) {l:List Nat} (ho:vF st (Ef p) p.ms e=some l) {Rg BB:Nat→Prop} (hR: ∀k,φ.I k→Rg k) {K:TV→Ev R} (hk:(ai4 st e K).holds cf lp Q):
 ∃v,Ed w p Rg BB (fun j=>zw w φ st ((jl st e).getD j .gone)) (fun k=> ∃b,e= .bp b 0∧k=(φ.β b).block) v x∧(K v).holds cf lp Q:=by
 unfold ai4 at hk
 split at hk
 ·rename_i ag cs
  obtain⟨hms,ho⟩:p.ms=[]∧zE st (Ef p) [] cs=some l:=by
   have ho:(match p.ms with|[]=>zE st (Ef p) [] cs|_=>none)=some l:=ho
   cases hms:p.ms with
   |nil=>rw[hms] at ho;exact⟨rfl,ho⟩
   |cons m ms=>rw[hms] at ho;cases ho
  obtain⟨o1,o2,o3⟩:=Aq ho;obtain⟨c0,e0,ht⟩:=ht
  cases e0
  have Bx: ∀{j:Nat} {e:CE},cs[j]?=some e→(jl st (.v false [.mk ag cs])).getD j .gone=e:=fun {j e} he=>by simp[jl,List.getD,he]
  have hmc: ∀j,p.mc j=mAt [] j:=fun j=>by rw[anG hp,hms]
  split at hk
  ·rename_i ts hc
   split at hk
   ·obtain⟨xs,rfl,hsz,hx⟩:=ht
    refine⟨.ag ts,⟨xs,rfl,by rw[(qq hc).1];exact hsz,fun j c hj=> ?_⟩,hk⟩;obtain⟨e,he,hce⟩:=(qq hc).2 j c hj;obtain⟨y,y1,_,y3⟩:=hx j e he;refine⟨y,y1,?_⟩;show aB w Rg (p.mc j) (zw w φ st ((jl st (.v false [.mk true cs])).getD j .gone)) c y;rw[Bx he];exact PD h y3 hce (by rw[hmc];exact(o1 j e he).1) (afQ p j) hR
   ·rename_i c
    obtain⟨e1,rfl,hv,hce⟩:=ht;obtain⟨e,he,hcc⟩:=(qq hc).2 0 c rfl;simp only[gE,aY] at he;subst he;refine⟨.c c,?_,hk⟩;show aB w Rg (p.mc 0) _ c x;exact PD h hce hcc (by rw[hmc];exact(o1 0 _ rfl).1) (afQ p 0) hR
   ·exact hk.elim
  ·exact hk.elim
 ·cases ho
 ·rename_i b off
  have ht:x= .pointer (some ((φ.β b).add off)):=ht;unfold vF at ho
  split at ho
  ·rename_i e0;cases e0
  ·rename_i e0
   cases e0
   split at ho
   ·rename_i cs hcb Lj hb
    split at ho
    ·rename_i l0 hl
     obtain⟨o1,o2,o3⟩:=Aq hl;rw[hb] at hk;simp only[List.drop_zero] at hk
     split at hk
     ·rename_i ts hc
      rw[Addr.add_zero'] at ht;obtain⟨g1,g2⟩:=qq hc;refine⟨.bx ts,⟨_,ht,(h.sep.spot b cs hb).2.1,fun e=>absurd e hp,fun _=>⟨(h.sep.spot b cs hb).1 Lj,⟨b,rfl,rfl⟩,fun j hj=>h.sep.soft b cs j hb Lj ay⟩,fun j c hj=> ?_⟩,hk⟩;obtain⟨e,he,hce⟩:=g2 j c hj;obtain⟨u,u1,u2,u3⟩:=h.box b cs hb j e he;refine⟨u,u1,?_⟩
      have:(jl st (.bp b 0)).getD j .gone=e:=by simp[jl,hb,List.getD,he]
      show aB w Rg (p.mc j) (zw w φ st ((jl st (.bp b 0)).getD j .gone)) c u;rw[this];exact PD h u3 hce (by rw[anG hp];exact(o1 j e he).1) (afQ p j) hR
     ·exact hk.elim
    ·cases ho
   ·cases ho
  ·cases ho
 ·cases ho
 ·cases ho
 ·cases ho
 ·exact hk.elim
end Go.T
namespace Go.T
variable {F : Nat → Prop} {A : Arg} {w0 w w' : World} {φ φ' : Fp} {st st' sta fG sF : TS} {tm LS : Array Value} {C : pO}
variable {R : Type} {cf : Cf} {lp : Lp} {Q : R → Prop}
theorem ajM (h:bB F A w0 φ st tm w) {e:CE} {v:Value} (he:eP st.ob w φ e v) {cb:Bool} {m:Mode} (ho:Lu st cb m e) {k:Nat} (hk:zw w φ st e k): ∃o,nO e=some o∧aT st.ob o∧φ.S o k:=by
 cases e with
 |sc x=>exact hk.elim
 |nil z=>exact hk.elim
 |ref o cut=>obtain⟨b,h1,_⟩:=he;exact⟨o,rfl,⟨b,h1⟩,hk⟩
 |snap ds loc z rows=>
  cases loc with
  |none=>exact hk.elim
  |some q=>
   obtain⟨o,i,f⟩:=q;have ho:=ho.key (o:=o) rfl;obtain⟨z0,uB,hl⟩:=Js ho.2;obtain⟨_,_,h3⟩:=he;obtain⟨_,b,g1,g2,g3,ad,n,c',g4,g5⟩:=h3 o i f rfl;rw[hl] at g1;cases g1;exact⟨o,rfl,⟨_,hl⟩,(PB h o i f _ ad n c' _ v hl rfl g4 g3 g5).2.1 k hk⟩
 |gone=>exact hk.elim
structure ajN (st:TS) (c:Bool) (ms:List Mode) (e:TE) (l:List Nat):Prop where
 one: ∀(j:Nat) (e':CE),(jl st e)[j]?=some e'→(∃cb m,Lu st cb m e'∧(c=true→cb=true))∧ ∀o,nO e'=some o→2*o∈l
 mem: ∀o,2*o∈l→ ∃(j:Nat) (e':CE),(jl st e)[j]?=some e'∧nO e'=some o
 uniq:l.Nodup→ ∀(j j':Nat) (e1 e2:CE) (o:Nat),(jl st e)[j]?=some e1→(jl st e)[j']?=some e2→nO e1=some o→nO e2=some o→j=j'
 bx: ∀b off,e= .bp b off→off=0∧c=false∧DY b=true∧2*b+1∈l∧az b st.bx=some (jl st e)∧ ∀(j:Nat) (e':CE),(jl st e)[j]?=some e'→Lu st true (mAt ms j) e'
 form:(∃b,e= .bp b 0)∨(ms=[]∧ ∃ag cs,e= .v false [.mk ag cs]∧ ∀(j:Nat) (e':CE),cs[j]?=some e'→Lu st c .deep e')
theorem PE {c:Bool} {ms:List Mode} {e:TE} {l:List Nat} (h:vF st c ms e=some l):ajN st c ms e l:=by
 unfold vF at h
 split at h
 ·rename_i ag cs
  obtain⟨rfl,h⟩:ms=[]∧zE st c [] cs=some l:=by
   cases ms with
   |nil=>exact⟨rfl,h⟩
   |cons m ms=>cases h
  have ok:=Aq h;refine⟨fun j e' he=>⟨⟨c,_,(ok.one j e' he).1,id⟩,(ok.one j e' he).2⟩,fun o ho=> ?_,fun hn j j' e1 e2 o h1 h2=>ok.uniq hn j j' e1 e2 o h1 h2,fun b off e=>(by cases e),.inr ⟨rfl,ag,cs,rfl,fun j e' he=>(ok.one j e' he).1⟩⟩;obtain⟨o',e1,j,e',h1,h2⟩:=ok.mem _ ho
  have:o=o':=by omega
  subst this;exact⟨j,e',h1,h2⟩
 ·rename_i b
  split at h
  ·rename_i cs hw hb
   split at h
   ·rename_i l0 hl
    cases h
    have ok:=Aq hl
    have hcs:jl st (.bp b 0)=cs:=by simp[jl,hb]
    refine⟨fun j e' he=> ?_,fun o ho=> ?_,fun hn j j' e1 e2 o h1 h2=> ?_,fun b' off e=> ?_,.inl ⟨b,rfl⟩⟩
    ·rw[hcs] at he
     exact⟨⟨true,_,(ok.one j e' he).1,fun _=>rfl⟩,fun o ho=> .tail _ ((ok.one j e' he).2 o ho)⟩
    ·rw[hcs]
     rcases fX.1 ho with ho|ho
     ·omega
     ·obtain⟨o',e1,j,e',h1,h2⟩:=ok.mem _ ho
      have:o=o':=by omega
      subst this;exact⟨j,e',h1,h2⟩
    ·rw[hcs] at h1 h2
     exact ok.uniq (List.nodup_cons.1 hn).2 j j' e1 e2 o h1 h2
    ·cases e
     rw[hcs];exact⟨rfl,rfl,hw,.head _,hb,fun j e' he=>(ok.one j e' he).1⟩
   ·cases h
  ·cases h
 ·cases h
theorem FE (h:bB F A w0 φ st tm w) {e:TE} {x:Value} (ht:dK st.ob w φ e x) {j:Nat} {e':CE} (he:(jl st e)[j]?=some e'): ∃v,eP st.ob w φ e' v:=by
 unfold jl at he
 split at he
 ·rename_i ag cs
  obtain⟨y,_,_,h3⟩:=(xK (cs:=cs) ht rfl).2 j e' he;exact⟨y,h3⟩
 ·split at he
  ·rename_i cs hb
   obtain⟨v,_,_,h3⟩:=h.box _ cs hb j e' he;exact⟨v,h3⟩
  ·simp at he
 ·simp at he
structure DC (st:TS) (ps:List ct) (es:List TE) (own qk:List Nat):Prop where
 len:ps.length=es.length
 rd: ∀(i:Nat) (e:TE),ps[i]?=some .borrow→es[i]?=some e→ ∀d∈wJ st e,d∈qk
 ow: ∀(i:Nat) (p:ct) (e:TE),ps[i]?=some p→es[i]?=some e→p≠ .borrow→ ∃l,ajN st (Ef p) p.ms e l∧(∀x∈l,x∈own)∧(own.Nodup→l.Nodup)∧vF st (Ef p) p.ms e=some l
 uniq:own.Nodup→ ∀(i i':Nat) (p p':ct) (e e':TE) (l l':List Nat) (x:Nat),ps[i]?=some p→ps[i']?=some p'→es[i]?=some e→es[i']?=some e'→p≠ .borrow→p'≠ .borrow→vF st (Ef p) p.ms e=some l→vF st (Ef p') p'.ms e'=some l'→x∈l→x∈l'→i=i'
 mem: ∀x∈own,∃(i:Nat) (p:ct) (e:TE) (l:List Nat),ps[i]?=some p∧es[i]?=some e∧p≠ .borrow∧vF st (Ef p) p.ms e=some l∧x∈l
theorem Eg: ∀{ps:List ct} {es:List TE} {own qk:List Nat},Fu st ps es=some (own,qk)→DC st ps es own qk
 |[],[],own,qk,h=>by
  cases h
  exact⟨rfl,fun i e h=>by simp at h,fun i p e h=>by simp at h,fun _ i i' p p' e e' l l' x h=>by simp at h,fun x hx=>by cases hx⟩
 |[],_::_,_,_,h=>by cases h
 |_::_,[],_,_,h=>by cases h
 |p::ps,e::es,own,qk,h=>by
  simp only[Fu] at h
  split at h
  ·rename_i own0 rd0 hg
   have ih:=Eg hg
   by_cases hp:p= .borrow
   ·subst hp
    cases h
    refine⟨by simp[ih.len],fun i e' h1 h2 d hd=> ?_,fun i p' e' h1 h2 hp'=> ?_,fun hn i i' p' p'' e' e'' l l' x h1 h2 h3 h4 hp1 hp2 h5 h6 h7 h8=> ?_,fun x hx=> ?_⟩
    ·cases i with
     |zero=>simp only[gE,aY] at h2;subst h2;exact lX _ hd
     |succ i=>exact rZ _ (ih.rd i e' (by simpa using h1) (by simpa using h2) d hd)
    ·cases i with
     |zero=>simp only[gE,aY] at h1;exact absurd h1.symm hp'
     |succ i=>exact ih.ow i p' e' (by simpa using h1) (by simpa using h2) hp'
    ·cases i with
     |zero=>simp only[gE,aY] at h1;exact absurd h1.symm hp1
     |succ i=>
      cases i' with
      |zero=>simp only[gE,aY] at h2;exact absurd h2.symm hp2
      |succ i'=>rw[ih.uniq hn i i' p' p'' e' e'' l l' x (by simpa using h1) (by simpa using h2) (by simpa using h3) (by simpa using h4) hp1 hp2 h5 h6 h7 h8]
    ·obtain⟨i,p',e',l,a1,a2,a3⟩:=ih.mem x hx
     exact⟨i+1,p',e',l,by simpa using a1,by simpa using a2,a3⟩
   ·obtain⟨l0,LU,hown⟩: ∃l0,vF st (Ef p) p.ms e=some l0∧(own,qk)=(l0++own0,rd0):=by
     cases p with
     |borrow=>exact absurd rfl hp
     |inout ms=>simp only at h;split at h;(rename_i l hl;exact⟨l,hl,by cases h;rfl⟩);cases h
     |consume=>simp only at h;split at h;(rename_i l hl;exact⟨l,hl,by cases h;rfl⟩);cases h
    cases hown
    refine⟨by simp[ih.len],fun i e' h1 h2 d hd=> ?_,fun i p' e' h1 h2 hp'=> ?_,fun hn i i' p' p'' e' e'' l l' x h1 h2 h3 h4 hp1 hp2 h5 h6 h7 h8=> ?_,fun x hx=> ?_⟩
    ·cases i with
     |zero=>simp only[gE,aY] at h1;exact absurd h1 hp
     |succ i=>exact ih.rd i e' (by simpa using h1) (by simpa using h2) d hd
    ·cases i with
     |zero=>
      simp only[gE,aY] at h1 h2;subst h1 h2;exact⟨l0,PE LU,fun x hx=>lX _ hx,fun hn=>(List.nodup_append.1 hn).1,LU⟩
     |succ i=>
      obtain⟨l,a,b,c,d⟩:=ih.ow i p' e' (by simpa using h1) (by simpa using h2) hp';exact⟨l,a,fun x hx=>rZ _ (b x hx),fun hn=>c (List.nodup_append.1 hn).2.1,d⟩
    ·have hd:=List.nodup_append.1 hn
     have tail: ∀{i:Nat} {p':ct} {e':TE} {l:List Nat},ps[i]?=some p'→es[i]?=some e'→p'≠ .borrow→vF st (Ef p') p'.ms e'=some l→x∈l→x∈own0:=fun {i p' e' l} a1 a2 a3 a4 a5=>by
      obtain⟨l2,_,b,_,d⟩:=ih.ow i p' e' a1 a2 a3;rw[a4] at d;cases d;exact b x a5
     cases i with
     |zero=>
      simp only[gE,aY] at h1 h3;subst h1 h3;rw[LU] at h5;cases h5
      cases i' with
      |zero=>rfl
      |succ i'=>exact absurd rfl (hd.2.2 x h7 x (tail (by simpa using h2) (by simpa using h4) hp2 h6 h8))
     |succ i=>
      cases i' with
      |zero=>
       simp only[gE,aY] at h2 h4;subst h2 h4;rw[LU] at h6;cases h6;exact absurd rfl (hd.2.2 x h8 x (tail (by simpa using h1) (by simpa using h3) hp1 h5 h7))
      |succ i'=>rw[ih.uniq hd.2.1 i i' p' p'' e' e'' l l' x (by simpa using h1) (by simpa using h2) (by simpa using h3) (by simpa using h4) hp1 hp2 h5 h6 h7 h8]
    ·rcases List.mem_append.1 hx with hx|hx
     ·exact⟨0,p,e,l0,rfl,rfl,hp,LU,hx⟩
     ·obtain⟨i,p',e',l,a1,a2,a3⟩:=ih.mem x hx
      exact⟨i+1,p',e',l,by simpa using a1,by simpa using a2,a3⟩
  ·cases h
noncomputable def XOf (w:World) (φ:Fp) (st:TS) (ps:List ct) (es:List TE) (i j k:Nat):Prop:=
 ∃p e,ps[i]?=some p∧es[i]?=some e∧p≠ .borrow∧zw w φ st ((jl st e).getD j .gone) k
def YOf (φ:Fp) (ps:List ct) (es:List TE) (i k:Nat):Prop:= ∃p b,ps[i]?=some p∧es[i]?=some (.bp b 0)∧p≠ .borrow∧k=(φ.β b).block
theorem NM (h:bB F A w0 φ st tm w) {ps:List ct} {es:List TE} {own qk:List Nat} (g:DC st ps es own qk) {xs:List Value} (RO: ∀(i:Nat) (e:TE),es[i]?=some e→ ∃x,xs[i]?=some x∧dK st.ob w φ e x) {i j k:Nat} (hx:XOf w φ st ps es i j k):
 ∃p e e' o l,ps[i]?=some p∧es[i]?=some e∧p≠ .borrow∧(jl st e)[j]?=some e'∧nO e'=some o∧aT st.ob o∧φ.S o k∧vF st (Ef p) p.ms e=some l∧2*o∈l∧2*o∈own:=by
 obtain⟨p,e,h1,h2,hp,hk⟩:=hx;obtain⟨l,ok,hl,_,LU⟩:=g.ow i p e h1 h2 hp;obtain⟨x,_,ht⟩:=RO i e h2
 cases he:(jl st e)[j]? with
 |none=>rw[List.getD,he] at hk;exact hk.elim
 |some e'=>
  rw[List.getD,he] at hk;obtain⟨v,hv⟩:=FE h ht he;obtain⟨⟨cb,_,ho,_⟩,hkey⟩:=ok.one j e' he;obtain⟨o,k1,k2,k3⟩:=ajM h hv ho hk;exact⟨p,e,e',o,l,h1,h2,hp,he,k1,k2,k3,LU,hkey o k1,hl _ (hkey o k1)⟩
theorem ajO (h:bB F A w0 φ st tm w) {qk:List Nat} {Xs:Nat→Nat→Nat→Prop} {Ys:Nat→Nat→Prop}: ∀(ps:List ct) (es:List TE) (xs:List Value) (K:List TV→Ev R),ps.length=es.length→(∀(i:Nat) (e:TE),es[i]?=some e→ ∃x,xs[i]?=some x∧dK st.ob w φ e x)→
 (∀(i:Nat) (e:TE),ps[i]?=some .borrow→es[i]?=some e→ ∀d∈wJ st e,d∈qk)→(∀(i:Nat) (p:ct) (e:TE),ps[i]?=some p→es[i]?=some e→p≠ .borrow→ ∃l,vF st (Ef p) p.ms e=some l)→
 (∀(i:Nat) (p:ct) (e:TE) (v:TV) (x:Value),ps[i]?=some p→es[i]?=some e→p≠ .borrow→Ed w p (Ju φ st qk) (Yt φ st qk) (fun j=>zw w φ st ((jl st e).getD j .gone)) (fun k=> ∃b,e= .bp b 0∧k=(φ.β b).block) v x→Ed w p (Ju φ st qk) (Yt φ st qk) (Xs i) (Ys i) v x)→
 (adj st es K).holds cf lp Q→ ∃vs,vs.length=es.length∧(∀(i:Nat) (v:TV),vs[i]?=some v→ ∃x,xs[i]?=some x∧Ed w (ps.getD i .borrow) (Ju φ st qk) (Yt φ st qk) (Xs i) (Ys i) v x)∧(K vs).holds cf lp Q:=by
 intro ps es
 induction es generalizing ps Xs Ys with
 |nil=>intro xs K _ _ _ _ _ hk;exact⟨[],rfl,fun i v hv=>by simp at hv,hk⟩
 |cons e es ih=>
  intro xs K hl RO hr ho hXY hk
  cases ps with
  |nil=>cases hl
  |cons p ps=>
   obtain⟨x,hx,ht⟩:=RO 0 e rfl
   obtain⟨v,hv,hk⟩: ∃v,Ed w p (Ju φ st qk) (Yt φ st qk) (Xs 0) (Ys 0) v x∧(adj st es fun vs=>K (v::vs)).holds cf lp Q:=by
    by_cases hp:p= .borrow
    ·subst hp
     exact afP h ht (hr 0 e rfl rfl) hk
    ·obtain⟨l,hl⟩:=ho 0 p e rfl rfl hp
     obtain⟨v,a,b⟩:=al4 (Rg:=Ju φ st qk) (BB:=Yt φ st qk) h ht hp hl (fun _ hI=>Or.inl hI) hk;exact⟨v,hXY 0 p e v x rfl rfl hp a,b⟩
   obtain⟨vs,v1,v2,v3⟩:=ih (Xs:=fun i=>Xs (i+1)) (Ys:=fun i=>Ys (i+1)) ps (xs.drop 1) (fun vs=>K (v::vs)) (by simpa using hl) (fun i e' he=>by
    obtain⟨x',a,b⟩:=RO (i+1) e' (by simpa using he)
    exact⟨x',by rw[uu,Nat.add_comm];exact a,b⟩) (fun i e' h1 h2=>hr (i+1) e' (by simpa using h1) (by simpa using h2)) (fun i p' e' h1 h2 h3=>ho (i+1) p' e' (by simpa using h1) (by simpa using h2) h3)
    (fun i p' e' v' x' h1 h2 h3 h4=>hXY (i+1) p' e' v' x' (by simpa using h1) (by simpa using h2) h3 h4) hk
   refine⟨v::vs,by simp[v1],fun i v' hi=> ?_,v3⟩
   cases i with
   |zero=>simp only[gE,aY] at hi;subst hi;exact⟨x,hx,by simpa using hv⟩
   |succ i=>
    obtain⟨x',a,b⟩:=v2 i v' (by simpa using hi);refine⟨x',by rw[uu,Nat.add_comm] at a;exact a,?_⟩;simpa using b
theorem al5 (h:bB F A w0 φ st tm w) {ps:List ct} {es:List TE} {own qk:List Nat} (hg:Fu st ps es=some (own,qk)) (hn:LW own=true) (hm:zo own qk=false) {xs:List Value} (RO: ∀(i:Nat) (e:TE),es[i]?=some e→ ∃x,xs[i]?=some x∧dK st.ob w φ e x)
 {K:List TV→Ev R} (hk:(adj st es K).holds cf lp Q): ∃vs,(K vs).holds cf lp Q∧(Ai vs=true→abQ w ps vs xs (Ju φ st qk) (Yt φ st qk) (XOf w φ st ps es) (YOf φ ps es)):=by
 have g:=Eg hg;have hnd:=L6.1 hn
 obtain⟨vs,v1,v2,v3⟩:=ajO h (qk:=qk) (Xs:=XOf w φ st ps es) (Ys:=YOf φ ps es) ps es xs K g.len RO g.rd (fun i p e h1 h2 hp=>let ⟨l,_,_,_,hl⟩:=g.ow i p e h1 h2 hp;⟨l,hl⟩) (fun i p e v x h1 h2 hp hin=>by
  have hXe: ∀j,XOf w φ st ps es i j=zw w φ st ((jl st e).getD j .gone):=fun j=>by
   funext k
   refine propext ⟨?_,fun hk=>⟨p,e,h1,h2,hp,hk⟩⟩;rintro⟨p',e',a1,a2,a3,a4⟩;rw[h2] at a2;cases a2;exact a4
  have hYe:YOf φ ps es i=fun k=> ∃b,e= .bp b 0∧k=(φ.β b).block:=by
   funext k
   refine propext ⟨?_,?_⟩
   ·rintro⟨p',b,a1,a2,a3,a4⟩
    rw[h2] at a2;cases a2;exact⟨b,rfl,a4⟩
   ·rintro⟨b,rfl,hk⟩
    exact⟨p,b,h1,h2,hp,hk⟩
  have:XOf w φ st ps es i=fun j=>zw w φ st ((jl st e).getD j .gone):=funext hXe;rw[this,hYe]
  exact hin) hk
 have notRg: ∀{o k},2*o∈own→aT st.ob o→φ.S o k→ ¬Ju φ st qk k:=fun {o k} ho hd hS hr=>by
  rcases hr with hr|⟨o',r1,r2,r3⟩
  ·exact h.sep.read o k hd hS hr
  ·rcases r2 with rfl|r2
   ·rw[h.sep.arg] at r3
    have:=h.sep.qL k r3;rcases (h.sep.fresh o k hd hS).2 with h3|h3
    ·omega
    ·exact this.2 h3
   ·have:=h.sep.apart o o' k hd r2 hS r3
    subst this;exact v7 hm ho r1
 have notBB: ∀{o k},2*o∈own→aT st.ob o→φ.S o k→ ¬Yt φ st qk k:=fun {o k} ho hd hS hb=>by
  rcases hb with hb|⟨b,cs,b1,b2,b3⟩
  ·exact notRg ho hd hS hb
  ·exact h.rT hd hS b2 b3.symm
 have yb: ∀{i k},YOf φ ps es i k→ ∃p b l,ps[i]?=some p∧es[i]?=some (.bp b 0)∧p≠ .borrow∧k=(φ.β b).block∧DY b=true∧(∃cs,az b st.bx=some cs)∧vF st (Ef p) p.ms (.bp b 0)=some l∧2*b+1∈l∧2*b+1∈own:=fun {i k} ⟨p,b,h1,h2,hp,hk⟩=>by
  obtain⟨l,ok,hl,_,LU⟩:=g.ow i p _ h1 h2 hp;obtain⟨_,_,hw,hb1,hb2,_⟩:=ok.bx b 0 rfl;exact⟨p,b,l,h1,h2,hp,hk,hw,⟨_,hb2⟩,LU,hb1,hl _ hb1⟩
 refine⟨vs,v3,fun hs=>⟨v2,hs,fun i j k hk=> ?_,fun i k hk=> ?_,fun k hk=> ?_,fun k hk=> ?_⟩⟩
 ·obtain⟨p,e,e',o,l,h1,h2,hp,he,hkey,hd,hS,LU,hol,hoo⟩:=NM h g RO hk
  refine⟨(h.sep.fresh o k hd hS).1,notRg hoo hd hS,notBB hoo hd hS,fun i' hy=> ?_,fun i' j' hk'=> ?_⟩
  ·obtain⟨_,b,_,_,_,_,hkb,_,⟨cs,hb⟩,_⟩:=yb hy
   exact h.rT hd hS hb hkb.symm
  ·obtain⟨p',e2,e2',o',l',g1,g2,gp,ge,gkey,gd,gS,gl0,gol,goo⟩:=NM h g RO hk'
   have:=h.sep.apart o o' k hd gd hS gS;subst this;have hii:=g.uniq hnd i i' p p' e e2 l l' (2*o) h1 g1 h2 g2 hp gp LU gl0 hol gol;subst hii;rw[h2] at g2;cases g2;rw[h1] at g1;cases g1;obtain⟨l2,ok,_,hln,D0⟩:=g.ow i p e h1 h2 hp;exact⟨rfl,(ok.uniq (hln hnd) j j' e' e2' o he ge hkey gkey).symm⟩
 ·obtain⟨p,b,l,h1,h2,hp,rfl,hw,⟨cs,hb⟩,LU,Yh,hbo⟩:=yb hk
  obtain⟨x1,x2,x3,x4⟩:=h.sep.box b cs hb hw
  have nrg: ¬Ju φ st qk (φ.β b).block:=fun hr=>by
   rcases hr with hr|⟨o',r1,r2,r3⟩
   ·exact x1 hr
   ·rcases r2 with rfl|r2
    ·rw[h.sep.arg] at r3
     have:=h.sep.qL _ r3;rcases x3 with h3|h3
     ·omega
     ·exact this.2 h3
    ·exact x2 o' r2 r3
  refine⟨(h.sep.spot b cs hb).2.1,nrg,fun Yi=> ?_,fun i' hy=> ?_⟩
  ·rcases Yi with hr|⟨b',cs',r1,r2,r3⟩
   ·exact nrg hr
   ·by_cases Yi:b'=b
    ·subst Yi;exact v7 hm hbo r1
    ·exact x4 b' cs' r2 Yi r3.symm
  ·obtain⟨p',b',l',g1,g2,gp,gk,gw,⟨cs',gb⟩,gl0,gbl,gbo⟩:=yb hy
   have Yi:b'=b:=Classical.byContradiction fun hne=>x4 b' cs' gb hne gk.symm;subst Yi;exact(g.uniq hnd i i' p p' _ _ l l' (2*b'+1) h1 g1 h2 g2 hp gp LU gl0 Yh gbl).symm
 ·rcases hk with hk|⟨o,_,ho,hk⟩
  ·exact(h.sep.ro k hk).1
  ·exact h.sep.lt h.frm.size ho hk
 ·rcases hk with(hk|⟨o,_,ho,hk⟩)|⟨b,cs,_,hb,rfl⟩
  ·exact(h.sep.ro k hk).1
  ·exact h.sep.lt h.frm.size ho hk
  ·exact(h.sep.spot b cs hb).2.1
end Go.T
namespace Go.T
variable {F : Nat → Prop} {A : Arg} {w0 w w' : World} {φ φ' : Fp} {st st' sta fG sF : TS} {tm LS : Array Value} {C : pO}
variable {R : Type} {cf : Cf} {lp : Lp} {Q : R → Prop}
structure DD (st st':TS) (os bs:List Nat):Prop where
 ob: ∀o,az o st'.ob=if o∈os then none else az o st.ob
 bx: ∀b cs,az b st'.bx=some cs→b∉bs∧ ∃cs0,az b st.bx=some cs0∧cs.length=cs0.length
theorem DD.refl (st:TS):DD st st [] []:=⟨fun o=>by simp,fun b cs h=>⟨by simp,cs,h,rfl⟩⟩
theorem DD.trans {a b c:TS} {o1 o2 b1 b2:List Nat} (h:DD a b o1 b1) (k:DD b c o2 b2):DD a c (o1++o2) (b1++b2):=by
 refine⟨fun o=> ?_,fun x cs hx=> ?_⟩
 ·rw[k.ob,h.ob]
  by_cases h1:o∈o1<;>by_cases h2:o∈o2<;>simp[h1,h2]
 ·obtain⟨n2,cs1,g1,g2⟩:=k.bx x cs hx
  obtain⟨n1,cs0,g3,g4⟩:=h.bx x cs1 g1;exact⟨fun hm=>(List.mem_append.1 hm).elim n1 n2,cs0,g3,g2.trans g4⟩
theorem DD.kill (st:TS) (o:Nat):DD st (qQ o st) [o] []:=by
 refine⟨fun d=> ?_,fun b cs h=>⟨by simp,jE _ b cs h⟩⟩
 by_cases hd:d=o
 ·subst hd
  rw[aI (.head _)]
  cases hl:az d (qQ d st).ob with
  |none=>rfl
  |some b=>exact absurd rfl (m7.1 ⟨b,hl⟩).1
 ·rw[aaF hd,aF (by simpa using hd)]
def uD:List CE→List Nat
 |[]=>[]
 | .ref o _::r=>o::uD r
 |_::r=>uD r
theorem Jv {o:Nat}: ∀{cs:List CE},o∈uD cs↔ ∃(j:Nat) (cut:Option (Int×Int)),cs[j]?=some (.ref o cut)
 |[]=>by simp[uD]
 |e::r=>by
  have ih:=Jv (o:=o) (cs:=r);have shift:(∃(j:Nat) (cut:Option (Int×Int)),r[j]?=some (.ref o cut))→ ∃(j:Nat) (cut:Option (Int×Int)),(e::r)[j]?=some (.ref o cut):=fun⟨j,cut,h⟩=>⟨j+1,cut,by simpa using h⟩
  cases e with
  |ref p cut=>
   simp only[uD,fX]
   constructor
   ·rintro(rfl|h)
    ·exact⟨0,cut,rfl⟩
    ·exact shift (ih.1 h)
   ·rintro⟨j,c,h⟩
    cases j with
    |zero=>simp only[gE,aY,CE.ref.injEq] at h;exact .inl h.1.symm
    |succ j=>exact .inr (ih.2 ⟨j,c,by simpa using h⟩)
  |_=>
   simp only[uD];rw[ih]
   constructor
   ·exact shift
   ·rintro⟨j,c,h⟩
    cases j with
    |zero=>simp at h
    |succ j=>exact⟨j,c,by simpa using h⟩
theorem FF: ∀(cs:List CE) (st:TS),bB F A w0 φ st tm w→bB F A w0 φ (zF cs st) tm w∧DD st (zF cs st) (uD cs) []
 |[],st,h=>⟨h,DD.refl st⟩
 |e::r,st,h=>by
  cases e with
  |ref o cut=>
   obtain⟨h1,h2⟩:=FF r (qQ o st) (h.qQ o);exact⟨h1,(DD.kill st o).trans h2⟩
  |_=>exact FF r st h
theorem al6 (h:bB F A w0 φ st tm w) (b:Nat):bB F A w0 φ ⟨st.tm,uM b st.bx,st.ob⟩ tm w∧DD st ⟨st.tm,uM b st.bx,st.ob⟩ [] [b]:=by
 refine⟨h.less (fun i=> .inr rfl) (fun b' cs hb=> ?_) rfl,fun o=>by simp,fun b' cs hb=> ?_⟩
 ·simp only[kL] at hb
  split at hb
  ·cases hb
  ·exact hb
 ·simp only[kL] at hb
  split at hb
  ·cases hb
  ·rename_i hne
   exact⟨by simpa using hne,cs,hb,rfl⟩
def kG (uJ:TS):List ct→List TE→List Nat
 |p::ps,e::es=>match p,e with
  | .consume,.v false [.mk _ cs]=>uD cs++kG uJ ps es
  | .inout _,.bp b _=>match az b uJ.bx with
    |some cs=>uD cs++kG uJ ps es
    |none=>kG uJ ps es
  |_,_=>kG uJ ps es
 |_,_=>[]
def rU (uJ:TS):List ct→List TE→List Nat
 |p::ps,e::es=>match p,e with
  | .inout _,.bp b _=>match az b uJ.bx with
    |some cs=>b::rU uJ ps es
    |none=>rU uJ ps es
  |_,_=>rU uJ ps es
 |_,_=>[]
theorem adQ {uJ:TS}: ∀(ps:List ct) (es:List TE) (st:TS),bB F A w0 φ st tm w→bB F A w0 φ (yq uJ ps es st) tm w∧DD st (yq uJ ps es st) (kG uJ ps es) (rU uJ ps es)
 |[],es,st,h=>by simp only[yq,kG,rU];exact⟨h,DD.refl st⟩
 |p::ps,[],st,h=>by simp only[yq,kG,rU];exact⟨h,DD.refl st⟩
 |p::ps,e::es,st,h=>by
  have ih:=adQ (uJ:=uJ) ps es
  by_cases hc:p= .consume∧ ∃ag cs,e= .v false [.mk ag cs]
  ·obtain⟨rfl,ag,cs,rfl⟩:=hc
   obtain⟨h1,h2⟩:=FF cs st h;obtain⟨h3,h4⟩:=ih _ h1;exact⟨h3,(by simpa using h2.trans h4:DD st (yq uJ ps es (zF cs st)) (uD cs++kG uJ ps es) (rU uJ ps es))⟩
  ·by_cases hi:(∃ms,p= .inout ms)∧ ∃b off,e= .bp b off
   ·obtain⟨⟨ms,rfl⟩,b,off,rfl⟩:=hi
    simp only[yq,kG,rU]
    cases hb:az b uJ.bx with
    |none=>exact ih st h
    |some cs=>
     simp only;obtain⟨h1,h2⟩:=FF cs st h;obtain⟨h3,h4⟩:=al6 h1 b;obtain⟨h5,h6⟩:=ih _ h3;have:=(h2.trans h4).trans h6;simp only[qm,xB,List.singleton_append] at this;exact⟨h5,this⟩
   ·have e1:yq uJ (p::ps) (e::es) st=yq uJ ps es st:=by
     simp only[yq]
     split
     ·exact absurd ⟨rfl,_,_,rfl⟩ hc
     ·exact absurd ⟨⟨_,rfl⟩,_,_,rfl⟩ hi
     ·rfl
    have e2:kG uJ (p::ps) (e::es)=kG uJ ps es:=by
     simp only[kG]
     split
     ·exact absurd ⟨rfl,_,_,rfl⟩ hc
     ·exact absurd ⟨⟨_,rfl⟩,_,_,rfl⟩ hi
     ·rfl
    have e3:rU uJ (p::ps) (e::es)=rU uJ ps es:=by
     simp only[rU]
     split
     ·exact absurd ⟨⟨_,rfl⟩,_,_,rfl⟩ hi
     ·rfl
    rw[e1,e2,e3];exact ih st h
theorem FG {uJ:TS} {o:Nat}: ∀{ps:List ct} {es:List TE},o∈kG uJ ps es↔ ∃(i:Nat) (p:ct) (e:TE),ps[i]?=some p∧es[i]?=some e∧
 ((p= .consume∧ ∃ag cs,e= .v false [.mk ag cs]∧o∈uD cs)∨((∃ms,p= .inout ms)∧ ∃b off cs,e= .bp b off∧az b uJ.bx=some cs∧o∈uD cs))
 |[],es=>by simp[kG]
 |p::ps,[]=>by simp[kG]
 |p::ps,e::es=>by
  have ih:=FG (uJ:=uJ) (o:=o) (ps:=ps) (es:=es)
  have shift:o∈kG uJ ps es→ ∃(i:Nat) (p':ct) (e':TE),(p::ps)[i]?=some p'∧(e::es)[i]?=some e'∧
   ((p'= .consume∧ ∃ag cs,e'= .v false [.mk ag cs]∧o∈uD cs)∨((∃ms,p'= .inout ms)∧ ∃b off cs,e'= .bp b off∧az b uJ.bx=some cs∧o∈uD cs)):=fun h=>by
   obtain⟨i,p',e',a,b,c⟩:=ih.1 h;exact⟨i+1,p',e',by simpa using a,by simpa using b,c⟩
  have back: ∀{i:Nat} {p':ct} {e':TE},(p::ps)[i+1]?=some p'→(e::es)[i+1]?=some e'→
   ((p'= .consume∧ ∃ag cs,e'= .v false [.mk ag cs]∧o∈uD cs)∨((∃ms,p'= .inout ms)∧ ∃b off cs,e'= .bp b off∧az b uJ.bx=some cs∧o∈uD cs))→o∈kG uJ ps es:=fun {i p' e'} a b c=>
   ih.2 ⟨i,p',e',by simpa using a,by simpa using b,c⟩
  simp only[kG]
  split
  ·rename_i ag cs
   rw[List.mem_append]
   constructor
   ·rintro(h|h)
    ·exact⟨0,_,_,rfl,rfl,.inl ⟨rfl,ag,cs,rfl,h⟩⟩
    ·exact shift h
   ·rintro⟨i,p',e',a,b,c⟩
    cases i with
    |zero=>
     simp only[gE,aY] at a b;subst a b;rcases c with⟨_,ag',cs',e1,h⟩|⟨e1,_⟩
     ·cases e1;exact .inl h
     ·obtain⟨_,e1⟩:=e1;cases e1
    |succ i=>exact .inr (back a b c)
  ·rename_i b off
   split
   ·rename_i cs hb
    rw[List.mem_append]
    constructor
    ·rintro(h|h)
     ·exact⟨0,_,_,rfl,rfl,.inr ⟨⟨_,rfl⟩,b,off,cs,rfl,hb,h⟩⟩
     ·exact shift h
    ·rintro⟨i,p',e',a,b',c⟩
     cases i with
     |zero=>
      simp only[gE,aY] at a b';subst a b';rcases c with⟨e1,_⟩|⟨_,b2,off2,cs2,e1,h2,h⟩
      ·cases e1
      ·cases e1;rw[hb] at h2;cases h2;exact .inl h
     |succ i=>exact .inr (back a b' c)
   ·rename_i hb
    constructor
    ·exact shift
    ·rintro⟨i,p',e',a,b',c⟩
     cases i with
     |zero=>
      simp only[gE,aY] at a b';subst a b';rcases c with⟨e1,_⟩|⟨_,b2,off2,cs2,e1,h2,h⟩
      ·cases e1
      ·cases e1;rw[hb] at h2;cases h2
     |succ i=>exact back a b' c
  ·rename_i n1 n2
   constructor
   ·exact shift
   ·rintro⟨i,p',e',a,b',c⟩
    cases i with
    |zero=>
     simp only[gE,aY] at a b';subst a b';rcases c with⟨rfl,ag,cs,rfl,h⟩|⟨⟨ms,rfl⟩,b2,off2,cs2,rfl,h2,h⟩
     ·exact(n1 _ _ rfl rfl).elim
     ·exact(n2 _ _ _ rfl rfl).elim
    |succ i=>exact back a b' c
theorem L7 {uJ:TS} {b:Nat}: ∀{ps:List ct} {es:List TE},b∈rU uJ ps es↔ ∃(i:Nat) (ms:List Mode) (off:Nat) (cs:List CE),ps[i]?=some (.inout ms)∧es[i]?=some (.bp b off)∧az b uJ.bx=some cs
 |[],es=>by simp[rU]
 |p::ps,[]=>by simp[rU]
 |p::ps,e::es=>by
  have ih:=L7 (uJ:=uJ) (b:=b) (ps:=ps) (es:=es)
  have shift:b∈rU uJ ps es→ ∃(i:Nat) (ms:List Mode) (off:Nat) (cs:List CE),(p::ps)[i]?=some (.inout ms)∧(e::es)[i]?=some (.bp b off)∧az b uJ.bx=some cs:=fun h=>by
   obtain⟨i,ms,off,cs,x,y,z⟩:=ih.1 h;exact⟨i+1,ms,off,cs,by simpa using x,by simpa using y,z⟩
  simp only[rU]
  split
  ·rename_i b' off'
   split
   ·rename_i cs hb
    rw[fX]
    constructor
    ·rintro(rfl|h)
     ·exact⟨0,_,off',cs,rfl,rfl,hb⟩
     ·exact shift h
    ·rintro⟨i,ms,off,cs',x,y,z⟩
     cases i with
     |zero=>simp only[gE,aY,TE.bp.injEq] at y;exact .inl y.1.symm
     |succ i=>exact .inr (ih.2 ⟨i,ms,off,cs',by simpa using x,by simpa using y,z⟩)
   ·rename_i hb
    constructor
    ·exact shift
    ·rintro⟨i,ms,off,cs',x,y,z⟩
     cases i with
     |zero=>simp only[gE,aY,TE.bp.injEq] at y;rw[y.1] at hb;rw[hb] at z;cases z
     |succ i=>exact ih.2 ⟨i,ms,off,cs',by simpa using x,by simpa using y,z⟩
  ·rename_i n1
   constructor
   ·exact shift
   ·rintro⟨i,ms,off,cs',x,y,z⟩
    cases i with
    |zero=>
     simp only[gE,aY] at x y;subst x y;exact(n1 _ _ _ rfl rfl).elim
    |succ i=>exact ih.2 ⟨i,ms,off,cs',by simpa using x,by simpa using y,z⟩
theorem NN: ∀(os:List Nat) (st:TS) (φ:Fp),bB F A w0 φ st tm w→ ∃φ',bB F A w0 φ' (D7 st os) tm w∧φ'.β=φ.β∧φ'.V=φ.V∧φ'.S=φ.S∧(∀k,φ'.I k↔φ.I k∨ ∃o∈os,aT st.ob o∧φ.S o k)∧DD st (D7 st os) os []
 |[],st,φ,h=>⟨φ,h,rfl,rfl,rfl,fun k=>by simp,DD.refl st⟩
 |o::r,st,φ,h=>by
  obtain⟨φ1,h1,a1,a2,a3,a4⟩:=h.BE o
  have hl:DD st (BE st o) [o] []:=by
   unfold T.BE
   cases hb:az o st.ob with
   |none=>
    refine⟨fun d=> ?_,fun b cs hb=>⟨by simp,cs,hb,rfl⟩⟩
    by_cases hd:d=o
    ·subst hd;rw[aI (.head _)];exact hb
    ·rw[aF (by simpa using hd)]
   |some b=>
    refine⟨fun d=> ?_,fun b cs hb=>⟨by simp,jE _ b cs hb⟩⟩;show az d (uM o st.ob)=_;rw[kL]
    by_cases hd:d=o<;>simp[hd]
  obtain⟨φ2,h2,b1,b2,b3,b4,b5⟩:=NN r (BE st o) φ1 h1;refine⟨φ2,h2,b1.trans a1,b2.trans a2,b3.trans a3,fun k=> ?_,hl.trans b5⟩;rw[b4,a4,a3]
  constructor
  ·rintro((hk|hk)|⟨o',ho',hd,hk⟩)
   ·exact .inl hk
   ·exact .inr ⟨o,.head _,hk⟩
   ·refine .inr ⟨o',.tail _ ho',?_,hk⟩
    obtain⟨b,hb⟩:=hd;rw[hl.ob] at hb
    split at hb
    ·cases hb
    ·exact⟨b,hb⟩
  ·rintro(hk|⟨o',ho',hd,hk⟩)
   ·exact .inl (.inl hk)
   ·by_cases he:o'=o
    ·subst he;exact .inl (.inr ⟨hd,hk⟩)
    ·refine .inr ⟨o',(fX.1 ho').resolve_left he,?_,hk⟩
     obtain⟨b,hb⟩:=hd;exact⟨b,by rw[hl.ob,aF (by simpa using he)];exact hb⟩
theorem afS {e:TE} {o:Nat}:o∈Jd st e↔2*o∈wJ st e:=by
 have key: ∀(l:List Nat),2*o∈l.map (2* ·)↔o∈l:=fun l=>by
  rw[List.mem_map]
  constructor
  ·rintro⟨x,hx,e⟩
   have:x=o:=by omega
   subst this;exact hx
  ·intro h;exact⟨o,h,rfl⟩
 have bxk: ∀b,2*o∈Ft st b↔o∈(match az b st.bx with|some cs=>cs.flatMap iM|none=>[]):=fun b=>by
  unfold Ft
  cases az b st.bx with
  |none=>simp;omega
  |some cs=>
   simp only[fX];rw[key]
   constructor
   ·rintro(h|h)
    ·omega
    ·exact h
   ·exact .inr
 cases e with
 |v t es=>simp only[Jd,wJ,Dy];exact(key _).symm
 |ep d cells=>simp only[Jd,wJ,Dy];exact(key _).symm
 |er r p i f=>simp only[Jd,wJ,Dy,qn];constructor<;>intro h<;>omega
 |bp b off=>simp only[Jd,wJ];exact(bxk b).symm
 |fn f caps=>
  simp only[Jd,wJ,List.mem_flatMap]
  constructor
  ·rintro⟨b,h1,h2⟩;exact⟨b,h1,(bxk b).2 h2⟩
  ·rintro⟨b,h1,h2⟩;exact⟨b,h1,(bxk b).1 h2⟩
 |_=>simp[Jd,wJ,Dy]
theorem Ar {o:Nat}: ∀{ps:List ct} {es:List TE} {own qk:List Nat},Fu st ps es=some (own,qk)→(o∈borrowed st ps es↔2*o∈qk)
 |[],[],own,qk,h=>by cases h;simp[borrowed]
 |[],_::_,_,_,h=>by cases h
 |_::_,[],_,_,h=>by cases h
 |p::ps,e::es,own,qk,h=>by
  simp only[Fu] at h
  split at h
  ·rename_i own0 rd0 hg
   have ih:=Ar (o:=o) hg
   cases p with
   |borrow=>cases h;simp only[borrowed,List.mem_append];rw[afS,ih]
   |inout ms=>
    simp only at h
    split at h
    ·cases h;exact ih
    ·cases h
   |consume=>
    simp only at h
    split at h
    ·cases h;exact ih
    ·cases h
  ·cases h
end Go.T
namespace Go.T
variable {F : Nat → Prop} {A : Arg} {w0 w w' : World} {φ φ' : Fp} {st st' sta fG sF : TS} {tm LS : Array Value} {C : pO}
variable {R : Type} {cf : Cf} {lp : Lp} {Q : R → Prop}
def Vn:List ct→List TV→Nat→Option TV
 |[],_,_=>none
 |p::ps,fs,i=>match p with
  | .inout _=>match fs with
    |[]=>none
    |f::fs=>match i with
     |0=>some f
     |i+1=>Vn ps fs i
  |_=>match i with
   |0=>none
   |i+1=>Vn ps fs i
def ag9 (w:World) (NB:Nat→Prop) (eD:List It) (pos:Nat→Nat) (ms:List Mode) (f:TV) (x:Value):Prop:=match f with
 | .c c=>eD[pos 0]?=some (.deep,c,x)
 | .ag cs=> ∃ys:Array Value,x= .agg ys∧ys.size=cs.length∧ ∀(j:Nat) (c:TC),cs[j]?=some c→ ∃u,ys[j]?=some u∧eD[pos j]?=some (.deep,c,u)
 | .bx cs=> ∃(ad:Addr) (us:List Value),x= .pointer (some ad)∧us.length=cs.length∧NB ad.block∧(∀(j:Nat) (u:Value),us[j]?=some u→w.cell? (ad.add j)=some u∧u.cells= #[u]∧w.frozen? (ad.add j)=false)∧
     ∀(j:Nat) (c:TC),cs[j]?=some c→ ∃u,us[j]?=some u∧eD[pos j]?=some (mAt ms j,c,u)
 |_=>False
structure aou (w:World) (NB:Nat→Prop) (ps:List ct) (xs:List Value) (fs:List TV) (eD:List It) (pos:Nat→Nat→Nat):Prop where
 lt: ∀i f j,Vn ps fs i=some f→j<(gX f).length→pos i j<eD.length
 inj: ∀i i' f f' j j',Vn ps fs i=some f→j<(gX f).length→Vn ps fs i'=some f'→j'<(gX f').length→pos i j=pos i' j'→i=i'∧j=j'
 at': ∀i f,Vn ps fs i=some f→ ∃ms,ps[i]?=some (.inout ms)∧ ∃x,xs[i]?=some x∧ag9 w NB eD (pos i) ms f x
theorem aaV {cs:List TC}: ∀{ms:List Mode} {vs:List Value} {j:Nat} {c:TC} {v:Value},cs[j]?=some c→vs[j]?=some v→(e7 (bms ms cs) cs vs)[j]?=some (mAt ms j,c,v):=by
 induction cs with
 |nil=>intro ms vs j c v h;simp at h
 |cons c0 cs ih=>
  intro ms vs j c v h1 h2
  cases vs with
  |nil=>simp at h2
  |cons v0 vs=>
   cases j with
   |zero=>simp only[gE,aY] at h1 h2;subst h1 h2;rw[V2];rfl
   |succ j=>rw[V3];exact ih (ms:=ms.drop 1) (by simpa using h1) (by simpa using h2)
theorem abZ {cs:List TC} {vs:List Value} {j:Nat} {c:TC} {v:Value} (h1:cs[j]?=some c) (h2:vs[j]?=some v):(e7 (bms [] cs) cs vs)[j]?=some (.deep,c,v):=aaV h1 h2
theorem ag9.shift {NB:Nat→Prop} {a b:List It} {pos:Nat→Nat} {ms:List Mode} {f:TV} {x:Value} (h:ag9 w NB b pos ms f x):ag9 w NB (a++b) (fun j=>a.length+pos j) ms f x:=by
 have sh: ∀{n:Nat} {it:It},b[n]?=some it→(a++b)[a.length+n]?=some it:=fun {n it} hn=>by rw[pK ay,Nat.add_sub_cancel_left];exact hn
 cases f with
 |c c=>exact sh h
 |ag cs=>obtain⟨ys,h1,h2,h3⟩:=h;exact⟨ys,h1,h2,fun j c hj=>let ⟨u,a1,a2⟩:=h3 j c hj;⟨u,a1,sh a2⟩⟩
 |bx cs=>obtain⟨ad,us,h1,h2,h3,h4,h5⟩:=h;exact⟨ad,us,h1,h2,h3,h4,fun j c hj=>let ⟨u,a1,a2⟩:=h5 j c hj;⟨u,a1,sh a2⟩⟩
 |_=>exact h
theorem afT {NB:Nat→Prop}: ∀{ps:List ct} {xs:List Value} {fs:List TV} {eD:List It},BM w NB ps xs fs eD→ ∃pos,aou w NB ps xs fs eD pos
 |[],[],fs,eD,h=>⟨fun _ _=>0,fun i f j h=>by simp[Vn] at h,fun i i' f f' j j' h=>by simp[Vn] at h,fun i f h=>by simp[Vn] at h⟩
 |[],_::_,_,_,h=>h.elim
 |_::_,[],_,_,h=>h.elim
 |p::ps,x::xs,fs,eD,h=>by
  by_cases hp: ∃ms,p= .inout ms
  ·obtain⟨ms,rfl⟩:=hp
   cases fs with
   |nil=>exact h.elim
   |cons f fs=>
    obtain⟨a,b,rfl,hr,hf⟩:=h;obtain⟨pos,p1,p2,p3⟩:=afT hr
    have hlen:(gX f).length=a.length:=by
     cases f with
     |c c=>have hf:a=[(.deep,c,x)]:=hf.2;subst hf;rfl
     |ag cs=>obtain⟨_,ys,_,h2,rfl⟩:=hf;exact(p5 (ms:=bms [] cs) (cs:=cs) (vs:=ys.toList) (by simp[h2])).symm
     |bx cs=>obtain⟨ad,us,_,h2,_,_,rfl⟩:=hf;exact(p5 (ms:=bms ms cs) (cs:=cs) (vs:=us) h2.symm).symm
     |_=>exact hf.elim
    refine⟨fun i j=>match i with|0=>j|i+1=>a.length+pos i j,fun i f' j hi hj=> ?_,fun i i' f1 f2 j j' h1 h2 h3 h4 he=> ?_,fun i f' hi=> ?_⟩
    ·rw[cF]
     cases i with
     |zero=>simp only[Vn,aY] at hi;subst hi;simp only;omega
     |succ i=>have:=p1 i f' j hi hj;simp only;omega
    ·cases i with
     |zero=>
      simp only[Vn,aY] at h1;subst h1
      cases i' with
      |zero=>exact⟨rfl,he⟩
      |succ i'=>simp only at he;omega
     |succ i=>
      cases i' with
      |zero=>
       simp only[Vn,aY] at h3;subst h3;simp only at he;omega
      |succ i'=>
       simp only at he;obtain⟨e1,e2⟩:=p2 i i' f1 f2 j j' h1 h2 h3 h4 ay;exact⟨by omega,e2⟩
    ·cases i with
     |zero=>
      simp only[Vn,aY] at hi;subst hi
      have lf: ∀{n:Nat} {it:It},a[n]?=some it→(a++b)[n]?=some it:=fun {n it} hn=>by rw[nj (List.getElem?_eq_some_iff.1 hn).1];exact hn
      refine⟨ms,rfl,x,rfl,?_⟩
      cases f with
      |c c=>have hf:a=[(.deep,c,x)]:=hf.2;subst hf;rfl
      |ag cs=>
       obtain⟨_,ys,h1,h2,rfl⟩:=hf;refine⟨ys,h1,h2,fun j c hj=> ?_⟩
       have hlt:j<ys.size:=by rw[h2];exact(List.getElem?_eq_some_iff.1 hj).1
       exact⟨ys[j],zk hlt,lf (abZ hj (by simp[hlt]))⟩
      |bx cs=>
       obtain⟨ad,us,h1,h2,h3,h4,rfl⟩:=hf;refine⟨ad,us,h1,h2,h3,h4,fun j c hj=> ?_⟩
       have hlt:j<us.length:=by rw[h2];exact(List.getElem?_eq_some_iff.1 hj).1
       exact⟨us[j],ck hlt,lf (aaV hj (ck hlt))⟩
      |_=>exact hf.elim
     |succ i=>
      obtain⟨ms',y0,y,y1,y2⟩:=p3 i f' hi;exact⟨ms',by simpa using y0,y,by simpa using y1,y2.shift⟩
  ·have hr:BM w NB ps xs fs eD:=by cases p<;>first|exact h|exact absurd ⟨_,rfl⟩ hp
   obtain⟨pos,p1,p2,p3⟩:=afT hr
   have hz: ∀fs,Vn (p::ps) fs 0=none:=fun fs=>by cases p<;>first|rfl|exact absurd ⟨_,rfl⟩ hp
   have hs: ∀fs i,Vn (p::ps) fs (i+1)=Vn ps fs i:=fun fs i=>by cases p<;>first|rfl|exact absurd ⟨_,rfl⟩ hp
   refine⟨fun i j=>pos (i-1) j,fun i f j hi hj=> ?_,fun i i' f1 f2 j j' h1 h2 h3 h4 he=> ?_,fun i f hi=> ?_⟩
   ·cases i with
    |zero=>rw[hz] at hi;cases hi
    |succ i=>rw[hs] at hi;exact p1 i f j hi hj
   ·cases i with
    |zero=>rw[hz] at h1;cases h1
    |succ i=>
     cases i' with
     |zero=>rw[hz] at h3;cases h3
     |succ i'=>rw[hs] at h1 h3;obtain⟨e1,e2⟩:=p2 i i' f1 f2 j j' h1 h2 h3 h4 he;exact⟨by omega,e2⟩
   ·cases i with
    |zero=>rw[hz] at hi;cases hi
    |succ i=>
     rw[hs] at hi;obtain⟨ms',y0,y,y1,y2⟩:=p3 i f hi;exact⟨ms',by simpa using y0,y,by simpa using y1,y2⟩
structure FH (st:TS) (ps:List ct) (es:List TE) (fs:List TV) (W:List (Nat×OB)) (B:List (Nat×List Mode×List TC)):Prop where
 memW: ∀o b',(o,b')∈W→ ∃(i:Nat) (ms:List Mode) (f:TV) (ag:Bool) (cs:List CE) (j:Nat) (c:TC) (e':CE),ps[i]?=some (.inout ms)∧es[i]?=some (.v false [.mk ag cs])∧Vn ps fs i=some f∧(gX f)[j]?=some c∧cs[j]?=some e'∧xH st e' c=some [(o,b')]∧(f= .c c∧ag=false∧cs=[e']∨ ∃ts,f= .ag ts∧ag=true)
 allW: ∀(i:Nat) (ms:List Mode) (ag:Bool) (cs:List CE),ps[i]?=some (.inout ms)→es[i]?=some (.v false [.mk ag cs])→ ∃f,Vn ps fs i=some f∧ ∀(j:Nat) (e':CE),cs[j]?=some e'→ ∃c l,(gX f)[j]?=some c∧xH st e' c=some l∧ ∀x∈l,x∈W
 memB: ∀b ms ts,(b,ms,ts)∈B→ ∃(i:Nat) (cs:List CE),ps[i]?=some (.inout ms)∧es[i]?=some (.bp b 0)∧Vn ps fs i=some (.bx ts)∧az b st.bx=some cs∧cs.length=ts.length
 ndB:(∀(i i' b:Nat) (ms ms':List Mode),ps[i]?=some (.inout ms)→ps[i']?=some (.inout ms')→es[i]?=some (.bp b 0)→es[i']?=some (.bp b 0)→i=i')→B.Pairwise fun x y=>x.1≠y.1
theorem FI {e:CE} {c:TC} {l:List (Nat×OB)} (h:xH st e c=some l):l=[]∨ ∃o b',l=[(o,b')]∧nO e=some o:=by
 unfold xH at h
 split at h
 ·cases h;exact .inl rfl
 ·cases h;exact .inl rfl
 ·split at h
  ·split at h
   ·cases h;exact .inr ⟨_,_,rfl,rfl⟩
   ·cases h
  ·cases h
 ·split at h
  ·cases h;exact .inr ⟨_,_,rfl,rfl⟩
  ·cases h
 ·cases h
theorem R2: ∀{cs:List CE} {ts:List TC} {l:List (Nat×OB)},Vj st cs ts=some l→ts.length=cs.length∧(∀x∈l,∃(j:Nat) (e':CE) (c:TC) (l':List (Nat×OB)),cs[j]?=some e'∧ts[j]?=some c∧xH st e' c=some l'∧x∈l')∧
 ∀(j:Nat) (e':CE),cs[j]?=some e'→ ∃c l',ts[j]?=some c∧xH st e' c=some l'∧ ∀x∈l',x∈l
 |[],[],l,h=>by cases h;exact⟨rfl,fun x hx=>(by cases hx),fun j e' he=>by simp at he⟩
 |[],_::_,_,h=>by cases h
 |_::_,[],_,h=>by cases h
 |e::r,c::cs,l,h=>by
  simp only[Vj] at h
  split at h
  ·rename_i a b h1 h2
   cases h
   obtain⟨g1,g2,g3⟩:=R2 h2;refine⟨by simp[g1],fun x hx=> ?_,fun j e' he=> ?_⟩
   ·rcases List.mem_append.1 hx with hx|hx
    ·exact⟨0,e,c,a,rfl,rfl,h1,hx⟩
    ·obtain⟨j,e',c',l',a1,a2,a3,a4⟩:=g2 x hx
     exact⟨j+1,e',c',l',by simpa using a1,by simpa using a2,a3,a4⟩
   ·cases j with
    |zero=>simp only[gE,aY] at he;subst he;exact⟨c,a,rfl,h1,fun x hx=>lX _ hx⟩
    |succ j=>
     obtain⟨c',l',a1,a2,a3⟩:=g3 j e' (by simpa using he);exact⟨c',l',by simpa using a1,a2,fun x hx=>rZ _ (a3 x hx)⟩
  ·cases h
theorem FH.skip {p:ct} {ps:List ct} {e:TE} {es:List TE} {fs:List TV} {W:List (Nat×OB)} {B:List (Nat×List Mode×List TC)} (ih:FH st ps es fs W B) (hp: ¬ ∃ms,p= .inout ms):FH st (p::ps) (e::es) fs W B:=by
 have hs: ∀fs i,Vn (p::ps) fs (i+1)=Vn ps fs i:=fun fs i=>by cases p<;>first|rfl|exact absurd ⟨_,rfl⟩ hp
 refine⟨fun o b' hm=> ?_,fun i ms ag cs h1 h2=> ?_,fun b ms ts hm=> ?_,fun hu=>ih.ndB fun i i' b ms ms' h1 h2 h3 h4=> ?_⟩
 ·obtain⟨i,ms,f,ag,cs,j,c,e',a1,a2,a3,a4⟩:=ih.memW o b' hm
  exact⟨i+1,ms,f,ag,cs,j,c,e',by simpa using a1,by simpa using a2,by rw[hs];exact a3,a4⟩
 ·cases i with
  |zero=>simp only[gE,aY] at h1;exact absurd ⟨_,h1⟩ hp
  |succ i=>
   obtain⟨f,a1,a2⟩:=ih.allW i ms ag cs (by simpa using h1) (by simpa using h2);exact⟨f,by rw[hs];exact a1,a2⟩
 ·obtain⟨i,cs,a1,a2,a3,a4⟩:=ih.memB b ms ts hm
  exact⟨i+1,cs,by simpa using a1,by simpa using a2,by rw[hs];exact a3,a4⟩
 ·have:=hu (i+1) (i'+1) b ms ms' (by simpa using h1) (by simpa using h2) (by simpa using h3) (by simpa using h4)
  omega
theorem As: ∀{ps:List ct} {es:List TE} {fs:List TV} {W:List (Nat×OB)} {B:List (Nat×List Mode×List TC)},zG st ps es fs=some (W,B)→FH st ps es fs W B
 |[],[],[],W,B,h=>by
  cases h
  exact⟨fun o b' hm=>(by cases hm),fun i ms ag cs h=>by simp at h,fun b ms ts hm=>(by cases hm),fun _=> .nil⟩
 |[],[],_::_,_,_,h=>by cases h
 |[],_::_,_,_,_,h=>by cases h
 |_::_,[],_,_,_,h=>by cases h
 |p::ps,e::es,fs,W,B,h=>by
  by_cases hp: ∃ms,p= .inout ms
  ·obtain⟨ms0,rfl⟩:=hp
   have shiftW: ∀{f:TV} {fs:List TV} {W:List (Nat×OB)} {B:List (Nat×List Mode×List TC)},FH st ps es fs W B→ ∀o b',(o,b')∈W→ ∃(i:Nat) (ms:List Mode) (f':TV) (ag:Bool) (cs:List CE) (j:Nat) (c:TC) (e':CE),(ct.inout ms0::ps)[i]?=some (.inout ms)∧(e::es)[i]?=some (.v false [.mk ag cs])∧Vn (.inout ms0::ps) (f::fs) i=some f'∧(gX f')[j]?=some c∧cs[j]?=some e'∧xH st e' c=some [(o,b')]∧
    (f'= .c c∧ag=false∧cs=[e']∨ ∃ts,f'= .ag ts∧ag=true):=fun ih o b' hm=>by
    obtain⟨i,ms,f',ag,cs,j,c,e',a1,a2,a3,a4⟩:=ih.memW o b' hm;exact⟨i+1,ms,f',ag,cs,j,c,e',by simpa using a1,by simpa using a2,a3,a4⟩
   have shiftB: ∀{f:TV} {fs:List TV} {W:List (Nat×OB)} {B:List (Nat×List Mode×List TC)},FH st ps es fs W B→ ∀b ms ts,(b,ms,ts)∈B→ ∃(i:Nat) (cs:List CE),(ct.inout ms0::ps)[i]?=some (.inout ms)∧(e::es)[i]?=some (.bp b 0)∧Vn (.inout ms0::ps) (f::fs) i=some (.bx ts)∧az b st.bx=some cs∧cs.length=ts.length:=fun ih b ms ts hm=>by
    obtain⟨i,cs,a1,a2,a3,a4⟩:=ih.memB b ms ts hm;exact⟨i+1,cs,by simpa using a1,by simpa using a2,a3,a4⟩
   have shiftU: ∀{fs:List TV} {W:List (Nat×OB)} {B:List (Nat×List Mode×List TC)},FH st ps es fs W B→(∀(i i' b:Nat) (ms ms':List Mode),(ct.inout ms0::ps)[i]?=some (.inout ms)→(ct.inout ms0::ps)[i']?=some (.inout ms')→(e::es)[i]?=some (.bp b 0)→(e::es)[i']?=some (.bp b 0)→i=i')→B.Pairwise fun x y=>x.1≠y.1:=fun ih hu=>by
    refine ih.ndB fun i i' b ms ms' h1 h2 h3 h4=> ?_;have:=hu (i+1) (i'+1) b ms ms' (by simpa using h1) (by simpa using h2) (by simpa using h3) (by simpa using h4);omega
   simp only[zG] at h
   split at h
   ·rename_i e0 c0 fs0
    split at h
    ·rename_i a b bs h1 h2
     cases h
     have ih:=As h2;refine⟨fun o b' hm=> ?_,fun i ms ag cs g1 g2=> ?_,shiftB ih,shiftU ih⟩
     ·rcases List.mem_append.1 hm with hm|hm
      ·rcases FI h1 with rfl|⟨o1,b1,rfl,_⟩
       ·cases hm
       ·simp only[qn] at hm
        cases hm
        exact⟨0,_,_,false,[e0],0,c0,e0,rfl,rfl,rfl,rfl,rfl,h1,.inl ⟨rfl,rfl,rfl⟩⟩
      ·exact shiftW ih o b' hm
     ·cases i with
      |zero=>
       simp only[gE,aY,TE.v.injEq,List.cons.injEq,vE.mk.injEq,and_true,true_and] at g2;obtain⟨rfl,rfl⟩:=g2;refine⟨_,rfl,fun j e' he=> ?_⟩
       cases j with
       |zero=>simp only[gE,aY] at he;subst he;exact⟨c0,a,rfl,h1,fun x hx=>lX _ hx⟩
       |succ j=>simp at he
      |succ i=>
       obtain⟨f,a1,a2⟩:=ih.allW i ms ag cs (by simpa using g1) (by simpa using g2);refine⟨f,a1,fun j e' he=> ?_⟩;obtain⟨c,l,b1,b2,b3⟩:=a2 j e' he;exact⟨c,l,b1,b2,fun x hx=>rZ _ (b3 x hx)⟩
    ·cases h
   ·rename_i cs0 ts0 fs0
    split at h
    ·rename_i a b bs h1 h2
     cases h
     have ih:=As h2;obtain⟨q1,q2,q3⟩:=R2 h1;refine⟨fun o b' hm=> ?_,fun i ms ag cs g1 g2=> ?_,shiftB ih,shiftU ih⟩
     ·rcases List.mem_append.1 hm with hm|hm
      ·obtain⟨j,e',c,l',x1,x2,x3,x4⟩:=q2 _ hm
       rcases FI x3 with rfl|⟨o1,b1,rfl,_⟩
       ·cases x4
       ·simp only[qn] at x4
        cases x4
        exact⟨0,_,_,true,cs0,j,c,e',rfl,rfl,rfl,x2,x1,x3,.inr ⟨_,rfl,rfl⟩⟩
      ·exact shiftW ih o b' hm
     ·cases i with
      |zero=>
       simp only[gE,aY,TE.v.injEq,List.cons.injEq,vE.mk.injEq,and_true,true_and] at g2;obtain⟨rfl,rfl⟩:=g2;refine⟨_,rfl,fun j e' he=> ?_⟩;obtain⟨c,l',x1,x2,x3⟩:=q3 j e' he;exact⟨c,l',x1,x2,fun x hx=>lX _ (x3 x hx)⟩
      |succ i=>
       obtain⟨f,a1,a2⟩:=ih.allW i ms ag cs (by simpa using g1) (by simpa using g2);refine⟨f,a1,fun j e' he=> ?_⟩;obtain⟨c,l,b1,b2,b3⟩:=a2 j e' he;exact⟨c,l,b1,b2,fun x hx=>rZ _ (b3 x hx)⟩
    ·cases h
   ·rename_i b0 ts0 fs0
    split at h
    ·rename_i cs0 a bs hb h2
     split at h
     ·rename_i hl
      cases h
      have ih:=As h2;refine⟨shiftW ih,fun i ms ag cs g1 g2=> ?_,fun b ms ts hm=> ?_,fun hu=> ?_⟩
      ·cases i with
       |zero=>simp at g2
       |succ i=>exact ih.allW i ms ag cs (by simpa using g1) (by simpa using g2)
      ·rcases fX.1 hm with hm|hm
       ·cases hm
        exact⟨0,cs0,rfl,rfl,rfl,hb,kf hl⟩
       ·exact shiftB ih b ms ts hm
      ·refine List.pairwise_cons.2 ⟨fun x hx e=> ?_,shiftU ih hu⟩
       obtain⟨b,ms,ts⟩:=x;have e:b0=b:=e;subst e;obtain⟨i,cs,a1,a2,_⟩:=ih.memB b0 ms ts hx;have:=hu 0 (i+1) b0 _ _ rfl (by simpa using a1) rfl (by simpa using a2);omega
     ·cases h
    ·cases h
   ·cases h
  ·have h2:zG st ps es fs=some (W,B):=by cases p<;>first|exact h|exact absurd ⟨_,rfl⟩ hp
   exact(As h2).skip hp
end Go.T
namespace Go.T
variable {F : Nat → Prop} {A : Arg} {w0 w w' : World} {φ φ' : Fp} {st st' sta fG sF : TS} {tm LS : Array Value} {C : pO}
variable {R : Type} {cf : Cf} {lp : Lp} {Q : R → Prop}
structure AtP (st:TS) (ps:List ct) (es:List TE) (i j:Nat) (p:ct) (e:TE) (e':CE):Prop where
 hp:ps[i]?=some p
 he:es[i]?=some e
 hb:p≠ .borrow
 hc:(jl st e)[j]?=some e'
theorem DC.key {ps:List ct} {es:List TE} {own qk:List Nat} (g:DC st ps es own qk) {i j:Nat} {p:ct} {e:TE} {e':CE} (a:AtP st ps es i j p e e') {o:Nat} (ho:nO e'=some o):2*o∈own:=by
 obtain⟨l,ok,hl,_,_⟩:=g.ow i p e a.hp a.he a.hb;exact hl _ ((ok.one j e' a.hc).2 o ho)
theorem DC.pos {ps:List ct} {es:List TE} {own qk:List Nat} (g:DC st ps es own qk) {o:Nat} (ho:2*o∈own): ∃i j p e e',AtP st ps es i j p e e'∧nO e'=some o:=by
 obtain⟨i,p,e,l,h1,h2,h3,h4,h5⟩:=g.mem _ ho;obtain⟨j,e',h6,h7⟩:=(PE h4).mem o h5;exact⟨i,j,p,e,e',⟨h1,h2,h3,h6⟩,h7⟩
theorem DC.V5 {ps:List ct} {es:List TE} {own qk:List Nat} (g:DC st ps es own qk) (hn:own.Nodup) {o i j i2 j2:Nat} {p p2:ct} {e e2:TE} {e' e2':CE} (a:AtP st ps es i j p e e') (b:AtP st ps es i2 j2 p2 e2 e2') (ha:nO e'=some o) (hb:nO e2'=some o):
 i=i2∧j=j2∧p=p2∧e=e2∧e'=e2':=by
 obtain⟨l,ok,hl,hln,LU⟩:=g.ow i p e a.hp a.he a.hb;obtain⟨l2,ok2,D0,_,apG⟩:=g.ow i2 p2 e2 b.hp b.he b.hb;have hi:=g.uniq hn i i2 p p2 e e2 l l2 (2*o) a.hp b.hp a.he b.he a.hb b.hb LU apG ((ok.one j e' a.hc).2 o ha) ((ok2.one j2 e2' b.hc).2 o hb);subst hi;have h1:=a.hp.symm.trans b.hp;have h2:=a.he.symm.trans b.he
 cases h1;cases h2
 have hj:=ok.uniq (hln hn) j j2 e' e2' o a.hc b.hc ha hb;subst hj;have h3:=a.hc.symm.trans b.hc
 cases h3
 exact⟨rfl,rfl,rfl,rfl,rfl⟩
theorem afU {e:CE} {c:TC} {l:List (Nat×OB)} (h:xH st e c=some l) {o:Nat} (ho:nO e=some o): ∃b',l=[(o,b')]:=by
 rcases FI h with rfl|⟨o1,b1,rfl,h1⟩
 ·unfold xH at h
  split at h
  ·cases ho
  ·cases ho
  ·split at h
   ·split at h<;>cases h
   ·cases h
  ·split at h<;>cases h
  ·cases h
 ·rw[ho] at h1;cases h1;exact⟨b1,rfl⟩
theorem V6 {ps:List ct} {es:List TE} {own qk:List Nat} (g:DC st ps es own qk) {o:Nat} (ho:o∈kG st ps es): ∃i j p e e',AtP st ps es i j p e e'∧nO e'=some o∧(p= .consume∨(∃ms,p= .inout ms)∧ ∃b off,e= .bp b off):=by
 obtain⟨i,p,e,h1,h2,h3⟩:=FG.1 ho;rcases h3 with⟨rfl,ag,cs,rfl,hr⟩|⟨⟨ms,rfl⟩,b,off,cs,rfl,hb,hr⟩
 ·obtain⟨j,cut,hj⟩:=Jv.1 hr
  exact⟨i,j,_,_,_,⟨h1,h2,by simp,hj⟩,rfl,.inl rfl⟩
 ·obtain⟨j,cut,hj⟩:=Jv.1 hr
  exact⟨i,j,_,_,_,⟨h1,h2,by simp,by simp only[jl,hb];exact hj⟩,rfl,.inr ⟨⟨_,rfl⟩,b,off,rfl⟩⟩
theorem ahR {ps:List ct} {es:List TE} {own qk:List Nat} {fs:List TV} {W:List (Nat×OB)} {B:List (Nat×List Mode×List TC)} (g:DC st ps es own qk) (po:FH st ps es fs W B) {o:Nat} (ho:2*o∈own):o∈kG st ps es∨ ∃b',(o,b')∈W:=by
 obtain⟨i,j,p,e,e',a,hk⟩:=g.pos ho;obtain⟨l,ok,_,_,LU⟩:=g.ow i p e a.hp a.he a.hb
 have refOf:ag7 st true e'→ ∃cut,e'= .ref o cut:=fun hoc=>by
  cases e' with
  |ref o' cut=>cases hk;exact⟨cut,rfl⟩
  |snap ds loc z rows=>cases loc with
   |none=>cases hk
   |some q=>obtain⟨o1,i1,f1⟩:=q;exact absurd hoc.1 cW
  |_=>cases hk
 cases p with
 |borrow=>exact absurd rfl a.hb
 |consume=>
  rcases ok.form with⟨b,rfl⟩|⟨_,ag,cs,rfl,hcs⟩
  ·have:=(ok.bx b 0 rfl).2.1;cases this
  ·obtain⟨cut,rfl⟩:=refOf ((hcs j e' a.hc).key hk)
   exact .inl (FG.2 ⟨i,_,_,a.hp,a.he,.inl ⟨rfl,ag,cs,rfl,Jv.2 ⟨j,cut,a.hc⟩⟩⟩)
 |inout ms=>
  rcases ok.form with⟨b,rfl⟩|⟨_,ag,cs,rfl,hcs⟩
  ·obtain⟨_,_,_,_,hb,hoc⟩:=ok.bx b 0 rfl
   obtain⟨cut,rfl⟩:=refOf ((hoc j e' a.hc).key hk);exact .inl (FG.2 ⟨i,_,_,a.hp,a.he,.inr ⟨⟨_,rfl⟩,b,0,_,rfl,hb,Jv.2 ⟨j,cut,a.hc⟩⟩⟩)
  ·obtain⟨f,_,hall⟩:=po.allW i ms ag cs a.hp a.he
   obtain⟨c,l',_,h2,h3⟩:=hall j e' a.hc;obtain⟨b',rfl⟩:=afU h2 hk;exact .inr ⟨b',h3 _ (.head _)⟩
theorem x8 {ps:List ct} {es:List TE} {fs:List TV} {W:List (Nat×OB)} {B:List (Nat×List Mode×List TC)} (po:FH st ps es fs W B) {o:Nat} {b':OB} (hm:(o,b')∈W):
 ∃i j ms e' ag cs f c,AtP st ps es i j (.inout ms) (.v false [.mk ag cs]) e'∧nO e'=some o∧Vn ps fs i=some f∧(gX f)[j]?=some c∧xH st e' c=some [(o,b')]∧(f= .c c∧ag=false∧cs=[e']∧j=0∨ ∃ts,f= .ag ts∧ag=true):=by
 obtain⟨i,ms,f,ag,cs,j,c,e',h1,h2,h3,h4,h5,h6,h7⟩:=po.memW o b' hm;refine⟨i,j,ms,e',ag,cs,f,c,⟨h1,h2,by simp,h5⟩,?_,h3,h4,h6,?_⟩
 ·rcases FI h6 with e0|⟨o1,b1,e0,hk⟩
  ·cases e0
  ·cases e0;exact hk
 ·rcases h7 with⟨rfl,rfl,rfl⟩|h7
  ·refine .inl ⟨rfl,rfl,rfl,?_⟩
   have:=(List.getElem?_eq_some_iff.1 h5).1;simp at this;exact this
  ·exact .inr h7
structure aqk (F:Nat→Prop) (A:Arg) (w0 w':World) (φ φ3:Fp) (gS:Sig) (st3:TS) (tm:Array Value) (B:List (Nat×List Mode×List TC)) (r:TV) (v:Value) (ri fi:List It) (X:Nat→Nat→Prop) (posB:Nat→Nat→Nat):Prop where
 rel:bB F A w0 φ3 st3 tm w'
 β:φ3.β=φ.β
 res:aaN w' X gS.res r v ri
 item: ∀(i:Nat) (it:It),(ri++fi)[i]?=some it→aB w' φ3.I it.1 (X i) it.2.1 it.2.2
 apart: ∀(i j k:Nat),i<(ri++fi).length→j<(ri++fi).length→X i k→X j k→i=j
 free: ∀(i k:Nat),i<ri.length→X i k→xz F w0 w' φ3 st3 k
 box: ∀b ms ts,(b,ms,ts)∈B→DY b=true∧(φ.β b).spot=none∧(∀cs,az b st3.bx≠some cs)∧xz F w0 w' φ3 st3 (φ.β b).block∧(∀i,i<(ri++fi).length→ ¬X i (φ.β b).block)∧
  (∀b' ms' ts',(b',ms',ts')∈B→b'≠b→(φ.β b').block≠(φ.β b).block)∧
  ∃us:List Value,us.length=ts.length∧(∀(j:Nat) (u:Value),us[j]?=some u→w'.cell? ((φ.β b).add j)=some u∧u.cells= #[u]∧w'.frozen? ((φ.β b).add j)=false)∧
   ∀(j:Nat) (c:TC),ts[j]?=some c→ ∃u,us[j]?=some u∧(ri++fi)[posB b j]?=some (mAt ms j,c,u)∧ri.length≤posB b j∧ ∀k,X (posB b j) k→xz F w0 w' φ3 st3 k
 posI: ∀b ms ts b' ms' ts' j j',(b,ms,ts)∈B→(b',ms',ts')∈B→j<ts.length→j'<ts'.length→posB b j=posB b' j'→b=b'∧j=j'
 ndB:B.Pairwise fun x y=>x.1≠y.1
end Go.T
namespace Go.T
variable {F : Nat → Prop} {A : Arg} {w0 w w' : World} {φ φ' : Fp} {st st' sta fG sF : TS} {tm LS : Array Value} {C : pO}
variable {R : Type} {cf : Cf} {lp : Lp} {Q : R → Prop}
def V7 (sh:Bool) (st:TS) (ps:List ct) (es:List TE):List Nat:=match sh with
 |true=>kG st ps es++borrowed st ps es
 |false=>kG st ps es
theorem aov (h:bB F A w0 φ st tm w) (sh:Bool) (ps:List ct) (es:List TE): ∃φ2,bB F A w0 φ2 (Je sh st ps es) tm w∧φ2.β=φ.β∧φ2.V=φ.V∧φ2.S=φ.S∧(∀k,φ.I k→φ2.I k)∧
 (∀k,φ2.I k→φ.I k∨(sh=true∧ ∃o∈borrowed st ps es,aT st.ob o∧φ.S o k))∧(sh=true→ ∀o∈borrowed st ps es,o∉kG st ps es→aT st.ob o→ ∀k,φ.S o k→φ2.I k)∧DD st (Je sh st ps es) (V7 sh st ps es) (rU st ps es):=by
 obtain⟨h1,l1⟩:=adQ (uJ:=st) ps es st h
 cases sh with
 |false=>exact⟨φ,h1,rfl,rfl,rfl,fun _ h=>h,fun _ h=> .inl h,fun e=>(by cases e),l1⟩
 |true=>
  obtain⟨φ2,h2,a1,a2,a3,a4,a5⟩:=NN (borrowed st ps es) _ _ h1
  have dom1: ∀o,aT (yq st ps es st).ob o↔o∉kG st ps es∧aT st.ob o:=fun o=>by
   unfold aT;rw[l1.ob]
   by_cases ho:o∈kG st ps es
   ·simp[ho]
   ·simp[ho]
  refine⟨φ2,h2,a1,a2,a3,fun k hk=>(a4 k).2 (.inl hk),fun k hk=>((a4 k).1 hk).imp id fun⟨o,o1,o2,o3⟩=>⟨rfl,o,o1,((dom1 o).1 o2).2,o3⟩,fun _ o o1 o2 o3 k hk=>(a4 k).2 (.inr ⟨o,o1,(dom1 o).2 ⟨o2,o3⟩,hk⟩),?_⟩;have:=l1.trans a5;exact(by simpa using this:DD st (D7 (yq st ps es st) (borrowed st ps es)) (kG st ps es++borrowed st ps es) (rU st ps es))
theorem ahS (h:bB F A w0 φ st tm w) {gS:Sig} {es:List TE} {own qk:List Nat} {xs:List Value} (hgi:Fu st gS.ps es=some (own,qk)) (hn:LW own=true) (hm:zo own qk=false) (h0:(gS.shares&&pE 0 qk)=false)
 (RO: ∀(i:Nat) (e:TE),es[i]?=some e→ ∃x,xs[i]?=some x∧dK st.ob w φ e x) {r:TV} {fs:List TV} {v:Value}
 (hp:RX (yx (XOf w φ st gS.ps es) (YOf φ gS.ps es)) (Ls gS.shares (Ju φ st qk) (Yt φ st qk)) w w' gS xs r fs v) {W:List (Nat×OB)} {B:List (Nat×List Mode×List TC)} (hpo:zG st gS.ps es fs=some (W,B)):
 ∃φ3 ri fi X posB,aqk F A w0 w' φ φ3 gS (yN W (Je gS.shares st gS.ps es)) tm B r v ri fi X posB:=by
 obtain⟨agD,I,X,ri,fi,hb,hri,hfi⟩:=hp;have g:=Eg hgi;have hnd:=L6.1 hn;have po:=As hpo;obtain⟨pos,fp⟩:=afT hfi;obtain⟨φ2,h2,fβ,fV,fS,fI1,fI2,fI3,lost⟩:=aov h gS.shares gS.ps es;have hsize:w.heap.size≤w'.heap.size:=agD.size
 have dom2: ∀{o},aT (Je gS.shares st gS.ps es).ob o→o∉V7 gS.shares st gS.ps es∧aT st.ob o:=fun {o} ⟨b,hb⟩=>by
  rw[lost.ob] at hb
  split at hb
  ·cases hb
  ·rename_i hn;exact⟨hn,b,hb⟩
 have goneSub: ∀{o},o∈kG st gS.ps es→o∈V7 gS.shares st gS.ps es:=fun {o} ho=>by
  unfold V7;cases gS.shares<;>simp[ho]
 have midSub: ∀{o},o∈V7 gS.shares st gS.ps es→o∈kG st gS.ps es∨o∈borrowed st gS.ps es:=fun {o} ho=>by
  unfold V7 at ho
  revert ho
  cases gS.shares with
  |true=>intro ho;exact List.mem_append.1 ho
  |false=>exact .inl
 have rdNot: ∀{o},2*o∈own→o∉borrowed st gS.ps es:=fun {o} ho hbr=>v7 hm ho ((Ar hgi).1 hbr)
 have wAlive: ∀{o b'},(o,b')∈W→2*o∈own∧o∉V7 gS.shares st gS.ps es:=fun {o b'} hw=>by
  obtain⟨i,j,_,e',ag,cs,f,c,a,hk,_⟩:=x8 po hw;have ho:=g.key a hk;refine⟨ho,fun hmid=> ?_⟩;rcases midSub hmid with hg|hbr
  ·obtain⟨i2,j2,p2,e2,e2',a2,hk2,Du⟩:=V6 g hg
   obtain⟨_,_,e1,e3,_⟩:=g.V5 hnd a a2 hk hk2;subst e1 e3;rcases Du with e1|⟨_,b,off,e1⟩<;>cases e1
  ·exact rdNot ho hbr
 have notW: ∀{o},az o W=none→ ∀b',(o,b')∉W:=fun {o} h=>yP h
 have cfX: ∀{k o},yx (XOf w φ st gS.ps es) (YOf φ gS.ps es) k→aT st.ob o→φ.S o k→ ∃i j p e e',AtP st gS.ps es i j p e e'∧nO e'=some o∧zw w φ st e' k:=fun {k o} hk hd hS=>by
  rcases hk with⟨i,j,hx⟩|⟨i,hy⟩
  ·obtain⟨p,e,e',o',l,x1,x2,x3,x4,x5,x6,x7,_⟩:=NM h g RO hx
   have:=h.sep.apart o o' k hd x6 hS x7;subst this;obtain⟨p',e2,y1,y2,y3,y4⟩:=hx;rw[x2] at y2;cases y2;rw[List.getD,x4] at y4;exact⟨i,j,p,e,e',⟨x1,x2,x3,x4⟩,x5,y4⟩
  ·obtain⟨p,b,y1,y2,y3,rfl⟩:=hy
   obtain⟨l,ok,_⟩:=g.ow i p _ y1 y2 y3;obtain⟨_,_,_,_,RQ,_⟩:=ok.bx b 0 rfl;exact(h.rT hd hS RQ rfl).elim
 have cfOwn: ∀{k},yx (XOf w φ st gS.ps es) (YOf φ gS.ps es) k→(∃o,2*o∈own∧aT st.ob o∧φ.S o k)∨ ∃(i b:Nat) (ms:List Mode) (cs:List CE),gS.ps[i]?=some (ct.inout ms)∧es[i]?=some (TE.bp b 0)∧DY b=true∧az b st.bx=some cs∧2*b+1∈own∧k=(φ.β b).block:=fun {k} hk=>by
  rcases hk with⟨i,j,hx⟩|⟨i,hy⟩
  ·obtain⟨p,e,e',o',l,x1,x2,x3,x4,x5,x6,x7,_,_,x10⟩:=NM h g RO hx
   exact .inl ⟨o',x10,x6,x7⟩
  ·obtain⟨p,b,y1,y2,y3,rfl⟩:=hy
   obtain⟨l,ok,hl,_⟩:=g.ow i p _ y1 y2 y3;obtain⟨_,hc,hw,Yh,RQ,_⟩:=ok.bx b 0 rfl
   obtain⟨ms,rfl⟩: ∃ms,p= .inout ms:=by cases p with
    |borrow=>exact absurd rfl y3
    |inout ms=>exact⟨ms,rfl⟩
    |consume=>cases hc
   exact .inr ⟨i,b,ms,_,y1,y2,hw,RQ,hl _ Yh,rfl⟩
 have hβ: ∀b,φ2.β b=φ.β b:=fun b=>by rw[fβ]
 have cfFree: ∀{k},yx (XOf w φ st gS.ps es) (YOf φ gS.ps es) k→k<w.heap.size∧(w0.heap.size≤k∨F k)∧ ¬φ2.I k∧(∀d,aT (Je gS.shares st gS.ps es).ob d→az d W=none→ ¬φ.S d k)∧ ∀b cs,az b (Je gS.shares st gS.ps es).bx=some cs→(φ.β b).block≠k:=fun {k} hk=>by
  rcases cfOwn hk with⟨o,ho,hd,hS⟩|⟨i,b,msb,cs,h1,h3,hw,RQ,hbo,rfl⟩
  ·refine⟨(h.sep.fresh o k hd hS).1,(h.sep.fresh o k hd hS).2,fun hI=> ?_,fun d hd' hnW rY=> ?_,fun b cs hb'=> ?_⟩
   ·rcases fI2 k hI with hI|⟨_,o',o1,o2,o3⟩
    ·exact h.sep.read o k hd hS hI
    ·have:=h.sep.apart o o' k hd o2 hS o3
     subst this;exact rdNot ho o1
   ·obtain⟨d1,d2⟩:=dom2 hd'
    have:=h.sep.apart o d k hd d2 hS rY;subst this;rcases ahR g po ho with hg|⟨b',hw⟩
    ·exact d1 (goneSub hg)
    ·exact notW hnW b' hw
   ·obtain⟨_,cs0,c0,_⟩:=lost.bx b cs hb'
    exact h.rT hd hS c0
  ·obtain⟨x1,x2,x3,x4⟩:=h.sep.box b cs RQ hw
   refine⟨(h.sep.spot b cs RQ).2.1,x3,fun hI=> ?_,fun d hd' _ rY=>x2 d (dom2 hd').2 rY,fun b' cs' hb' e=> ?_⟩
   ·rcases fI2 _ hI with hI|⟨_,o',o1,o2,o3⟩
    ·exact x1 hI
    ·exact x2 o' o2 o3
   ·obtain⟨hng,cs0,c0,_⟩:=lost.bx b' cs' hb'
    by_cases Yi:b'=b
    ·subst Yi;exact hng (L7.2 ⟨i,_,0,cs,h1,h3,RQ⟩)
    ·exact x4 b' cs0 c0 Yi e
 have hI: ∀{k},I k→φ2.I k∨w.heap.size≤k∨yx (XOf w φ st gS.ps es) (YOf φ gS.ps es) k:=fun {k} hk=>by
  rcases (hb.ro k hk).2 with h1|h1|⟨hsh,h1⟩
  ·exact .inr (.inl h1)
  ·exact .inr (.inr h1)
  ·left
   rcases h1 with h1|⟨o,o1,o2,o3⟩
   ·exact fI1 k h1
   ·have ho0:o≠0:=fun e=>by
     subst e;rw[hsh] at h0;simp only[dx] at h0;exact fP.1 h0 o1
    have hd:=o2.resolve_left ho0;have hbr:=(Ar hgi).2 o1;refine fI3 hsh o hbr (fun hg=> ?_) hd k o3;obtain⟨i2,j2,p2,e2,e2',a2,hk2,_⟩:=V6 g hg;exact rdNot (g.key a2 hk2) hbr
 have itemFree: ∀{i k},i<(ri++fi).length→X i k→k<w'.heap.size∧(w0.heap.size≤k∨F k)∧ ¬φ2.I k∧ ¬I k∧(∀d,aT (Je gS.shares st gS.ps es).ob d→az d W=none→ ¬φ.S d k)∧ ∀b cs,az b (Je gS.shares st gS.ps es).bx=some cs→(φ.β b).block≠k:=fun {i k} hi hk=>by
  obtain⟨r1,r2,r3⟩:=hb.rng i k hi hk;rcases r2 with r2|r2
  ·refine⟨r1,.inl (uL h.frm.size r2),fun hI=> ?_,r3,fun d hd _ hS=> ?_,fun b cs hb' e=> ?_⟩
   ·have:=(h2.sep.ro k hI).1;omega
   ·have:=(h.sep.fresh d k (dom2 hd).2 hS).1;omega
   ·obtain⟨_,cs0,c0,_⟩:=lost.bx b cs hb'
    have:=(h.sep.spot b cs0 c0).2.1;rw[e] at this;omega
  ·obtain⟨c1,c2,c3,c4,c5⟩:=cfFree r2
   exact⟨r1,c2,c3,r3,c4,c5⟩
 let X':Nat→Nat→Prop:=fun o k=> ∃(i j:Nat) (p:ct) (e:TE) (e':CE),AtP st gS.ps es i j p e e'∧nO e'=some o∧((φ.S o k∧ ¬zw w φ st e' k)∨X (ri.length+pos i j) k)
 have hX': ∀{o i j p e e'},AtP st gS.ps es i j p e e'→nO e'=some o→X' o=fun k=>(φ.S o k∧ ¬zw w φ st e' k)∨X (ri.length+pos i j) k:=fun {o i j p e e'} a hk=>by
  funext k
  refine propext ⟨?_,fun hx=>⟨i,j,p,e,e',a,hk,hx⟩⟩;rintro⟨i2,j2,p2,e2,e2',a2,hk2,hx⟩;obtain⟨rfl,rfl,rfl,rfl,rfl⟩:=g.V5 hnd a a2 hk hk2;exact hx
 have posLt: ∀{o b'},(o,b')∈W→ ∀{i j p e e'},AtP st gS.ps es i j p e e'→nO e'=some o→ri.length+pos i j<(ri++fi).length:=fun {o b'} hw {i j p e e'} a hk=>by
  obtain⟨i2,j2,_,e2',ag,cs,f,c,a2,hk2,hf,hc,_⟩:=x8 po hw;obtain⟨rfl,rfl,rfl,rfl,rfl⟩:=g.V5 hnd a a2 hk hk2;have:=fp.lt i f j hf (List.getElem?_eq_some_iff.1 hc).1;rw[cF];omega
 have posNe: ∀{o1 b1 o2 b2},(o1,b1)∈W→(o2,b2)∈W→ ∀{i j p e e' i2 j2 p2 e2 e2'},AtP st gS.ps es i j p e e'→nO e'=some o1→AtP st gS.ps es i2 j2 p2 e2 e2'→nO e2'=some o2→ri.length+pos i j=ri.length+pos i2 j2→o1=o2:=fun {o1 b1 o2 b2} hw1 Yk {i j p e e' i2 j2 p2 e2 e2'} a hk a2 hk2 heq=>by
  obtain⟨i3,j3,_,e3',ag,cs,f,c,a3,hk3,hf,hc,_⟩:=x8 po hw1;obtain⟨rfl,rfl,rfl,rfl,rfl⟩:=g.V5 hnd a a3 hk hk3;obtain⟨i4,j4,_,e4',ag4,cs4,f4,c4,a4,hk4,hf4,hc4,_⟩:=x8 po Yk;obtain⟨rfl,rfl,rfl,rfl,rfl⟩:=g.V5 hnd a2 a4 hk2 hk4;obtain⟨rfl,rfl⟩:=fp.inj i i2 f f4 j j2 hf (List.getElem?_eq_some_iff.1 hc).1 hf4 (List.getElem?_eq_some_iff.1 hc4).1 ay;have e1:=a.hc;have e2:=a2.he;rw[a.he] at e2;cases e2;have e3:=a2.hc
  rw[e1] at e3;cases e3;rw[hk] at hk2;cases hk2
  rfl
 have frm':Ns F w0 w':=by
  refine⟨agD.os.trans h.frm.os,agD.tape.trans h.frm.tape,agD.output.trans h.frm.output,uL h.frm.size hsize,fun k hk hF=> ?_⟩
  rw[agD.block k (lY hk h.frm.size) fun hc=>by
   rcases (cfFree hc).2.1 with h3|h3
   ·omega
   ·exact hF h3]
  exact h.frm.block k hk hF
 have R3:=h2.wrote (w':=w') W X' I (yx (XOf w φ st gS.ps es) (YOf φ gS.ps es)) frm' hsize (fun k hk hn=>agD.block k hk hn) (fun k hk=>(cfFree hk).2.1) (fun k hk=>(cfFree hk).2.2.1)
  (fun k o hk ho hnW hS=>by rw[fS] at hS;exact(cfFree hk).2.2.2.1 o ho hnW hS) (fun b cs hb' hk=>by rw[hβ] at hk;exact(cfFree hk).2.2.2.2 b cs hb' rfl)
  (fun o b' Br=>by
    have hw:=lH Br;obtain⟨i,j,_,e',ag,cs,f,c,a,hkey,hf,hc,hgv,hform⟩:=x8 po hw;obtain⟨hown,hnm⟩:=wAlive hw;obtain⟨msF,apH,x,hx,hfa⟩:=fp.at' i f hf;obtain⟨x',hx',htx⟩:=RO i _ a.he;rw[hx] at hx';cases hx'
    obtain⟨u,hu,hce⟩: ∃u,fi[pos i j]?=some (.deep,c,u)∧eP st.ob w φ e' u:=by
     rcases hform with⟨rfl,rfl,rfl,rfl⟩|⟨ts,rfl,rfl⟩
     ·obtain⟨c0,e0,htx⟩:=htx
      cases e0
      obtain⟨e1,e2,_,h3⟩:=htx
      cases e2
      exact⟨x,hfa,h3⟩
     ·obtain⟨ys,rfl,_,hys⟩:=hfa
      obtain⟨c0,e0,htx⟩:=htx
      cases e0
      obtain⟨zs,e1,_,h3⟩:=htx
      cases e1
      obtain⟨u,u1,u2⟩:=hys j c hc;obtain⟨u',u3,_,u4⟩:=h3 j e' a.hc;rw[u1] at u3;cases u3;exact⟨u,u2,u4⟩
    have hidx:(ri++fi)[ri.length+pos i j]?=some (.deep,c,u):=by rw[pK ay,Nat.add_sub_cancel_left];exact hu
    have ahA:=hb.ok _ _ hidx;simp only at ahA;have hlt:=posLt hw a hkey;rw[hX' a hkey]
    obtain⟨b0,hb0,asA,hz,hlen,hcell⟩: ∃b0,az o st.ob=some b0∧b'.deep=true∧b'.z=b0.z∧b'.rows.length=b0.rows.length∧aB w' (fun k=>φ2.I k∨I k) .deep (fun k=>(φ.S o k∧ ¬zw w φ st e' k)∨X (ri.length+pos i j) k) (.sub b'.z b'.rows) (φ.V o):=by
     unfold xH at hgv
     split at hgv
     ·cases hkey
     ·cases hkey
     ·rename_i o' z rows
      cases hkey
      split at hgv
      ·rename_i z0 uB LU
       split at hgv
       ·rename_i Ng
        have Ng:=kf Ng;subst Ng;simp only[aY,List.cons.injEq,BC,and_true,true_and] at hgv;subst hgv;obtain⟨b1,g1,g2⟩:=hce;have g2:u=φ.V o:=g2;subst g2
        have aq4:rows.length=uB.length:=by
         have hO:=h.obj o _ LU;unfold rS at hO;obtain⟨A1,c1,e1,_⟩:=aB.len ahA;obtain⟨A2,c2,e2,_⟩:=aB.len hO;rw[e1] at e2
         injection e2 with _ e3 _
        exact⟨_,LU,rfl,rfl,aq4,(ahA.Jp rfl).mono fun k hk=> .inr hk⟩
       ·cases hgv
      ·cases hgv
     ·rename_i ds o' i0 f0 z0 uB z' bH
      cases hkey
      split at hgv
      ·rename_i z rows LU Ng
       have Ng:=kf Ng;subst Ng;simp only[aY,List.cons.injEq,BC,and_true,true_and] at hgv;subst hgv;obtain⟨_,_,h3⟩:=hce;obtain⟨_,b1,g1,g2,g3,ad,n,c',g4,g5⟩:=h3 o i0 f0 rfl;rw[LU] at g1;cases g1;obtain⟨_,q2,q3⟩:=PB h o i0 f0 _ ad n c' _ u LU rfl g4 g3 g5
       have hcl:=q3 w' (.sub z' bH) (fun k=>φ2.I k∨I k) (X (ri.length+pos i j)) (ahA.Jp rfl) (fun k hk hn'=>agD.block k (h.sep.fresh o k ⟨_,LU⟩ hk).1 fun Lk=>by
        obtain⟨i2,j2,p2,e2,e2',a2,hk2,hp2⟩:=cfX Lk ⟨_,LU⟩ hk;obtain⟨_,_,_,_,e5⟩:=g.V5 hnd a a2 rfl hk2;subst e5
        exact hn' hp2)
        (fun k hk=>by
          rcases (hb.rng _ k hlt hk).2.1 with r2|r2
          ·right;intro hS;have:=(h.sep.fresh o k ⟨_,LU⟩ hS).1;omega
          ·by_cases hS:φ.S o k
           ·left
            obtain⟨i2,j2,p2,e2,e2',a2,hk2,hp2⟩:=cfX r2 ⟨_,LU⟩ hS;obtain⟨_,_,_,_,e5⟩:=g.V5 hnd a a2 rfl hk2;subst e5;exact hp2
           ·exact .inr hS)
       refine⟨_,LU,rfl,rfl,by simp only[xO,nw],?_⟩;simp only[xO];exact hcl
      ·cases hgv
     ·cases hgv
    have hd0:aT st.ob o:=⟨b0,hb0⟩
    have D0:az o (Je gS.shares st gS.ps es).ob=some b0:=by rw[lost.ob,aF hnm];exact hb0
    refine⟨b0,D0,hz,hlen,?_,fun k hk=> ?_⟩
    ·rw[fV]
     have:b'.m= .deep:=by unfold OB.m;rw[asA];rfl
     rw[this];exact hcell
    ·
     have ofS:φ.S o k→ ¬zw w φ st e' k→ ¬I k∧ ¬yx (XOf w φ st gS.ps es) (YOf φ gS.ps es) k:=fun hS hnp=>by
      have aq5: ¬yx (XOf w φ st gS.ps es) (YOf φ gS.ps es) k:=fun Lk=>by
       obtain⟨i2,j2,p2,e2,e2',a2,hk2,hp2⟩:=cfX Lk hd0 hS;obtain⟨_,_,_,_,e5⟩:=g.V5 hnd a a2 hkey hk2;subst e5;exact hnp hp2
      refine⟨fun hIk=> ?_,aq5⟩;rcases hI hIk with h3|h3|h3
      ·exact h2.sep.read o k ⟨_,D0⟩ (by rw[fS];exact hS) h3
      ·have:=(h.sep.fresh o k hd0 hS).1;omega
      ·exact aq5 h3
     have noS: ∀{d b1},az d W=some b1→X' d k→d=o:=fun {d b1} hld hxd=>by
      have zz:=lH hld;obtain⟨i2,j2,_,e2',ag2,cs2,f2,c2,a2,hk2,_⟩:=x8 po zz;rw[hX' a2 hk2] at hxd
      have hdd:aT st.ob d:=by
       have:=(wAlive zz).1;obtain⟨x2,hx2,ht2⟩:=RO i2 _ a2.he;obtain⟨u2,hu2⟩:=FE h ht2 a2.hc;obtain⟨l,ok,_⟩:=g.ow i2 _ _ a2.hp a2.he a2.hb;obtain⟨⟨cb,_,hoc,_⟩,_⟩:=ok.one j2 e2' a2.hc;have hoc:=hoc.key hk2
       cases e2' with
       |ref o1 cut=>cases hk2;obtain⟨b2,g1,_⟩:=hu2;exact⟨b2,g1⟩
       |snap ds loc z rows=>cases loc with
        |none=>cases hk2
        |some q=>obtain⟨o1,i1,f1⟩:=q;cases hk2;obtain⟨_,_,RP⟩:=Js hoc.2;exact⟨_,RP⟩
       |_=>cases hk2
      rcases hxd with⟨s1,s2⟩|s1
      ·rcases hk with⟨t1,t2⟩|t1
       ·exact h.sep.apart d o k hdd hd0 s1 t1
       ·
        exfalso
        rcases (hb.rng _ k hlt t1).2.1 with r2|r2
        ·have:=(h.sep.fresh d k hdd s1).1;omega
        ·obtain⟨i3,j3,p3,e3,e3',a3,hk3,hp3⟩:=cfX r2 hdd s1
         obtain⟨_,_,_,_,e5⟩:=g.V5 hnd a2 a3 hk2 hk3;subst e5;exact s2 hp3
      ·rcases hk with⟨t1,t2⟩|t1
       ·exfalso
        rcases (hb.rng _ k (posLt zz a2 hk2) s1).2.1 with r2|r2
        ·have:=(h.sep.fresh o k hd0 t1).1;omega
        ·exact(ofS t1 t2).2 r2
       ·exact posNe zz hw a2 hk2 a hkey (hb.apart _ _ k (posLt zz a2 hk2) hlt s1 t1)
     rcases hk with⟨t1,t2⟩|t1
     ·refine⟨lY (h.sep.fresh o k hd0 t1).1 hsize,(h.sep.fresh o k hd0 t1).2,h2.sep.read o k ⟨_,D0⟩ (by rw[fS];exact t1),(ofS t1 t2).1,fun d hd hnW hS=> ?_,fun d b1 hld hxd=>noS hld hxd,fun b cs hb' _=> ?_⟩
      ·rw[fS] at hS
       have:=h.sep.apart d o k (dom2 hd).2 hd0 hS t1;subst this;rw[Br] at hnW;cases hnW
      ·obtain⟨_,cs0,c0,_⟩:=lost.bx b cs hb'
       rw[hβ];exact h.rT hd0 t1 c0
     ·obtain⟨q1,q2,q3,q4,q5,q6⟩:=itemFree hlt t1
      exact⟨q1,q2,q3,q4,fun d hd hnW hS=>q5 d hd hnW (by rw[fS] at hS;exact hS),fun d b1 hld hxd=>noS hld hxd,fun b cs hb' _=>by rw[hβ];exact q6 b cs hb'⟩)
  (fun k hk=>by
    rcases hI hk with h3|h3|h3
    ·refine⟨(hb.ro k hk).1,(h2.sep.ro k h3).2,fun d hd _=>fun hS=>h2.sep.read d k hd hS h3,fun b cs hb' Lj e=> ?_⟩
     exact(h2.sep.box b cs hb' Lj).1 (by rw[e];exact h3)
    ·refine⟨(hb.ro k hk).1,.inl (uL h.frm.size h3),fun d hd _ hS=> ?_,fun b cs hb' _ e=> ?_⟩
     ·have:=(h2.sep.fresh d k hd hS).1;omega
     ·have:=(h2.sep.spot b cs hb').2.1;rw[e] at this;omega
    ·obtain⟨c1,c2,c3,c4,c5⟩:=cfFree h3
     exact⟨(hb.ro k hk).1,c2.elim .inl fun hF=> .inr (.inl hF),fun d hd hnW hS=>c4 d hd hnW (by rw[fS] at hS;exact hS),fun b cs hb' _=>by rw[hβ];exact c5 b cs hb'⟩)
 have dom3: ∀{o},aT (yN W (Je gS.shares st gS.ps es)).ob o→aT (Je gS.shares st gS.ps es).ob o:=fun {o} hd=>by
  cases W with
  |nil=>exact hd
  |cons a q=>
   obtain⟨b,hb'⟩:=hd;have hb':az o (nt (a::q) (Je gS.shares st gS.ps es).ob)=some b:=hb';rw[wL] at hb'
   cases hl:az o (a::q) with
   |none=>rw[hl] at hb';exact⟨b,hb'⟩
   |some b1=>
    have hw:=lH hl;obtain⟨hown,hnm⟩:=wAlive hw;obtain⟨i,j,_,e',ag,cs,f,c,a',hkey,_⟩:=x8 po hw;obtain⟨x2,hx2,ht2⟩:=RO i _ a'.he;obtain⟨u2,hu2⟩:=FE h ht2 a'.hc;obtain⟨l,ok,_⟩:=g.ow i _ _ a'.hp a'.he a'.hb;obtain⟨⟨cb,_,hoc,_⟩,_⟩:=ok.one j e' a'.hc;have hoc:=hoc.key hkey
    have hd0:aT st.ob o:=by
     cases e' with
     |ref o1 cut=>cases hkey;obtain⟨b2,g1,_⟩:=hu2;exact⟨b2,g1⟩
     |snap ds loc z rows=>cases loc with
      |none=>cases hkey
      |some q=>obtain⟨o1,i1,f1⟩:=q;cases hkey;obtain⟨_,_,RP⟩:=Js hoc.2;exact⟨_,RP⟩
     |_=>cases hkey
    obtain⟨b0,hb0⟩:=hd0;exact⟨b0,by rw[lost.ob,aF hnm];exact hb0⟩
 have bx3: ∀{b cs},az b (yN W (Je gS.shares st gS.ps es)).bx=some cs→ ∃cs0,az b (Je gS.shares st gS.ps es).bx=some cs0:=fun {b cs} hb'=>by
  cases W with
  |nil=>exact⟨cs,hb'⟩
  |cons a q=>obtain⟨cs0,c0,_⟩:=jE _ b cs hb';exact⟨cs0,c0⟩
 have R3S: ∀{o k},aT (yN W (Je gS.shares st gS.ps es)).ob o→(φ2.wr W X' I).S o k→(az o W=none∧φ.S o k)∨ ∃b',(o,b')∈W∧X' o k:=fun {o k} _ hS=>by
  cases hl:az o W with
  |none=>rw[Yq hl,fS] at hS;exact .inl ⟨rfl,hS⟩
  |some b'=>rw[adL hl] at hS;exact .inr ⟨b',lH hl,hS⟩
 have freeOf: ∀{n k},n<(ri++fi).length→(∀o b',(o,b')∈W→ ∀i j p e e',AtP st gS.ps es i j p e e'→nO e'=some o→ri.length+pos i j≠n)→X n k→xz F w0 w' (φ2.wr W X' I) (yN W (Je gS.shares st gS.ps es)) k:=fun {n k} hlt hne hx=>by
  obtain⟨q1,q2,q3,q4,q5,q6⟩:=itemFree hlt hx;refine⟨q1,q2,fun hi=>hi.elim q3 q4,fun o hd hS=> ?_,fun b cs hb'=> ?_⟩
  ·rcases R3S hd hS with⟨hnW,hS⟩|⟨b',hw,hx'⟩
   ·exact q5 o (dom3 hd) hnW hS
   ·obtain⟨i,j,_,e',ag,cs,f,c,a,hkey,_⟩:=x8 po hw
    rw[hX' a hkey] at hx';rcases hx' with⟨s1,s2⟩|s1
    ·obtain⟨_,hd1⟩:=dom2 (dom3 hd)
     rcases (hb.rng n k hlt hx).2.1 with r2|r2
     ·have:=(h.sep.fresh o k hd1 s1).1;omega
     ·obtain⟨i2,j2,p2,e2,e2',a2,hk2,hp2⟩:=cfX r2 hd1 s1
      obtain⟨_,_,_,_,e5⟩:=g.V5 hnd a a2 hkey hk2;subst e5;exact s2 hp2
    ·exact hne o b' hw i j _ _ e' a hkey (hb.apart _ _ k (posLt hw a hkey) hlt s1 hx)
  ·obtain⟨cs0,c0⟩:=bx3 hb'
   show(φ2.β b).block≠k;rw[hβ];exact q6 b cs0 c0
 have uniqI: ∀(i i' b:Nat) (ms ms':List Mode),gS.ps[i]?=some (.inout ms)→gS.ps[i']?=some (.inout ms')→es[i]?=some (.bp b 0)→es[i']?=some (.bp b 0)→i=i':=fun i i' b ms ms' h1 h2' h3 h4=>by
  obtain⟨l,ok,_,_,LU⟩:=g.ow i _ _ h1 h3 cW;obtain⟨l2,ok2,_,_,apG⟩:=g.ow i' _ _ h2' h4 cW;exact g.uniq hnd i i' _ _ _ _ l l2 (2*b+1) h1 h2' h3 h4 cW cW LU apG (ok.bx b 0 rfl).2.2.2.1 (ok2.bx b 0 rfl).2.2.2.1
 let iOf:Nat→Nat:=fun b=>Classical.epsilon fun i=>(∃ms,gS.ps[i]?=some (.inout ms))∧es[i]?=some (.bp b 0)
 have apJ: ∀{i b ms},gS.ps[i]?=some (.inout ms)→es[i]?=some (.bp b 0)→iOf b=i:=fun {i b ms} h1 h3=>by
  have:=Classical.epsilon_spec (p:=fun i=>(∃ms,gS.ps[i]?=some (ct.inout ms))∧es[i]?=some (TE.bp b 0)) ⟨i,⟨ms,h1⟩,h3⟩;obtain⟨⟨ms',h1'⟩,h3'⟩:=this;exact uniqI _ _ b _ _ h1' h1 h3' h3
 refine⟨φ2.wr W X' I,ri,fi,X,fun b j=>ri.length+pos (iOf b) j,⟨R3,fβ,hri,fun i it hi=>(hb.ok i it hi).sP fun k hk=> .inr hk,hb.apart,fun i k hi hk=>freeOf (by rw[cF];omega) (fun o b' hw i' j' p e e' a hkey hne=>by omega) hk,fun b ms ts hbm=> ?_,fun b ms ts b' ms' ts' j j' hb1 hb2 hj hj' he=> ?_,po.ndB uniqI⟩⟩
 ·obtain⟨i,cs,g1,g2,g3,g4,g5⟩:=po.memB b ms ts hbm
  obtain⟨msF,apH,x,hx,hfa⟩:=fp.at' i _ g3;rw[g1] at apH
  cases apH
  obtain⟨x',hx',htx⟩:=RO i _ g2;rw[hx] at hx';cases hx';have htx:x= .pointer (some ((φ.β b).add 0)):=htx;rw[Addr.add_zero'] at htx;obtain⟨ad,us,e1,e2,⟨nb1,nb2⟩,e4,e5⟩:=hfa;rw[htx] at e1
  cases e1
  obtain⟨l,ok,hl,_⟩:=g.ow i _ _ g1 g2 cW;obtain⟨_,_,Lj,Yh,_,_⟩:=ok.bx b 0 rfl;have Lk:yx (XOf w φ st gS.ps es) (YOf φ gS.ps es) (φ.β b).block:= .inr ⟨i,_,b,g1,g2,by simp,rfl⟩;obtain⟨c1,c2,c3,c4,c5⟩:=cfFree Lk;refine⟨Lj,(h.sep.spot b cs g4).1 Lj,fun cs' hb'=> ?_,⟨lY c1 hsize,c2,fun hi=>hi.elim c3 nb1,fun o hd hS=> ?_,fun b' cs' hb'=> ?_⟩,nb2,fun b' ms' ts' hb' hne=> ?_,us,e2,e4,fun j c hj=> ?_⟩
  ·obtain⟨cs0,c0⟩:=bx3 hb'
   exact(lost.bx b cs0 c0).1 (L7.2 ⟨i,_,0,cs,g1,g2,g4⟩)
  ·rcases R3S hd hS with⟨hnW,hS⟩|⟨b',hw,hx'⟩
   ·exact c4 o (dom3 hd) hnW hS
   ·obtain⟨i',j',_,e',ag,cs',f,c,a,hkey,_⟩:=x8 po hw
    rw[hX' a hkey] at hx';rcases hx' with⟨s1,s2⟩|s1
    ·exact h.rT (dom2 (dom3 hd)).2 s1 g4 rfl
    ·exact nb2 _ (posLt hw a hkey) s1
  ·obtain⟨cs0,c0⟩:=bx3 hb'
   show(φ2.β b').block≠_;rw[hβ];exact c5 b' cs0 c0
  ·obtain⟨i',cs',k1,k2,k3,k4,k5⟩:=po.memB b' ms' ts' hb'
   exact(h.sep.box b cs g4 Lj).2.2.2 b' cs' k4 hne
  ·obtain⟨u,u1,u2⟩:=e5 j c hj
   have hi:=apJ g1 g2;simp only[hi];have hlt:=fp.lt i _ j g3 (List.getElem?_eq_some_iff.1 hj).1;refine⟨u,u1,by rw[pK ay,Nat.add_sub_cancel_left];exact u2,by omega,fun k hk=>freeOf (by rw[cF];omega) (fun o b' hw i' j' p e e' a hkey hne=> ?_) hk⟩;obtain⟨i2,j2,_,e2',ag,cs',f,c',a2,hk2,hf2,hc2,_⟩:=x8 po hw;obtain⟨rfl,rfl,rfl,rfl,rfl⟩:=g.V5 hnd a a2 hkey hk2;obtain⟨rfl,_⟩:=fp.inj i' i f _ j' j hf2 (List.getElem?_eq_some_iff.1 hc2).1 g3 (List.getElem?_eq_some_iff.1 hj).1 ay
   have:=a.he;rw[g2] at this
   cases this
 ·obtain⟨i,cs,g1,g2,g3,_⟩:=po.memB b ms ts hb1
  obtain⟨i',cs',g1',g2',g3',_⟩:=po.memB b' ms' ts' hb2;have he:ri.length+pos (iOf b) j=ri.length+pos (iOf b') j':=he;rw[apJ g1 g2,apJ g1' g2'] at he;obtain⟨rfl,rfl⟩:=fp.inj i i' _ _ j j' g3 hj g3' hj' ay;rw[g2] at g2'
  cases g2'
  exact⟨rfl,rfl⟩
end Go.T
namespace Go.T
variable {F : Nat → Prop} {A : Arg} {w0 w w' : World} {φ φ' φ1 : Fp} {st st' sta fG sF : TS} {tm LS : Array Value} {C : pO}
variable {R : Type} {cf : Cf} {lp : Lp} {Q : R → Prop}
theorem al7 {o:Nat} {b:OB} {X:Nat→Prop} {V:Value} (h0:o≠0) {e:CE} {v:Value} (h:eP st.ob w φ e v) (hd:o∉iM e):eP (Jb o b st).ob w (φ.add o X V) e v:=by
 have h1:=h.kill (o:=o)
 have h2:aaC o e=e:=by unfold aaC;rw[fP.2 hd]
 rw[h2] at h1;exact h1.add h0 (fun hd=>(rF.1 hd).1 rfl)
theorem xz.Jb {o k:Nat} {b:OB} {X:Nat→Prop} {V:Value} (h:xz F w0 w φ st k) (hX: ¬X k):xz F w0 w (φ.add o X V) (Jb o b st) k:=by
 refine⟨h.lt,h.new,h.I,fun d hd hk=> ?_,fun c cs hb=> ?_⟩
 ·by_cases he:d=o
  ·subst he
   have hk:(if d=d then X k else φ.S d k):=hk;rw[aI rfl] at hk;exact hX hk
  ·rw[zu he] at hk
   have hd:aT (rR o b (uM o st.ob)) d:=hd;rcases me.1 hd with e|hd
   ·exact he e
   ·exact h.S d (rF.1 hd).2 hk
 ·have hb:az c (mapA (List.map (aaC o)) st.bx)=some cs:=hb
  obtain⟨cs0,c0,_⟩:=jE _ c cs hb;exact h.B c cs0 c0
def FJ (st st':TS):Prop:= ∀b cs,az b st'.bx=some cs→ ∃cs0,az b st.bx=some cs0∧cs.length=cs0.length
theorem FJ.refl (st:TS):FJ st st:=fun b cs h=>⟨cs,h,rfl⟩
theorem FJ.trans {a b c:TS} (h:FJ a b) (k:FJ b c):FJ a c:=fun x cs hx=>by
 obtain⟨c1,a1,a2⟩:=k x cs hx;obtain⟨c0,b1,b2⟩:=h x c1 a1;exact⟨c0,b1,a2.trans b2⟩
theorem al8 {o:Nat} {b:OB}:FJ st (Jb o b st):=fun c cs hb=>jE _ c cs hb
structure Made (F:Nat→Prop) (A:Arg) (w0 w:World) (φ φ':Fp) (st st':TS) (tm:Array Value) (nums:Nat→Prop) (Xs:Nat→Prop):Prop where
 rel:bB F A w0 φ' st' tm w
 β:φ'.β=φ.β
 I:φ'.I=φ.I
 keep: ∀e v,eP st.ob w φ e v→(∀o∈iM e,¬nums o)→eP st'.ob w φ' e v
 free: ∀k,xz F w0 w φ st k→ ¬Xs k→xz F w0 w φ' st' k
 bx:FJ st st'
theorem Made.refl (h:bB F A w0 φ st tm w) {nums Xs:Nat→Prop}:Made F A w0 w φ φ st st tm nums Xs:=⟨h,rfl,rfl,fun e v h _=>h,fun k h _=>h,FJ.refl st⟩
theorem Made.trans {φ2:Fp} {n1 n2 X1 X2 nums Xs:Nat→Prop} (h:Made F A w0 w φ φ1 st fG tm n1 X1) (k:Made F A w0 w φ1 φ2 fG sF tm n2 X2) (hn: ∀o,n1 o∨n2 o→nums o) (hX: ∀x,X1 x∨X2 x→Xs x):Made F A w0 w φ φ2 st sF tm nums Xs:=
 ⟨k.rel,k.β.trans h.β,k.I.trans h.I,fun e v he hd=>k.keep e v (h.keep e v he fun o ho hc=>hd o ho (hn o (.inl hc))) fun o ho hc=>hd o ho (hn o (.inr hc)),
   fun x hf hx=>k.free x (h.free x hf fun hc=>hx (hX x (.inl hc))) fun hc=>hx (hX x (.inr hc)),h.bx.trans k.bx⟩
theorem tK {f:Nat→Nat} (hf0: ∀j,f j≠0) (hinj: ∀j j',f j=f j'→j=j'): ∀(cs:List TC) (ms:List Mode) (j:Nat) (st:TS) (φ:Fp) (vs:List Value) (X:Nat→Nat→Prop),bB F A w0 φ st tm w→vs.length=cs.length→
 (∀(n:Nat) (c:TC) (v:Value),cs[n]?=some c→vs[n]?=some v→aB w φ.I (ms.getD n .snap) (X n) c v)→(∀n k,n<cs.length→X n k→xz F w0 w φ st k)→(∀n n' k,n<cs.length→n'<cs.length→X n k→X n' k→n=n')→
 ∃φ',Made F A w0 w φ φ' st (cM f ms j cs st).2 tm (fun o=> ∃n,j≤n∧n<j+cs.length∧o=f n) (fun k=> ∃n,n<cs.length∧X n k)∧(cM f ms j cs st).1.length=cs.length∧
  ∀(n:Nat) (e:CE) (v:Value),(cM f ms j cs st).1[n]?=some e→vs[n]?=some v→eP (cM f ms j cs st).2.ob w φ' e v∧ ∀o∈iM e,∃n,j≤n∧n<j+cs.length∧o=f n
 |[],ms,j,st,φ,vs,X,h,hl,hc,hF,hd=>⟨φ,Made.refl h,rfl,fun n e v he=>by simp[cM] at he⟩
 |c::cs,ms,j,st,φ,vs,X,h,hl,hc,hF,hd=>by
  cases vs with
  |nil=>cases hl
  |cons v vs=>
   have h0:=hc 0 c v rfl rfl
   obtain⟨φ1,fG,e1,m1,he1,alp,hmk⟩: ∃φ1 fG e1,Made F A w0 w φ φ1 st fG tm (fun o=>o=f j) (X 0)∧eP fG.ob w φ1 e1 v∧(∀o∈iM e1,o=f j)∧cM f ms j (c::cs) st=(e1::(cM f (ms.drop 1) (j+1) cs fG).1,(cM f (ms.drop 1) (j+1) cs fG).2):=by
    cases c with
    |any=>exact⟨φ,st,.gone,Made.refl h,trivial,fun o ho=>(by cases ho),rfl⟩
    |sc x=>
     refine⟨φ,st,.sc x,Made.refl h,?_,fun o ho=>(by cases ho),rfl⟩
     cases h0 with|sc _ _ _ hs=>exact⟨rfl,hs⟩
    |sub z rows=>
     have mk: ∀dp,(ms.getD 0 .snap)=OB.m ⟨dp,z,rows⟩→ ∃φ1,Made F A w0 w φ φ1 st (Jb (f j) ⟨dp,z,rows⟩ st) tm (fun o=>o=f j) (X 0)∧eP (Jb (f j) ⟨dp,z,rows⟩ st).ob w φ1 (.ref (f j) none) v:=fun dp hm=>by
      rw[hm] at h0
      have hr:=h.Jb (o:=f j) (b:=⟨dp,z,rows⟩) (hf0 j) h0 (fun k hk=>⟨(hF 0 k cW hk).lt,(hF 0 k cW hk).new⟩) (fun k hk=>(hF 0 k cW hk).I) (fun k d hk _ hdm=>(hF 0 k cW hk).S d hdm)
       (fun b cs hb _ hk=>(hF 0 _ cW hk).B b cs hb rfl)
      refine⟨_,⟨hr,rfl,rfl,fun e v he hd=>al7 (hf0 j) he fun hm=>hd _ hm rfl,fun k hk hn=>hk.Jb hn,al8⟩,⟨dp,z,rows⟩,?_,?_⟩
      ·show az _ (rR _ _ _)=_
       exact pF
      ·show v=(if f j=f j then v else _)
       rw[aI rfl]
     have hhd:ms.headD .snap=ms.getD 0 .snap:=xL ms .snap
     cases hm:ms.headD .snap with
     |snap=>
      refine⟨φ,st,.snap [] none z rows,Made.refl h,⟨fun d hd=>(by cases hd),?_,fun o i f e=>(by cases e)⟩,fun o ho=>(by cases ho),?_⟩
      ·rw[←hhd,hm] at h0
       exact h0.ux fun k hk=> .inl hk
      ·simp only[cM,hm]
     |top=>
      obtain⟨φ1,m,hce⟩:=mk false (by rw[←hhd,hm];rfl);exact⟨φ1,_,_,m,hce,fun o ho=>by simpa [iM] using ho,by simp only[cM,hm]⟩
     |deep=>
      obtain⟨φ1,m,hce⟩:=mk true (by rw[←hhd,hm];rfl);exact⟨φ1,_,_,m,hce,fun o ho=>by simpa [iM] using ho,by simp only[cM,hm]⟩
   obtain⟨φ2,m2,l2,c2⟩:=tK hf0 hinj cs (ms.drop 1) (j+1) fG φ1 vs (fun n=>X (n+1)) m1.rel (by simpa using hl) (fun n c' v' hn hv=>by
    rw[m1.I,rG]
    exact hc (n+1) c' v' (by simpa using hn) (by simpa using hv)) (fun n k hn hk=>m1.free k (hF (n+1) k (by simpa using hn) hk) fun hx0=>by
    have:=hd 0 (n+1) k cW (by simpa using hn) hx0 hk
    omega) (fun n n' k hn hn' hk hk'=>by
    have:=hd (n+1) (n'+1) k (by simpa using hn) (by simpa using hn') hk hk'
    omega)
   rw[hmk];refine⟨φ2,m1.trans m2 (fun o ho=> ?_) (fun k hk=> ?_),by simp only[fW];rw[l2],fun n e v' hn hv=> ?_⟩
   ·rcases ho with ho|⟨n,n1,n2,n3⟩
    ·exact⟨j,cV _,by simp,ho⟩
    ·exact⟨n,by omega,by simp only[fW];omega,n3⟩
   ·rcases hk with hk|⟨n,n1,n2⟩
    ·exact⟨0,by simp,hk⟩
    ·exact⟨n+1,by simpa using n1,n2⟩
   ·cases n with
    |zero=>
     simp only[gE,aY] at hn hv;subst hn hv;refine⟨m2.keep _ _ he1 fun o ho ⟨n,n1,n2,n3⟩=> ?_,fun o ho=>⟨j,cV _,by simp,alp o ho⟩⟩;rw[alp o ho] at n3;have:=hinj _ _ n3;omega
    |succ n=>
     obtain⟨q1,q2⟩:=c2 n e v' (by simpa using hn) (by simpa using hv);refine⟨q1,fun o ho=> ?_⟩;obtain⟨n',n1,n2,n3⟩:=q2 o ho;exact⟨n',by omega,by simp only[fW];omega,n3⟩
theorem bB.arV (h:bB F A w0 φ st tm w) {b:Nat} {cs:List CE} (hw:DY b=true) (hs:(φ.β b).spot=none) (hf:xz F w0 w φ st (φ.β b).block)
 (hc: ∀(j:Nat) (e:CE),cs[j]?=some e→ ∃v,w.cell? ((φ.β b).add j)=some v∧v.cells= #[v]∧eP st.ob w φ e v) (hz: ∀j,j<cs.length→w.frozen? ((φ.β b).add j)=false):bB F A w0 φ (st.Pk b cs) tm w:=by
 have look: ∀{c cs'},az c (rR b cs st.bx)=some cs'→(c=b∧cs'=cs)∨(c≠b∧az c st.bx=some cs'):=fun {c cs'} hl=>by
  rw[gM] at hl
  split at hl
  ·cases hl;exact .inl ⟨by assumption,rfl⟩
  ·exact .inr ⟨by assumption,hl⟩
 refine⟨h.tmp,fun c cs' hl j e he=> ?_,h.obj,?_,h.frm⟩
 ·rcases look hl with⟨rfl,rfl⟩|⟨_,hl⟩
  ·exact hc j e he
  ·exact h.box c cs' hl j e he
 ·exact {
   arg:=h.sep.arg,nz:=h.sep.nz,apart:=h.sep.apart,read:=h.sep.read,fresh:=h.sep.fresh,ro:=h.sep.ro,qL:=h.sep.qL
   box:=fun c cs' hl hwc=>by
    rcases look hl with⟨rfl,rfl⟩|⟨hne,LU⟩
    ·refine⟨hf.I,hf.S,hf.new,fun c' ac1 hl' hne=> ?_⟩
     rcases look hl' with⟨rfl,_⟩|⟨_,hl'⟩
     ·exact absurd rfl hne
     ·exact hf.B c' ac1 hl'
    ·obtain⟨a1,a2,a3,a4⟩:=h.sep.box c cs' LU hwc
     refine⟨a1,a2,a3,fun c' ac1 hl' asF=> ?_⟩;rcases look hl' with⟨rfl,_⟩|⟨_,hl'⟩
     ·exact fun e=>hf.B c cs' LU e.symm
     ·exact a4 c' ac1 hl' asF
   spot:=fun c cs' hl=>by
    rcases look hl with⟨rfl,rfl⟩|⟨_,hl⟩
    ·exact⟨fun _=>hs,hf.lt,fun e=>by rw[hw] at e;cases e⟩
    ·exact h.sep.spot c cs' hl
   soft:=fun c cs' j hl hwc hj=>by
    rcases look hl with⟨rfl,rfl⟩|⟨_,hl⟩
    ·exact hz j hj
    ·exact h.sep.soft c cs' j hl hwc hj}
theorem xz.Pk {b k:Nat} {cs:List CE} (h:xz F w0 w φ st k) (hk:(φ.β b).block≠k):xz F w0 w φ (st.Pk b cs) k:=by
 refine⟨h.lt,h.new,h.I,h.S,fun c cs' hl=> ?_⟩;have hl:az c (rR b cs st.bx)=some cs':=hl;rw[gM] at hl
 split at hl
 ·rename_i e;rw[e];exact hk
 ·exact h.B c cs' hl
end Go.T
namespace Go.T
variable {F : Nat → Prop} {A : Arg} {w0 w w' : World} {φ φ' φ1 : Fp} {st st' sta fG sF : TS} {tm LS : Array Value} {C : pO}
variable {R : Type} {cf : Cf} {lp : Lp} {Q : R → Prop}
theorem R4 {β:Nat→Addr} {XB:Nat→Nat→Nat→Prop} {E:Nat→Prop}: ∀(B:List (Nat×List Mode×List TC)) (st:TS) (φ:Fp),φ.β=β→bB F A w0 φ st tm w→(B.Pairwise fun x y=>x.1≠y.1)→
 (∀b ms ts,(b,ms,ts)∈B→DY b=true∧(β b).spot=none∧xz F w0 w φ st (β b).block∧(∀b' ms' ts',(b',ms',ts')∈B→b'≠b→(β b').block≠(β b).block)∧ ¬E (β b).block∧
   (∀b' ms' ts' j,(b',ms',ts')∈B→j<ts'.length→ ¬XB b' j (β b).block)∧
   ∃us:List Value,us.length=ts.length∧(∀(j:Nat) (u:Value),us[j]?=some u→w.cell? ((β b).add j)=some u∧u.cells= #[u]∧w.frozen? ((β b).add j)=false)∧
    ∀(j:Nat) (c:TC),ts[j]?=some c→ ∃u,us[j]?=some u∧aB w φ.I (mAt ms j) (XB b j) c u∧ ∀k,XB b j k→xz F w0 w φ st k∧ ¬E k)→
 (∀b ms ts b' ms' ts' j j' k,(b,ms,ts)∈B→(b',ms',ts')∈B→j<ts.length→j'<ts'.length→XB b j k→XB b' j' k→b=b'∧j=j')→(∀k,E k→xz F w0 w φ st k)→
 ∃φ',bB F A w0 φ' (Np B st) tm w∧φ'.β=β∧φ'.I=φ.I∧ ∀k,E k→xz F w0 w φ' (Np B st) k
 |[],st,φ,hβ,h,_,_,_,hE=>⟨φ,h,hβ,rfl,hE⟩
 |(b,ms,ts)::r,st,φ,hβ,h,hp,hB,hX,hE=>by
  obtain⟨hw,hs,hf,Yh,hnE,hnX,us,u1,u2,u3⟩:=hB b ms ts (.head _);have hpr:=List.pairwise_cons.1 hp
  obtain⟨φ1,m,l1,c1⟩:=tK (f:=bid b) (fun j=>by unfold bid;omega) (fun j j' e=>by unfold bid at e;omega) ts (bms ms ts) 0 st φ us (XB b) h u1 (fun n c v hn hv=>by
   rw[adJ (List.getElem?_eq_some_iff.1 hn).1];obtain⟨u,a1,a2,_⟩:=u3 n c hn;rw[hv] at a1;cases a1
   exact a2) (fun n k hn hk=>by
   obtain⟨u,_,_,a3⟩:=u3 n _ (ck hn)
   exact(a3 k hk).1) (fun n n' k hn hn' hk hk'=>(hX b ms ts b ms ts n n' k (.head _) (.head _) hn hn' hk hk').2)
  have hβ1:φ1.β=β:=m.β.trans hβ
  have hput:=m.rel.arV (b:=b) (cs:=(cM (bid b) (bms ms ts) 0 ts st).1) hw (by rw[hβ1];exact hs) (by rw[hβ1];exact m.free _ hf fun⟨n,n1,n2⟩=>hnX b ms ts n (.head _) n1 n2) (fun j e he=>by
   have hj:j<us.length:=by rw[u1,←l1];exact(List.getElem?_eq_some_iff.1 he).1
   obtain⟨q1,q2,q3⟩:=u2 j _ (ck hj)
   exact⟨_,by rw[hβ1];exact q1,q2,(c1 j e _ he (ck hj)).1⟩) (fun j hj=>by
   have hj:j<us.length:=by rw[u1,←l1];exact hj
   rw[hβ1];exact(u2 j _ (ck hj)).2.2)
  have stay: ∀k,xz F w0 w φ st k→(∀n,n<ts.length→ ¬XB b n k)→(β b).block≠k→xz F w0 w φ1 ((cM (bid b) (bms ms ts) 0 ts st).2.Pk b (cM (bid b) (bms ms ts) 0 ts st).1) k:=fun k hk hn hne=>
   (m.free k hk fun⟨n,n1,n2⟩=>hn n n1 n2).Pk (by rw[hβ1];exact hne)
  obtain⟨φ2,r1,r2,r3,r4⟩:=R4 (E:=E) (XB:=XB) r _ φ1 hβ1 hput hpr.2 (fun b' ms' ts' hm=>by
   obtain⟨a1,a2,a3,a4,a5,a6,us',v1,v2,v3⟩:=hB b' ms' ts' (.tail _ hm);have hne:b≠b':=hpr.1 _ hm;refine⟨a1,a2,stay _ a3 (fun n hn=>a6 b ms ts n (.head _) hn) (a4 b ms ts (.head _) hne),fun b2 ms2 ts2 hm2=>a4 b2 ms2 ts2 (.tail _ hm2),a5,fun b2 ms2 ts2 j hm2=>a6 b2 ms2 ts2 j (.tail _ hm2),us',v1,v2,fun j c hj=> ?_⟩;obtain⟨u,w1,w2,w3⟩:=v3 j c hj;have hjl:=(List.getElem?_eq_some_iff.1 hj).1;refine⟨u,w1,by rw[m.I];exact w2,fun k hk=>⟨stay k (w3 k hk).1 (fun n hn hx=> ?_) (fun e=> ?_),(w3 k hk).2⟩⟩
   ·exact hne (hX b ms ts b' ms' ts' n j k (.head _) (.tail _ hm) hn hjl hx hk).1
   ·exact hnX b' ms' ts' j (.tail _ hm) hjl (by rw[e];exact hk))
   (fun b1 ms1 ts1 b2 ms2 ts2 j j' k h1 h2=>hX b1 ms1 ts1 b2 ms2 ts2 j j' k (.tail _ h1) (.tail _ h2)) (fun k hk=>stay k (hE k hk) (fun n hn hx=>by
     obtain⟨u,_,_,a3⟩:=u3 n _ (ck hn)
     exact(a3 k hx).2 hk) (fun e=>hnE (by rw[e];exact hk)))
  exact⟨φ2,r1,r2,r3.trans m.I,r4⟩
theorem xP {ms:List Mode}: ∀{cs:List TC} {vs:List Value} {n:Nat} {c:TC} {v:Value},cs[n]?=some c→vs[n]?=some v→(e7 ms cs vs)[n]?=some (ms.getD n .snap,c,v):=by
 intro cs
 induction cs generalizing ms with
 |nil=>intro vs n c v h;simp at h
 |cons c0 cs ih=>
  intro vs n c v h1 h2
  cases vs with
  |nil=>simp at h2
  |cons v0 vs=>
   cases n with
   |zero=>simp only[gE,aY] at h1 h2;subst h1 h2;simp only[e7,gE,xL]
   |succ n=>
    simp only[e7,yo] at h1 h2 ⊢;rw[ih (ms:=ms.drop 1) h1 h2,rG]
theorem aaW {ob:List (Nat×OB)} {a:Nat} {cs:List TC} {u:Value} (hc:adI a cs u) {cs':List CE} (hl:cs'.length=cs.length) (hce: ∀(n:Nat) (e:CE) (v:Value),cs'[n]?=some e→u.cells.toList[n]?=some v→eP ob w φ e v) (h1: ∀v∈u.cells.toList,v.cells= #[v]):pZ ob w φ (.mk (Nat.beq a 1) cs') u:=by
 obtain⟨ha,hsz,hag,hno⟩:=hc
 match a,ha with
 |0,_=>
  have hu:=hno cW;rw[hu] at hsz
  have RP:cs'.length=1:=by rw[hl];simpa using hsz.symm
  match cs',RP with
  |[e],_=>exact⟨e,rfl,hu,hce 0 e u rfl (by rw[hu];rfl)⟩
 |1,_=>
  obtain⟨xs,rfl⟩:=hag rfl;have hsz:xs.size=cs.length:=hsz;refine⟨xs,rfl,by rw[hl];exact hsz,fun j e he=> ?_⟩
  have hj:j<xs.size:=by rw[hsz,←hl];exact(List.getElem?_eq_some_iff.1 he).1
  have hx:(Value.agg xs).cells.toList[j]?=some xs[j]:=by show xs.toList[j]?=_;simp[hj]
  exact⟨xs[j],zk hj,h1 _ (gP hx),hce j e _ he hx⟩
theorem Vo {d k j j':Nat} (h:xy d k j=xy d k j'):j=j':=by unfold xy at h;omega
theorem ajP {d k k':Nat} (h:zI d k=zI d k'):k=k':=by unfold zI at h;omega
theorem adR (d k:Nat):DY (zI d k)=true:=by
 unfold DY zI;rw[show Nat.ble 200000 (400000+20*d+k)=true from VA ay];exact VA ay
structure Lv (F:Nat→Prop) (A:Arg) (w0 w:World) (φ φ':Fp) (st st':TS) (tm:Array Value) (nums nb Xs:Nat→Prop):Prop where
 rel:bB F A w0 φ' st' tm w
 β: ∀b,¬nb b→φ'.β b=φ.β b
 I:φ'.I=φ.I
 keep: ∀e v,eP st.ob w φ e v→(∀o∈iM e,¬nums o)→eP st'.ob w φ' e v
 free: ∀k,xz F w0 w φ st k→ ¬Xs k→xz F w0 w φ' st' k
theorem Made.toB {nums nb Xs:Nat→Prop} (h:Made F A w0 w φ φ' st st' tm nums Xs):Lv F A w0 w φ φ' st st' tm nums nb Xs:=⟨h.rel,fun b _=>by rw[h.β],h.I,h.keep,h.free⟩
theorem Lv.trans {φ2:Fp} {n1 n2 b1 b2 X1 X2 nums nb Xs:Nat→Prop} (h:Lv F A w0 w φ φ1 st fG tm n1 b1 X1) (k:Lv F A w0 w φ1 φ2 fG sF tm n2 b2 X2) (hn: ∀o,n1 o∨n2 o→nums o) (hb: ∀o,b1 o∨b2 o→nb o) (hX: ∀x,X1 x∨X2 x→Xs x):Lv F A w0 w φ φ2 st sF tm nums nb Xs:=
 ⟨k.rel,fun b hbn=>(k.β b fun hc=>hbn (hb b (.inr hc))).trans (h.β b fun hc=>hbn (hb b (.inl hc))),k.I.trans h.I,fun e v he hd=>k.keep e v (h.keep e v he fun o ho hc=>hd o ho (hn o (.inl hc))) fun o ho hc=>hd o ho (hn o (.inr hc)),
   fun x hf hx=>k.free x (h.free x hf fun hc=>hx (hX x (.inl hc))) fun hc=>hx (hX x (.inr hc))⟩
theorem aaX (h:bB F A w0 φ st tm w) {b:Nat} {cs:List CE} {ad:Addr} (hw:DY b=true) (hs:ad.spot=none) (hf:xz F w0 w φ st ad.block)
 (hc: ∀(j:Nat) (e:CE),cs[j]?=some e→ ∃v,w.cell? (ad.add j)=some v∧v.cells= #[v]∧eP st.ob w φ e v) (hz: ∀j,j<cs.length→w.frozen? (ad.add j)=false):
 Lv F A w0 w φ (φ.box b ad) st (Pm b cs st) tm (fun _=>False) (fun x=>x=b) (fun x=>x=ad.block):=by
 refine⟨h.Pm hw hs hf.lt hf.S hf.I hf.new (fun b' cs' hb' _=>hf.B b' cs' hb') hc hz,fun b' hb'=> ?_,rfl,fun e v he _=>(by cases e<;>exact he),fun k hk hx=>⟨hk.lt,hk.new,hk.I,hk.S,fun c cs' hl=> ?_⟩⟩
 ·show(if b'=b then ad else φ.β b')=_
  rw[aF hb']
 ·have hl:az c (rR b cs (uM b st.bx))=some cs':=hl
  show((if c=b then ad else φ.β c)).block≠k;rw[gM,kL] at hl
  by_cases hcb:c=b
  ·rw[aI hcb];exact fun e=>hx e.symm
  ·rw[aF hcb,aF hcb] at hl
   rw[aF hcb];exact hk.B c cs' hl
theorem qw.shift {X:Nat→Nat→Prop} {a:Nat}: ∀{vs:List (Nat×List TC)} {n:Nat} {ms:List (List Mode)} {us:List Value} {eD:List It},qw w X (a+n) ms vs us eD→qw w (fun i=>X (a+i)) n ms vs us eD
 |[],n,ms,[],eD,h=>by cases ms<;>exact h
 |[],n,ms,_::_,eD,h=>by cases ms<;>exact h.elim
 |(_,_)::_,n,ms,[],eD,h=>by cases ms<;>exact h.elim
 |(a',cs)::r,n,ms,u::us,eD,h=>by
  obtain⟨a0,b,h1,h2,h3⟩:=h;rw[nq] at h3;exact⟨a0,b,h1,h2,h3.shift⟩
theorem R5 {d:Nat}: ∀(vs:List (Nat×List TC)) (k:Nat) (ms:List (List Mode)) (st:TS) (φ:Fp) (us:List Value) (eD:List It) (X:Nat→Nat→Prop),bB F A w0 φ st tm w→qw w X 0 ms vs us eD→KR vs=true→
 (∀(n:Nat) (it:It),eD[n]?=some it→aB w φ.I it.1 (X n) it.2.1 it.2.2)→(∀n x,n<eD.length→X n x→xz F w0 w φ st x)→(∀n n' x,n<eD.length→n'<eD.length→X n x→X n' x→n=n')→
 ∃φ',Lv F A w0 w φ φ' st (jD d k ms vs st).2 tm (fun o=> ∃k' j,k≤k'∧j<20∧o=xy d k' j) (fun b=> ∃k',k≤k'∧b=zI d k') (fun x=> ∃n,n<eD.length∧X n x)∧(jD d k ms vs st).1.length=vs.length∧us.length=vs.length∧
  ∀(n:Nat) (c:vE) (u:Value),(jD d k ms vs st).1[n]?=some c→us[n]?=some u→pZ (jD d k ms vs st).2.ob w φ' c u
 |[],k,ms,st,φ,us,eD,X,h,hc,hs,_,_,_=>by
  cases us with
  |nil=>exact⟨φ,(Made.refl h).toB,rfl,rfl,fun n c u hn=>by simp[jD] at hn⟩
  |cons u us=>cases ms<;>exact hc.elim
 |(a,cs)::r,k,ms,st,φ,us,eD,X,h,hc,hs,hi,hF,hd=>by
  cases us with
  |nil=>cases ms<;>exact hc.elim
  |cons u us=>
   obtain⟨a0,b,rfl,Yl,ahB⟩:=hc;have ahB:=qw.shift (n:=0) (by rw[nr] at ahB;exact ahB)
   have hsm:cs.length≤20∧KR r=true:=by
    simp only[KR] at hs
    split at hs
    ·exact⟨wG zYs,hs⟩
    ·cases hs
   have tail: ∀{φ1:Fp} {fG:TS} {nums nb:Nat→Prop},Lv F A w0 w φ φ1 st fG tm nums nb (fun x=> ∃n,n<a0.length∧X n x)→(∀o,nums o→ ∃j,j<20∧o=xy d k j)→(∀o,nb o→o=zI d k)→
    ∃φ',Lv F A w0 w φ φ' st (jD d (k+1) (ms.drop 1) r fG).2 tm (fun o=> ∃k' j,k≤k'∧j<20∧o=xy d k' j) (fun b=> ∃k',k≤k'∧b=zI d k') (fun x=> ∃n,n<(a0++b).length∧X n x)∧
     Lv F A w0 w φ1 φ' fG (jD d (k+1) (ms.drop 1) r fG).2 tm (fun o=> ∃k' j,k+1≤k'∧j<20∧o=xy d k' j) (fun b=> ∃k',k+1≤k'∧b=zI d k') (fun x=> ∃n,n<b.length∧X (a0.length+n) x)∧
     (jD d (k+1) (ms.drop 1) r fG).1.length=r.length∧us.length=r.length∧
     ∀(n:Nat) (c:vE) (u:Value),(jD d (k+1) (ms.drop 1) r fG).1[n]?=some c→us[n]?=some u→pZ (jD d (k+1) (ms.drop 1) r fG).2.ob w φ' c u:=fun {φ1 fG nums nb} m1 asG hnb=>by
    obtain⟨φ2,m2,l2,l3,c2⟩:=R5 (d:=d) r (k+1) (ms.drop 1) fG φ1 us b (fun n=>X (a0.length+n)) m1.rel ahB hsm.2 (fun n it hn=>by
     rw[m1.I]
     exact hi (a0.length+n) it (by rw[pK ay,Nat.add_sub_cancel_left];exact hn)) (fun n x hn hx=>m1.free x (hF (a0.length+n) x (by rw[cF];omega) hx) fun⟨n',n1,n2⟩=>by
     have:=hd n' (a0.length+n) x (by rw[cF];omega) (by rw[cF];omega) n2 hx
     omega) (fun n n' x hn hn' hx hx'=>by
     have:=hd (a0.length+n) (a0.length+n') x (by rw[cF];omega) (by rw[cF];omega) hx hx'
     omega)
    refine⟨φ2,m1.trans m2 (fun o ho=> ?_) (fun o ho=> ?_) (fun x hx=> ?_),m2,l2,l3,c2⟩
    ·rcases ho with ho|⟨k',j,n1,n2,n3⟩
     ·obtain⟨j,j1,j2⟩:=asG o ho
      exact⟨k,j,cV _,j1,j2⟩
     ·exact⟨k',j,by omega,n2,n3⟩
    ·rcases ho with ho|⟨k',n1,n3⟩
     ·exact⟨k,cV _,hnb o ho⟩
     ·exact⟨k',by omega,n3⟩
    ·rcases hx with⟨n,n1,n2⟩|⟨n,n1,n2⟩
     ·exact⟨n,by rw[cF];omega,n2⟩
     ·exact⟨a0.length+n,by rw[cF];omega,n2⟩
   rcases Yl with⟨hn2,Yl,rfl⟩|⟨rfl,ad,us0,rfl,zA,Vc,Yd,hX0,rfl⟩
   ·have Vc:u.cells.toList.length=cs.length:=by rw[Ae];exact Yl.2.1
    have hcl:(e7 (ms.headD []) cs u.cells.toList).length=cs.length:=p5 Vc.symm
    obtain⟨φ1,m1,l1,c1⟩:=tK (f:=xy d k) (fun j=>by unfold xy;omega) (fun j j' e=>Vo e) cs (ms.headD []) 0 st φ u.cells.toList X h Vc (fun n c v hn hv=>by
     have:=hi n _ (by rw[nj (by rw[hcl];exact(List.getElem?_eq_some_iff.1 hn).1)];exact xP hn hv)
     exact this) (fun n x hn hx=>hF n x (by rw[cF,hcl];omega) hx) (fun n n' x hn hn' hx hx'=>hd n n' x (by rw[cF,hcl];omega) (by rw[cF,hcl];omega) hx hx')
    obtain⟨φ2,m,m2,l2,l3,c2⟩:=tail (nums:=fun o=> ∃n,0≤n∧n<0+cs.length∧o=xy d k n) (nb:=fun _=>False) (by rw[hcl];exact m1.toB) (fun o ⟨n,_,n2,n3⟩=>⟨n,by omega,n3⟩) (fun o ho=>ho.elim);have hb2:Nat.beq a 2=false:=beq_false hn2
    have hmk:jD d k ms ((a,cs)::r) st=(.mk (Nat.beq a 1) (cM (xy d k) (ms.headD []) 0 cs st).1::(jD d (k+1) (ms.drop 1) r (cM (xy d k) (ms.headD []) 0 cs st).2).1,(jD d (k+1) (ms.drop 1) r (cM (xy d k) (ms.headD []) 0 cs st).2).2):=by
     simp only[jD,hb2]
    rw[hmk];refine⟨φ2,m,by simp only[fW];rw[l2],by simp only[fW];rw[l3],fun n c v hn hv=> ?_⟩
    cases n with
    |zero=>
     simp only[gE,aY] at hn hv;subst hn hv;refine aaW Yl l1 (fun n e v he hv=> ?_) fun v hv=> ?_
     ·obtain⟨q1,q2⟩:=c1 n e v he hv
      refine m2.keep e v q1 fun o ho ⟨k',j,n1,n2,n3⟩=> ?_;obtain⟨n',_,n4,n5⟩:=q2 o ho;rw[n5] at n3;unfold xy at n3;omega
     ·obtain⟨n,hn,rfl⟩:=List.mem_iff_getElem.1 hv
      have hn':n<cs.length:=by rw[←Vc];exact hn
      have:=hi n _ (by rw[nj (by rw[hcl];exact hn')];exact xP (ck hn') (ck hn));exact this.cells
    |succ n=>exact c2 n c v (by simpa using hn) (by simpa using hv)
   ·have hcl:(e7 (ms.headD []) cs us0).length=cs.length:=p5 Vc.symm
    have hit: ∀{n:Nat} {it:It},(e7 (ms.headD []) cs us0)[n]?=some it→((abR::e7 (ms.headD []) cs us0)++b)[1+n]?=some it:=fun {n it} hn=>by
     rw[nj (by rw[fW];have:=(List.getElem?_eq_some_iff.1 hn).1;omega),show 1+n=n+1 by omega,yo];exact hn
    have hlt: ∀{n:Nat},n<cs.length→1+n<((abR::e7 (ms.headD []) cs us0)++b).length:=fun {n} hn=>by rw[cF,fW,hcl];omega
    obtain⟨φ1,m1,l1,c1⟩:=tK (f:=xy d k) (fun j=>by unfold xy;omega) (fun j j' e=>Vo e) cs (ms.headD []) 0 st φ us0 (fun n=>X (1+n)) h Vc (fun n c v hn hv=>hi (1+n) _ (hit (xP hn hv)))
     (fun n x hn hx=>hF (1+n) x (hlt hn) hx) (fun n n' x hn hn' hx hx'=>by have:=hd (1+n) (1+n') x (hlt hn) (hlt hn') hx hx';omega)
    have hfree:xz F w0 w φ1 (cM (xy d k) (ms.headD []) 0 cs st).2 ad.block:=m1.free _ (hF 0 _ cW hX0) fun⟨n,n1,n2⟩=>by
     have:=hd 0 (1+n) _ cW (hlt n1) hX0 n2;omega
    have mb:=aaX m1.rel (b:=zI d k) (cs:=(cM (xy d k) (ms.headD []) 0 cs st).1) (adR d k) zA hfree (fun j e he=>by
     have hj:j<us0.length:=by rw[Vc,←l1];exact(List.getElem?_eq_some_iff.1 he).1
     obtain⟨q1,q2,q3⟩:=Yd j _ (ck hj)
     exact⟨_,q1,q2,(c1 j e _ he (ck hj)).1⟩) (fun j hj=>by
     have hj:j<us0.length:=by rw[Vc,←l1];exact hj
     exact(Yd j _ (ck hj)).2.2)
    have m12:=(m1.toB (nb:=fun _=>False)).trans mb (nums:=fun o=> ∃n,0≤n∧n<0+cs.length∧o=xy d k n) (nb:=fun x=>x=zI d k) (Xs:=fun x=> ∃n,n<(abR::e7 (ms.headD []) cs us0).length∧X n x) (fun o ho=>ho.elim id fun hx=>hx.elim) (fun o ho=>ho.elim (fun hx=>hx.elim) id) (fun x hx=>by
     rcases hx with⟨n,n1,n2⟩|hx
     ·exact⟨1+n,by rw[fW,hcl];omega,n2⟩
     ·exact⟨0,by simp,by rw[hx];exact hX0⟩)
    obtain⟨φ2,m,m2,l2,l3,c2⟩:=tail m12 (fun o ⟨n,_,n2,n3⟩=>⟨n,by omega,n3⟩) (fun o ho=>ho);have hmk:jD d k ms ((2,cs)::r) st=(.ptr (zI d k)::(jD d (k+1) (ms.drop 1) r (Pm (zI d k) (cM (xy d k) (ms.headD []) 0 cs st).1 (cM (xy d k) (ms.headD []) 0 cs st).2)).1,(jD d (k+1) (ms.drop 1) r (Pm (zI d k) (cM (xy d k) (ms.headD []) 0 cs st).1 (cM (xy d k) (ms.headD []) 0 cs st).2)).2):=rfl;rw[hmk];refine⟨φ2,m,by simp only[fW];rw[l2],by simp only[fW];rw[l3],fun n c v hn hv=> ?_⟩
    cases n with
    |zero=>
     simp only[gE,aY] at hn hv;subst hn hv;show Value.pointer (some ad)=Value.pointer (some (φ2.β (zI d k)));rw[m2.β _ fun⟨k',n1,n2⟩=>by have:=ajP n2;omega];show _=Value.pointer (some (if zI d k=zI d k then ad else _));rw[aI rfl]
    |succ n=>exact c2 n c v (by simpa using hn) (by simpa using hv)
theorem ajQ {d:Nat} {ms:List (List Mode)} {r:TV} {v:Value} {eD:List It} {X:Nat→Nat→Prop} (h:bB F A w0 φ st tm w) (hr:aaN w X ms r v eD) (hi: ∀(n:Nat) (it:It),eD[n]?=some it→aB w φ.I it.1 (X n) it.2.1 it.2.2) (hF: ∀n x,n<eD.length→X n x→xz F w0 w φ st x)
 (hd: ∀n n' x,n<eD.length→n'<eD.length→X n x→X n' x→n=n') (hdt:d<tm.size) {st':TS} (ht:ai5 d ms r st=some st'):Rel F A w0 st' (tm.setIfInBounds d v) w:=by
 have one: ∀(a:Nat) (cs:List TC),adI a cs v→eD=e7 (ms.headD []) cs v.cells.toList→Rel F A w0 ((cM (xy d 0) (ms.headD []) 0 cs st).2.set d (.v false [.mk (Nat.beq a 1) (cM (xy d 0) (ms.headD []) 0 cs st).1])) (tm.setIfInBounds d v) w:=fun a cs Yl he=>by
  subst he
  have Vc:v.cells.toList.length=cs.length:=by rw[Ae];exact Yl.2.1
  have hcl:(e7 (ms.headD []) cs v.cells.toList).length=cs.length:=p5 Vc.symm
  obtain⟨φ1,m1,l1,c1⟩:=tK (f:=xy d 0) (fun j=>by unfold xy;omega) (fun j j' e=>Vo e) cs (ms.headD []) 0 st φ v.cells.toList X h Vc (fun n c u hn hv=>hi n _ (xP hn hv)) (fun n x hn hx=>hF n x (by rw[hcl];exact hn) hx)
   (fun n n' x hn hn' hx hx'=>hd n n' x (by rw[hcl];exact hn) (by rw[hcl];exact hn') hx hx')
  refine⟨φ1,m1.rel.Yp hdt ⟨_,rfl,aaW Yl l1 (fun n e u he hv=>(c1 n e u he hv).1) fun u hu=> ?_⟩⟩;obtain⟨n,hn,rfl⟩:=List.mem_iff_getElem.1 hu
  have hn':n<cs.length:=by rw[←Vc];exact hn
  exact(hi n _ (xP (ck hn') (ck hn))).cells
 cases r with
 |c c=>obtain⟨h1,h2⟩:=hr;cases ht;exact one 0 [c] h1 h2
 |ag cs=>obtain⟨h1,h2⟩:=hr;cases ht;exact one 1 cs h1 h2
 |bx cs=>
  have hc:qw w X 0 ms [(2,cs)] [v] eD:=⟨eD,[],by simp,.inr ⟨rfl,hr⟩,by cases ms.drop 1<;>rfl⟩;have hsm: ∃b,KR [(2,cs)]=b:=⟨_,rfl⟩;obtain⟨ad,us0,rfl,zA,Vc,Yd,hX0,rfl⟩:=hr
  cases ht
  have hcl:(e7 (ms.headD []) cs us0).length=cs.length:=p5 Vc.symm
  have hit: ∀{n:Nat} {it:It},(e7 (ms.headD []) cs us0)[n]?=some it→(abR::e7 (ms.headD []) cs us0)[1+n]?=some it:=fun {n it} hn=>by
   rw[show 1+n=n+1 by omega,yo];exact hn
  have hlt: ∀{n:Nat},n<cs.length→1+n<(abR::e7 (ms.headD []) cs us0).length:=fun {n} hn=>by rw[fW,hcl];omega
  obtain⟨φ1,m1,l1,c1⟩:=tK (f:=xy d 0) (fun j=>by unfold xy;omega) (fun j j' e=>Vo e) cs (ms.headD []) 0 st φ us0 (fun n=>X (1+n)) h Vc (fun n c v hn hv=>hi (1+n) _ (hit (xP hn hv)))
   (fun n x hn hx=>hF (1+n) x (hlt hn) hx) (fun n n' x hn hn' hx hx'=>by have:=hd (1+n) (1+n') x (hlt hn) (hlt hn') hx hx';omega)
  have hfree:xz F w0 w φ1 (cM (xy d 0) (ms.headD []) 0 cs st).2 ad.block:=m1.free _ (hF 0 _ cW hX0) fun⟨n,n1,n2⟩=>by
   have:=hd 0 (1+n) _ cW (hlt n1) hX0 n2;omega
  have mb:=aaX m1.rel (b:=zI d 0) (cs:=(cM (xy d 0) (ms.headD []) 0 cs st).1) (adR d 0) zA hfree (fun j e he=>by
   have hj:j<us0.length:=by rw[Vc,←l1];exact(List.getElem?_eq_some_iff.1 he).1
   obtain⟨q1,q2,q3⟩:=Yd j _ (ck hj)
   exact⟨_,q1,q2,(c1 j e _ he (ck hj)).1⟩) (fun j hj=>by
   have hj:j<us0.length:=by rw[Vc,←l1];exact hj
   exact(Yd j _ (ck hj)).2.2)
  refine⟨_,mb.rel.Yp hdt ?_⟩;show Value.pointer (some ad)=Value.pointer (some ((if zI d 0=zI d 0 then ad else _).add 0));rw[aI rfl,Addr.add_zero']
 |tu vs=>
  obtain⟨us,rfl,hc⟩:=hr;simp only[ai5] at ht
  split at ht
  ·rename_i hs
   cases ht
   obtain⟨φ1,m1,l1,l2,c1⟩:=R5 (d:=d) vs 0 ms st φ us.toList eD X h hc hs hi hF hd;refine⟨φ1,m1.rel.Yp hdt ⟨us,rfl,by rw[l1,←l2];simp,fun n c hn=> ?_⟩⟩
   have hnl:n<us.toList.length:=by rw[l2,←l1];exact(List.getElem?_eq_some_iff.1 hn).1
   have hnu:n<us.size:=by simpa using hnl
   exact⟨us[n],zk hnu,c1 n c _ hn (by simp[hnu])⟩
  ·cases ht
 |_=>cases ht
end Go.T
namespace Go.T
variable {F : Nat → Prop} {A : Arg} {w0 w w' : World} {φ φ' φ1 : Fp} {st st' sta fG sF : TS} {tm LS : Array Value} {C : pO}
variable {R : Type} {cf : Cf} {lp : Lp} {Q : R → Prop}
def V8 (n:Nat) (o:Oper):Bool:=match o.dst with|some d=>Nat.blt d n|none=>true
def Sw (n:Nat):List Oper→Bool
 |[]=>true
 |o::r=>match V8 n o with|true=>Sw n r|false=>false
def yy (n:Nat):Code→Bool
 | .region _ ops _=>Sw n ops.toList
 | .seq a b=>match yy n a with|true=>yy n b|false=>false
 | .cond _ a b=>match yy n a with|true=>yy n b|false=>false
 | .block _ b=>yy n b
 | .loop b=>yy n b
 |_=>true
structure COk (C:pO):Prop where
 ty:iN C
 name: ∀(f:Nat) (fn:Func),C.P.funcs[f]?=some fn→(fn.name== "runtime.NumGoroutine")=false
 dst: ∀(f:Nat) (fn:Func) (c:Code),C.P.funcs[f]?=some fn→fn.body=some c→yy fn.ntmps c=true
structure PF (C:pO) (f:FuncId) (vs:List TV) (r:TV) (fs:List TV):Prop where
 body: ∃fn c,C.P.funcs[f]?=some fn∧fn.body=some c
 calls: ∀(w:World) (xs:List Value) (Rg BB:Nat→Prop) (X:Nat→Nat→Nat→Prop) (Y:Nat→Nat→Prop),abQ w (C.sig f).ps vs xs Rg BB X Y→(C.sig f).ps.length=xs.length→
  Calls C.P f xs.toArray w fun e w'=> ∃v,e= .returned v∧RX (yx X Y) (Ls true Rg BB) w w' (C.sig f) xs r fs v
def V9 (C:pO) (cf:Cf):Prop:= ∀f vs r fs,cf f vs r fs→PF C f vs r fs
theorem ab0 (hC:COk C) {f:FuncId} {args:Array Value} (h: ∃fn c,C.P.funcs[f]?=some fn∧fn.body=some c):(callFunc f args).run C.P w= .ok (.enter f args) w:=by
 obtain⟨fn,c,h1,h2⟩:=h;unfold callFunc;simp only[Sem.run_bind];have:(program:Sem Program).run C.P w= .ok C.P w:=rfl;rw[this];simp only[Result.andThen,h1,hC.name f fn h1,h2]
 rfl
theorem adT {ps:List ct} {es:List TE} {own qk:List Nat} (h:bB F A w0 φ st tm w) (hgi:Fu st ps es=some (own,qk)) {xs:List Value} (RO: ∀(i:Nat) (e:TE),es[i]?=some e→ ∃x,xs[i]?=some x∧dK st.ob w φ e x) {k:Nat} (hk:yx (XOf w φ st ps es) (YOf φ ps es) k):
 Wr st φ (vG st ps es) k:=by
 have g:=Eg hgi
 have mem: ∀{ps:List ct} {es:List TE} {i:Nat} {p:ct} {e:TE} {x:Nat},ps[i]?=some p→es[i]?=some e→p≠ .borrow→x∈Jf st e→x∈vG st ps es:=by
  intro ps
  induction ps with
  |nil=>intro es i p e x h;simp at h
  |cons q ps ih=>
   intro es i p e x h1 h2 h3 h4
   cases es with
   |nil=>simp at h2
   |cons e0 es=>
    cases i with
    |zero=>
     simp only[gE,aY] at h1 h2;subst h1 h2
     cases q with
     |borrow=>exact absurd rfl h3
     |inout ms=>exact lX _ h4
     |consume=>exact lX _ h4
    |succ i=>
     have:=ih (by simpa using h1) (by simpa using h2) h3 h4
     cases q with
     |borrow=>exact this
     |inout ms=>exact rZ _ this
     |consume=>exact rZ _ this
 rcases hk with⟨i,j,hx⟩|⟨i,hy⟩
 ·obtain⟨p,e,e',o,l,h1,h2,h3,h4,h5,h6,h7,h8,_⟩:=NM h g RO hx
  refine .inr ⟨o,mem h1 h2 h3 ?_,h6,h7⟩
  have alp:o∈iM e':=by
   cases e' with
   |ref o1 cut=>cases h5;exact .head _
   |snap ds loc z rows=>cases loc with
    |none=>cases h5
    |some q=>
     obtain⟨o1,i1,f1⟩:=q
     cases h5
     obtain⟨x,_,ht⟩:=RO i e h2;obtain⟨v,hv⟩:=FE h ht h4;exact(hv.2.2 o i1 f1 rfl).1
   |_=>cases h5
  have ok:=PE h8;rcases ok.form with⟨b,rfl⟩|⟨_,ag,cs,rfl,_⟩
  ·obtain⟨_,_,_,_,RQ,_⟩:=ok.bx b 0 rfl
   simp only[Jf,aby,RQ];exact .tail _ (List.mem_map.2 ⟨o,List.mem_flatMap.2 ⟨e',gP h4,alp⟩,rfl⟩)
  ·simp only[Jf,kK,qm]
   exact List.mem_map.2 ⟨o,List.mem_flatMap.2 ⟨e',gP h4,alp⟩,rfl⟩
 ·obtain⟨p,b,h1,h2,h3,rfl⟩:=hy
  obtain⟨l,ok,_⟩:=g.ow i p _ h1 h2 h3;obtain⟨_,_,Lj,_,RQ,_⟩:=ok.bx b 0 rfl;refine .inl ⟨b,_,mem h1 h2 h3 ?_,RQ,Lj,rfl⟩;simp only[Jf,aby,RQ];exact .head _
theorem BP: ∀{cs:List TC} {ms:List Mode} {j:Nat} {c:TC},tI ms cs=true→cs[j]?=some c→(∃v,c= .sc v)∨ms.getD j .snap= .deep
 |[],_,_,_,_,h=>by simp at h
 | .sc v::r,ms,0,c,ht,h=>by simp only[gE,aY] at h;exact .inl ⟨v,h.symm⟩
 | .sc v::r,ms,j+1,c,ht,h=>by
   have:=BP (ms:=ms.drop 1) ht (by simpa using h)
   rwa [rG] at this
 | .sub z rows::r,ms,j,c,ht,h=>by
   simp only[tI] at ht
   split at ht
   ·rename_i hm
    cases j with
    |zero=>rw[xL] at hm;exact .inr hm
    |succ j=>
     have:=BP (ms:=ms.drop 1) ht (by simpa using h)
     rwa [rG] at this
   ·cases ht
 | .any::r,ms,j,c,ht,h=>by
   simp only[tI] at ht
   split at ht
   ·rename_i hm
    cases j with
    |zero=>rw[xL] at hm;exact .inr hm
    |succ j=>
     have:=BP (ms:=ms.drop 1) ht (by simpa using h)
     rwa [rG] at this
   ·cases ht
def KY (it:It):Prop:=it.1= .deep∨ ∃v,it.2.1= .sc v
theorem we {ms:List Mode} {cs:List TC} {vs:List Value} (ht:tI ms cs=true) {i:Nat} {it:It} (h:(e7 ms cs vs)[i]?=some it):KY it:=by
 obtain⟨c,v,h1,h2,rfl⟩:=ahJ h;exact(BP ht h1).elim .inr .inl
theorem aaY {X:Nat→Nat→Prop} {n:Nat} {m:List Mode} {cs:List TC} {u:Value} {eD:List It} (h:aaM w X n m cs u eD) (ht:tI m cs=true): ∀it∈eD,KY it:=by
 obtain⟨_,us,_,_,_,_,_,rfl⟩:=h;intro it hi;rcases fX.1 hi with rfl|hi
 ·exact .inl rfl
 ·obtain⟨i,hi⟩:=List.mem_iff_getElem?.1 hi
  exact we ht hi
theorem R6 {X:Nat→Nat→Prop}: ∀{vs:List (Nat×List TC)} {n:Nat} {ms:List (List Mode)} {us:List Value} {eD:List It},qw w X n ms vs us eD→Vk ms vs=true→ ∀it∈eD,KY it
 |[],n,ms,[],eD,h,_=>by
  have h:eD=[]:=by cases ms<;>exact h
  rw[h];intro it hi;cases hi
 |[],n,ms,_::_,eD,h,_=>by cases ms<;>exact h.elim
 |(_,_)::_,n,ms,[],eD,h,_=>by cases ms<;>exact h.elim
 |(a,cs)::r,n,ms,u::us,eD,h,ht=>by
  obtain⟨a0,b,rfl,h2,h3⟩:=h;simp only[Vk] at ht
  split at ht
  ·rename_i hcs
   intro it hi;rcases List.mem_append.1 hi with hi|hi
   ·rcases h2 with⟨_,_,rfl⟩|⟨_,hb⟩
    ·obtain⟨i,hi⟩:=List.mem_iff_getElem?.1 hi
     exact we hcs hi
    ·exact aaY hb hcs it hi
   ·exact R6 h3 ht it hi
  ·cases ht
theorem ahT {X:Nat→Nat→Prop} {ms:List (List Mode)} {r:TV} {v:Value} {eD:List It} (h:aaN w X ms r v eD) (ht:agL ms r=true): ∀it∈eD,KY it:=by
 cases r with
 |c c=>obtain⟨_,rfl⟩:=h;intro it hi;obtain⟨i,hi⟩:=List.mem_iff_getElem?.1 hi;exact we ht hi
 |ag cs=>obtain⟨_,rfl⟩:=h;intro it hi;obtain⟨i,hi⟩:=List.mem_iff_getElem?.1 hi;exact we ht hi
 |bx cs=>exact aaY h ht
 |tu vs=>obtain⟨_,_,h⟩:=h;exact R6 h ht
 |_=>exact h.elim
theorem aaZ {cs:List TC}:tI (bms [] cs) cs=true:=by
 induction cs with
 |nil=>rfl
 |cons c r ih=>cases c<;>exact ih
theorem KZ {NB:Nat→Prop}: ∀{ps:List ct} {xs:List Value} {fs:List TV} {eD:List It},BM w NB ps xs fs eD→abx ps=true→ ∀it∈eD,KY it
 |[],[],fs,eD,h,_=>by rw[h.2];intro it hi;cases hi
 |[],_::_,_,_,h,_=>h.elim
 |_::_,[],_,_,h,_=>h.elim
 |p::ps,x::xs,fs,eD,h,ht=>by
  cases p with
  |inout ms=>
   cases ms with
   |cons m ms=>cases ht
   |nil=>
    cases fs with
    |nil=>exact h.elim
    |cons f fs=>
     obtain⟨a,b,rfl,h2,h3⟩:=h;intro it hi;rcases List.mem_append.1 hi with hi|hi
     ·cases f with
      |c c=>rw[h3.2] at hi;simp only[qn] at hi;rw[hi];exact .inl rfl
      |ag cs=>obtain⟨_,ys,_,_,rfl⟩:=h3;obtain⟨i,hi⟩:=List.mem_iff_getElem?.1 hi;exact we aaZ hi
      |bx cs=>obtain⟨ad,us,_,_,_,_,rfl⟩:=h3;obtain⟨i,hi⟩:=List.mem_iff_getElem?.1 hi;exact we aaZ hi
      |_=>exact h3.elim
     ·exact KZ h2 ht it hi
  |borrow=>exact KZ (ps:=ps) (xs:=xs) (fs:=fs) h ht
  |consume=>exact KZ (ps:=ps) (xs:=xs) (fs:=fs) h ht
theorem RX.tight {F:Nat→Prop} {Rg BB:Nat→Prop} {g:Sig} {args:List Value} {r:TV} {fs:List TV} {v:Value} (h:RX F (Ls true Rg BB) w0 w g args r fs v) (ht:afq g r=true):RX F (Ls g.shares Rg BB) w0 w g args r fs v:=by
 unfold afq at ht
 cases hs:g.shares with
 |true=>exact h
 |false=>
  rw[hs] at ht;simp only at ht
  split at ht
  ·rename_i hps
   obtain⟨frm,I,X,ri,fi,hb,hr,hf⟩:=h;refine⟨frm,fun _=>False,X,ri,fi,⟨fun i it hi=> ?_,fun i k hi hk=>⟨(hb.rng i k hi hk).1,(hb.rng i k hi hk).2.1,id⟩,hb.apart,fun k hk=>hk.elim⟩,hr,hf.mono fun k hk=>⟨id,hk.2⟩⟩;have hc:=hb.ok i it hi;have:KY it:=(List.mem_append.1 (gP hi)).elim (ahT hr ht it) (KZ hf hps it);obtain⟨m,c,u⟩:=it;rcases this with e|⟨y,e⟩
   ·have e:m= .deep:=e
    subst e;exact hc.Jp rfl
   ·have e:c= .sc y:=e
    subst e;have hc:aB w I m (X i) (.sc y) u:=hc
    cases hc with|sc _ _ _ h=>exact .sc _ _ _ h
  ·cases ht
theorem R7 (hC:COk C) (Lk:V9 C cf) {a:Act} (h:bB F A w0 φ st a.tmps w) {o:Oper} {f:FuncId} {es:List TE} {xs:List Value} (hlen:es.length=xs.length) (RO: ∀(i:Nat) (e:TE),es[i]?=some e→ ∃x,xs[i]?=some x∧dK st.ob w φ e x)
 (aq7:(execOp a.eval o).run C.P w=(callFunc f xs.toArray).run C.P w) (hwr:writes C st o=vG st (C.sig f).ps es) {K:TS→Ev R} (hd: ∀d,o.dst=some d→d<a.tmps.size) (hk:(Nq C o.dst f es st K).holds cf lp Q) {Kc:Act→World→Prop} {Qc:Exit→Act→World→Prop}
 (hK: ∀st' v w',Rel F A w0 st' (a.put o.dst v).tmps w'→(K st').holds cf lp Q→w.heap.size≤w'.heap.size→(∀k,k<w.heap.size→ ¬Wr st φ (writes C st o) k→w'.heap[k]?=w.heap[k]?)→Kc (a.put o.dst v) w'):o.wp C.P a w Kc Qc:=by
 unfold Nq at hk
 split at hk
 ·rename_i own qk hgi
  split at hk
  ·rename_i hn hm h0
   obtain⟨vs,hk,hin⟩:=al5 h hgi hn hm RO hk
   split at hk
   ·rename_i hsm
    obtain⟨r,fs,hc,hk⟩:=hk;have hin:=hin hsm;obtain⟨hbody,apK⟩:=Lk f vs r fs hc;have g:=Eg hgi;have hC':=apK w xs _ _ _ _ hin (by rw[g.len,hlen]);unfold Oper.wp;rw[aq7,ab0 hC hbody,Oper.upon_enter];refine hC'.mono fun e w' hpost=> ?_;obtain⟨v,rfl,hp⟩:=hpost;simp only;simp only at hk
    split at hk
    ·exact hk.elim
    rename_i apL;have hp:=hp.tight apL
    split at hk
    ·rename_i W B hpo
     obtain⟨φ3,ri,fi,X,posB,af⟩:=ahS h hgi hn hm h0 RO hp hpo;rw[xI] at hk
     obtain⟨φ4,r4,β4,I4,free4⟩:=R4 (β:=φ.β) (XB:=fun b j=>X (posB b j)) (E:=fun k=> ∃i,i<ri.length∧X i k) B _ φ3 af.β af.rel af.ndB (fun b ms ts hm=>by
      obtain⟨b1,b2,b3,b4,b5,b6,us,b7,b8,b9⟩:=af.box b ms ts hm;refine⟨b1,b2,b4,b6,fun⟨i,hi,hx⟩=>b5 i (by rw[cF];omega) hx,fun b' ms' ts' j hm' hj hx=> ?_,us,b7,b8,fun j c hj=> ?_⟩
      ·obtain⟨_,_,_,_,_,_,us',_,_,c9⟩:=af.box b' ms' ts' hm'
       obtain⟨u,u1,u2,u3,u4⟩:=c9 j _ (ck hj);exact b5 _ (List.getElem?_eq_some_iff.1 u2).1 hx
      ·obtain⟨u,u1,u2,u3,u4⟩:=b9 j c hj
       refine⟨u,u1,af.item _ _ u2,fun k hk=>⟨u4 k hk,fun⟨i,hi,hx⟩=> ?_⟩⟩;have:=af.apart _ _ k (List.getElem?_eq_some_iff.1 u2).1 (by rw[cF];omega) hk hx
       omega)
      (fun b ms ts b' ms' ts' j j' k hm hm' hj hj' hx hx'=>by
        obtain⟨_,_,_,_,_,_,us,_,_,c9⟩:=af.box b ms ts hm;obtain⟨u,u1,u2,u3,u4⟩:=c9 j _ (ck hj);obtain⟨_,_,_,_,_,_,us',_,_,c9'⟩:=af.box b' ms' ts' hm';obtain⟨u',u1',u2',u3',u4'⟩:=c9' j' _ (ck hj')
        exact af.posI b ms ts b' ms' ts' j j' hm hm' hj hj' (af.apart _ _ k (List.getElem?_eq_some_iff.1 u2).1 (List.getElem?_eq_some_iff.1 u2').1 hx hx')) (fun k ⟨i,hi,hx⟩=>af.free i k hi hx)
     have hfr: ∀k,k<w.heap.size→ ¬Wr st φ (writes C st o) k→w'.heap[k]?=w.heap[k]?:=fun k hk hn=>hp.frm.block k hk fun hc=>hn (by rw[hwr];exact adT h hgi RO hc)
     cases nR:o.dst with
     |none=>
      rw[nR] at hk hK;exact hK _ v w' ⟨φ4,r4⟩ hk hp.frm.size hfr
     |some d=>
      rw[nR] at hk hK;simp only at hk
      split at hk
      ·rename_i st4 hres
       refine hK _ v w' ?_ hk hp.frm.size hfr
       exact ajQ r4 af.res (fun n it hn=>by rw[I4];exact af.item n it (by rw[nj (List.getElem?_eq_some_iff.1 hn).1];exact hn)) (fun n x hn hx=>free4 x ⟨n,hn,hx⟩)
        (fun n n' x hn hn' hx hx'=>af.apart n n' x (by rw[cF];omega) (by rw[cF];omega) hx hx') (hd d nR) hres
      ·exact hk.elim
    ·exact hk.elim
   ·exact hk.elim
  ·exact hk.elim
 ·exact hk.elim
theorem Wa (hT:iN C) {a:Act} (h:bB F A w0 φ st a.tmps w): ∀(xs:List Operand) (ts:List TypeId),xs.length=ts.length→(Po C st xs ts).length=xs.length∧ ∀(i:Nat) (e:TE),(Po C st xs ts)[i]?=some e→ ∃x,(xs.map a.eval)[i]?=some x∧dK st.ob w φ e x
 |[],[],_=>⟨rfl,fun i e h=>by simp[Po] at h⟩
 |[],_::_,h=>by cases h
 |_::_,[],h=>by cases h
 |x::xs,t::ts,hl=>by
  obtain⟨h1,h2⟩:=Wa hT h xs ts (by simpa using hl);refine⟨by simp[Po,h1],fun i e he=> ?_⟩
  cases i with
  |zero=>simp only[Po,gE,aY] at he;subst he;exact⟨_,rfl,gh hT h t x⟩
  |succ i=>exact h2 i e (by simpa [Po] using he)
theorem adU (hC:COk C) (Lk:V9 C cf) {a:Act} (h:bB F A w0 φ st a.tmps w) {o:Oper} {K:TS→Ev R} (hd: ∀d,o.dst=some d→d<a.tmps.size) (hk:(sO C st o K).holds cf lp Q) {Kc:Act→World→Prop} {Qc:Exit→Act→World→Prop}
 (hK: ∀st' v w',Rel F A w0 st' (a.put o.dst v).tmps w'→(K st').holds cf lp Q→w.heap.size≤w'.heap.size→(∀k,k<w.heap.size→ ¬Wr st φ (writes C st o) k→w'.heap[k]?=w.heap[k]?)→Kc (a.put o.dst v) w'):o.wp C.P a w Kc Qc:=by
 have hT:=hC.ty
 have did:Did C F A w0 φ st o a w K cf lp Q→o.wp C.P a w Kc Qc:=fun⟨nx,v,w',st',h1,h2,h3,h4,h5,h6⟩=>by
  unfold Oper.wp;rw[h1];rcases h2 with rfl|⟨rfl,rfl⟩
  ·exact hK st' v w' h3 h4 h5 h6
  ·exact hK st' undef w' h3 h4 h5 h6
 have Pj:=hk;unfold sO at hk
 split at hk
 ·rename_i e;exact did (ajD hT h e hd Pj)
 ·rename_i e;exact did (aos hT h e hd Pj)
 ·rename_i e;exact did (ajE hT h e Pj)
 ·rename_i e;exact did (Yr hT h e hd Pj)
 ·rename_i e;exact did (abX hT h e hd Pj)
 ·rename_i e;exact did (ajG hT h e hd Pj)
 ·rename_i e;exact did (ahO hT h e hd Pj)
 ·rename_i e;exact did (al3 hT h e hd Pj)
 ·rename_i f args ts e
  split at hk
  ·rename_i hl
   have hl:=kf hl;obtain⟨g1,g2⟩:=Wa hT h args.toList ts.toList hl;refine R7 hC Lk h (xs:=args.toList.map a.eval) (by rw[g1];simp) g2 ?_ ?_ hd hk hK
   ·unfold execOp
    rw[e];simp only[resolve,Act.eval,Deferred.ofValue,Sem.run_bind,Sem.run_pure,Result.andThen,invoke]
    congr 2
    apply Array.ext'
    simp[Act.eval]
   ·unfold writes;rw[e]
  ·exact hk.elim
 ·rename_i i args ts e
  split at hk
  ·rename_i hl
   have hl:=kf hl
   split at hk
   ·rename_i f caps hf
    obtain⟨g1,g2⟩:=Wa hT h args.toList ts.toList hl;have hfv:=h.tmp i;rw[hf] at hfv;have hfv:a.tmps.getD i undef= .func (.func f) #[] (caps.map fun b=>Value.pointer (some (φ.β b))).toArray:=hfv;refine R7 hC Lk h (xs:=args.toList.map a.eval++caps.map fun b=>Value.pointer (some (φ.β b))) (by rw[cF,cF,g1];simp) (fun j e' he=> ?_) ?_ ?_ hd hk hK
    ·by_cases hlt:j<(Po C st args.toList ts.toList).length
     ·rw[nj hlt] at he
      obtain⟨x,x1,x2⟩:=g2 j e' he;exact⟨x,by rw[nj (by rw[bX,←g1];exact hlt)];exact x1,x2⟩
     ·rw[pK ay,lW] at he
      rw[pK (by rw[bX,←g1];omega),bX,←g1,lW]
      cases hb:caps[j-(Po C st args.toList ts.toList).length]? with
      |none=>rw[hb] at he;cases he
      |some b=>
       rw[hb] at he;simp only[pL,aY] at he;subst he;exact⟨_,rfl,by show _=Value.pointer (some ((φ.β b).add 0));rw[Addr.add_zero']⟩
    ·unfold execOp
     rw[e];simp only[resolve,Sem.run_bind];have hev:a.eval (.tmp i)= .func (.func f) #[] (caps.map fun b=>Value.pointer (some (φ.β b))).toArray:=hfv;rw[hev];simp only[Deferred.ofValue,Sem.run_pure,Result.andThen,invoke]
     congr 2
     apply Array.ext'
     simp
    ·unfold writes;rw[e];simp only[hf]
   ·exact hk.elim
  ·exact hk.elim
 ·exact did (ag1 hT h hd hk)
end Go.T
namespace Go.T
variable {F : Nat → Prop} {A : Arg} {w0 w w' : World} {φ φ' φ1 : Fp} {st st' sta fG sF : TS} {tm LS : Array Value} {C : pO}
variable {R : Type} {cf : Cf} {lp : Lp} {Q : R → Prop}
structure Inv (F:Nat→Prop) (A:Arg) (w0:World) (fx:List Nat) (g:Nat→Value) (n:Nat) (st:TS) (a:Act) (w:World):Prop where
 rel:Rel F A w0 st a.tmps w
 fix: ∀i∈fx,a.tmps.getD i undef=g i
 defers:a.defers=[]
 size:n≤a.tmps.size
variable {fx : List Nat} {g : Nat → Value} {n : Nat}
theorem NO (a:Act) (d:Option Tmp) (v:Value):(a.put d v).tmps.size=a.tmps.size:=by cases d<;>simp[Act.put]
theorem put_defers (a:Act) (d:Option Tmp) (v:Value):(a.put d v).defers=a.defers:=by cases d<;>rfl
theorem ab1 {a:Act} {o:Oper} (ho:agM fx o=true) (hf: ∀i∈fx,a.tmps.getD i undef=g i) (v:Value): ∀i∈fx,(a.put o.dst v).tmps.getD i undef=g i:=fun i hi=>by
 cases hd:o.dst with
 |none=>exact hf i hi
 |some d=>
  have hne:i≠d:=fun e=>by
   subst e;unfold agM at ho;rw[hd] at ho;simp only[Gh] at ho;exact fP.1 ho hi
  show(a.tmps.setIfInBounds d v).getD i undef=g i;rw[getD_set_ne _ _ _ _ _ hne];exact hf i hi
theorem L8 {ops:Array Oper} {a:Act} {j t:Nat} {oj:Oper} {b:Bool} (hj:ops[j]?=some oj) (ht:oj.dst=some t) (hv:a.tmps.getD t undef= .bool b):yielded ops a.tmps j=some b:=by
 unfold yielded;rw[hj];simp only[Option.bind_some,ht]
 have hlt:t<a.tmps.size:=by
  rcases Nat.lt_or_ge t a.tmps.size with h|h
  ·exact h
  ·rw[zj,Array.getElem?_eq_none h] at hv
   cases hv
 rw[zk hlt];rw[zj,zk hlt] at hv;simp only[Option.getD_some] at hv;rw[hv]
theorem Wb {ops:Array Oper} {a:Act} {j t:Nat} {oj:Oper} (hj:ops[j]?=some oj) (ht:oj.dst=some t) (hv:a.tmps.getD t undef=undef):yielded ops a.tmps j=none:=by
 unfold yielded;rw[hj];simp only[Option.bind_some,ht];rw[zj] at hv
 cases h:a.tmps[t]? with
 |none=>rfl
 |some v=>
  rw[h] at hv;simp only[Option.getD_some] at hv;rw[hv]
  rfl
theorem aha {ob:List (Nat×OB)} {v:Value} (h:dK ob w φ (.v true []) v):v=undef:=by
 obtain⟨vs,rfl,h1,_⟩:=h;have:vs= #[]:=Array.eq_empty_of_size_eq_zero h1;rw[this];rfl
theorem ajR {ob:List (Nat×OB)}:dK ob w φ (.v true []) undef:=⟨#[],rfl,rfl,fun k c h=>by simp at h⟩
theorem bB.arX {tm:Array Value} (h:bB F A w0 φ st tm w) {d:Nat}:bB F A w0 φ (st.set d (.v true [])) (tm.setIfInBounds d undef) w where
 tmp i:=by
  rw[abB]
  by_cases hi:i=d
  ·subst hi
   rw[aI rfl]
   have:(tm.setIfInBounds i undef).getD i undef=undef:=by
    rw[zj,aaz];simp only[if_true]
    split<;>rfl
   rw[this];exact ajR
  ·rw[aF hi,getD_set_ne _ _ _ _ _ hi];exact h.tmp i
 box:=h.box
 obj:=h.obj
 sep:=h.sep
 frm:=h.frm
theorem DE {fl:List Nat} {ops:Array Oper} {a:Act} (h:bB F A w0 φ st a.tmps w) {o:Oper} {K:TS→Ev R} (hk:(guarded C fx fl ops st o K).holds cf lp Q):
 agM fx o=true∧((Region.wanted o (yielded ops a.tmps)=true∧ ∃fG,bB F A w0 φ fG a.tmps w∧Jg C ops fG o fl=true∧(sO C fG o K).holds cf lp Q)∨
  (Region.wanted o (yielded ops a.tmps)=false∧ ∃fG,bB F A w0 φ fG (a.put o.dst undef).tmps w∧(K fG).holds cf lp Q)):=by
 have fs: ∀{st:TS},(adl C fl ops st o K).holds cf lp Q→Jg C ops st o fl=true∧(sO C st o K).holds cf lp Q:=fun {st} hk=>by
  unfold adl at hk
  split at hk
  ·exact⟨by assumption,hk⟩
  ·exact hk.elim
 have skip: ∀{st:TS},bB F A w0 φ st a.tmps w→(adm st o K).holds cf lp Q→ ∃fG,bB F A w0 φ fG (a.put o.dst undef).tmps w∧(K fG).holds cf lp Q:=fun {st} h hk=>by
  unfold adm at hk
  cases hd:o.dst with
  |none=>rw[hd] at hk;exact⟨st,h,hk⟩
  |some d=>
   rw[hd] at hk;exact⟨_,h.arX,hk⟩
 have gg: ∀{st:TS} {b want:Bool} {j:Nat},bB F A w0 φ st a.tmps w→o.guard=some (j,want)→yielded ops a.tmps j=some b→(afr C fl ops st o b want K).holds cf lp Q→
  (Region.wanted o (yielded ops a.tmps)=true∧ ∃fG,bB F A w0 φ fG a.tmps w∧Jg C ops fG o fl=true∧(sO C fG o K).holds cf lp Q)∨
  (Region.wanted o (yielded ops a.tmps)=false∧ ∃fG,bB F A w0 φ fG (a.put o.dst undef).tmps w∧(K fG).holds cf lp Q):=fun {st b want j} h hg hy hk=>by
  have alq:Region.wanted o (yielded ops a.tmps)=(b==want):=by
   unfold Region.wanted;rw[hg];simp only[hy]
   cases b<;>cases want<;>rfl
  have no:(b==want)=false→(adm st o K).holds cf lp Q→Region.wanted o (yielded ops a.tmps)=false∧ ∃fG,bB F A w0 φ fG (a.put o.dst undef).tmps w∧(K fG).holds cf lp Q:=fun hb hk=>by
   exact⟨by rw[alq];exact hb,skip h hk⟩
  cases b with
  |true=>
   cases want with
   |true=>exact .inl ⟨by rw[alq];rfl,st,h,fs hk⟩
   |false=>exact .inr (no rfl hk)
  |false=>
   cases want with
   |true=>exact .inr (no rfl hk)
   |false=>exact .inl ⟨by rw[alq];rfl,st,h,fs hk⟩
 unfold guarded at hk
 split at hk
 ·exact hk.elim
 ·rename_i hok
  refine⟨hok,?_⟩
  split at hk
  ·rename_i hg
   exact .inl ⟨by unfold Region.wanted;rw[hg],st,h,fs hk⟩
  ·rename_i j want hg
   split at hk
   ·rename_i oj hj
    split at hk
    ·rename_i t ht
     have htv:=h.tmp t
     split at hk
     ·rename_i b hb
      rw[hb] at htv;exact gg h hg (L8 hj ht htv) hk
     ·rename_i b hb
      rw[hb] at htv;have hv:=sQ htv;exact gg (h.alK (d:=t) (e:= .kb b) hv) hg (L8 hj ht hv) hk
     ·rename_i hb
      rw[hb] at htv;refine .inr ⟨?_,skip h hk⟩;unfold Region.wanted;rw[hg];simp only[Wb hj ht (aha htv)]
      rfl
     ·exact hk.elim
    ·exact hk.elim
   ·exact hk.elim
theorem afV (hC:COk C) (Lk:V9 C cf) {fl:List Nat} {ops:Array Oper} {a:Act} (hi:Inv F A w0 fx g n st a w) {o:Oper} (hdB:V8 n o=true) {K:TS→Ev R} (hk:(guarded C fx fl ops st o K).holds cf lp Q) {Kc:Act→World→Prop} {Qc:Exit→Act→World→Prop}
 (hK: ∀st' v w',Inv F A w0 fx g n st' (a.put o.dst v) w'→(K st').holds cf lp Q→Kc (a.put o.dst v) w'):if Region.wanted o (yielded ops a.tmps) then o.wp C.P a w Kc Qc else Kc (a.put o.dst undef) w:=by
 obtain⟨⟨φ,h⟩,alr,als,hsz⟩:=hi;obtain⟨hok,hc⟩:=DE h hk;have mk: ∀{st' v w'},Rel F A w0 st' (a.put o.dst v).tmps w'→Inv F A w0 fx g n st' (a.put o.dst v) w':=fun hr=>⟨hr,ab1 hok alr _,by rw[put_defers];exact als,by rw[NO];exact hsz⟩;rcases hc with⟨hw,fG,h1,_,KM⟩|⟨hw,fG,h1,KM⟩
 ·rw[aI hw]
  exact adU hC Lk h1 (fun d hd=>by
   unfold V8 at hdB;rw[hd] at hdB;have hdB:Nat.ble (d+1) n=true:=hdB
   exact lY (show d<n from wG hdB) hsz) KM fun st' v w' hr hk' _ _=>hK st' v w' (mk hr) hk'
 ·rw[aF (by rw[hw];exact Bool.false_ne_true)]
  exact hK fG undef w (mk ⟨φ,h1⟩) KM
theorem aa0 (hC:COk C) (Lk:V9 C cf) {l:List Nat} {ops:Array Oper} {K:TS→Ev R} {Qc:Exit→Act→World→Prop} (hQ: ∀st a w,Inv F A w0 fx g n st a w→(K st).holds cf lp Q→Qc .normal a w):
 ∀(os:List Oper) (st:TS) (a:Act) (w:World),Sw n os=true→Inv F A w0 fx g n st a w→(abz C fx l ops os st K).holds cf lp Q→wpList C.P ops Qc os a w
 |[],st,a,w,_,hi,hk=>by
  simp only[abz] at hk;rw[xI] at hk;obtain⟨⟨φ,h⟩,h2,h3,h4⟩:=hi;exact hQ _ a w ⟨⟨φ,h.keep l⟩,h2,h3,h4⟩ hk
 |o::r,st,a,w,hb,hi,hk=>by
  simp only[Sw] at hb
  split at hb
  ·rename_i hd
   have:=afV hC Lk hi hd hk (Kc:=wpList C.P ops Qc r) (Qc:=Qc) fun st' v w' hi' hk'=>by
    rw[xI] at hk';exact aa0 hC Lk hQ r st' _ w' hb hi' hk'
   unfold wpList
   split
   ·rename_i hw;rw[aI hw] at this;exact .inl this
   ·rename_i hw;rw[aF hw] at this;exact this
  ·cases hb
end Go.T
