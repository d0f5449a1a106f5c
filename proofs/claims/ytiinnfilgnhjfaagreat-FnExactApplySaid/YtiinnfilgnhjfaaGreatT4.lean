import Derived.Test.YtiinnfilgnhjfaaGreatT3
import Derived.OrdersHeld
set_option linter.all false
namespace Go.T
variable {F : Nat → Prop} {A : Arg} {w0 w w' : World} {φ φ' : Fp} {st st' sta fR sK : TS} {tm Lo : Array Value} {C : pU}
variable {R : Type} {cf : Cf} {lp : Lp} {Q : R → Prop}
theorem LB: ∀{l:List Nat},Ls l=true↔l.Nodup
 |[]=>by simp[Ls]
 |a::r=>by
  simp only[Ls,List.nodup_cons]
  cases h:pI a r with
  |true=>simp[nD.1 h]
  |false=>simp only[LB (l:=r)];have:=fZ.1 h;simp[this]
def OU (w:World) (φ:Fp) (st:TS) (o:Nat) (i:Int) (f:Nat) (T0:Nat→Prop):Prop:=
 ∀b ad n c tc v,az o st.ob=some b→b.deep=true→φ.V o= .slice (some ad) n c→BE b.rows i.toNat f=some tc→w.cell? (ad.add (i.toNat*b.z+f))=some v→
  aB w φ.I .deep T0 tc v∧(∀k,T0 k→φ.S o k)∧ ∀(w':World) (tc':TC) (Rd' T1:Nat→Prop),aB w' Rd' .deep T1 tc' v→(∀k,φ.S o k→ ¬T0 k→w'.heap[k]?=w.heap[k]?)→(∀k,T1 k→T0 k∨ ¬φ.S o k)→
   aB w' Rd' .deep (fun k=>(φ.S o k∧ ¬T0 k)∨T1 k) (.sub b.z (va b.rows i.toNat f [tc'])) (φ.V o)
theorem aiP (h:bD F A w0 φ st tm w) (o:Nat) (i:Int) (f:Nat): ∃T0,OU w φ st o i f T0:=by
 by_cases hx: ∃b ad n c tc v,az o st.ob=some b∧b.deep=true∧φ.V o= .slice (some ad) n c∧BE b.rows i.toNat f=some tc∧w.cell? (ad.add (i.toNat*b.z+f))=some v
 ·obtain⟨b,ad,n,c,tc,v,h1,h2,h3,h4,h5⟩:=hx
  have hO:=h.obj o b h1;unfold rX at hO;rw[h3] at hO
  have hm:b.m= .deep:=by unfold OB.m;rw[h2];rfl
  rw[hm] at hO;obtain⟨V1,T0,v1,v2,v3,_,v5⟩:=aB.inner hO h4;refine⟨T0,fun b' ad' n' c' tc' v' g1 g2 g3 g4 g5=> ?_⟩;rw[h1] at g1;cases g1;rw[h3] at g3;cases g3;rw[h4] at g4;cases g4;rw[h5] at g5;cases g5;rw[h5] at v1;cases v1;refine⟨v2,fun k hk=>(v3 k hk).1,fun w' tc' Rd' T1 k1 k2 k3=> ?_⟩;rw[h3];exact(v5 w' tc' T1 (k1.I6 rfl) k2 k3).I6 rfl
 ·exact⟨OF,fun b ad n c tc v h1 h2 h3 h4 h5=>absurd ⟨b,ad,n,c,tc,v,h1,h2,h3,h4,h5⟩ hx⟩
noncomputable def aiQ (w:World) (φ:Fp) (st:TS) (o:Nat) (i:Int) (f:Nat):Nat→Prop:=Classical.epsilon (OU w φ st o i f)
theorem OV (h:bD F A w0 φ st tm w) (o:Nat) (i:Int) (f:Nat):OU w φ st o i f (aiQ w φ st o i f):=Classical.epsilon_spec (aiP h o i f)
noncomputable def zm (w:World) (φ:Fp) (st:TS) (e:CE):Nat→Prop:=match e with
 | .ref o _=>φ.S o
 | .snap _ (some (o,i,f)) _ _=>aiQ w φ st o i f
 |_=>OF
def nU:CE→Option Nat
 | .ref o _=>some o
 | .snap _ (some (o,_,_)) _ _=>some o
 |_=>none
theorem I9 {o:Nat} (h:DP st o=true): ∃z rows,az o st.ob=some ⟨true,z,rows⟩:=by
 unfold DP at h
 split at h
 ·rename_i z rows hl;exact⟨z,rows,hl⟩
 ·cases h
def af1 (st:TS) (c:Bool) (e:CE):Prop:=match e with
 | .sc _=>True
 | .nil _=>True
 | .ref o none=>DP st o=true
 | .ref o (some _)=>c=true∧DP st o=true
 | .snap _ (some (o,_,_)) _ _=>c=false∧DP st o=true
 |_=>False
def agM (e:CE):Prop:=match e with
 | .sc _=>True
 | .nil _=>True
 | .snap [] none _ _=>True
 |_=>False
def K0 (st:TS) (c:Bool) (m:Mode) (e:CE):Prop:=(m= .snap∧agM e)∨(m≠ .snap∧af1 st c e)
theorem agM.key {e:CE} (h:agM e):nU e=none:=by
 unfold agM at h
 split at h<;>first|rfl|exact h.elim
theorem K0.key {c:Bool} {m:Mode} {e:CE} {o:Nat} (h:K0 st c m e) (hk:nU e=some o):af1 st c e:=by
 rcases h with⟨_,h⟩|⟨_,h⟩
 ·rw[h.key] at hk;cases hk
 ·exact h
def mAt (ms:List Mode) (j:Nat):Mode:=(cz.inout ms).mc j
theorem Vl (ms:List Mode):mAt ms 0=(match ms.headD .deep with| .snap=> .snap|_=> .deep):=by cases ms with
 |nil=>rfl
 |cons m ms=>cases m<;>rfl
theorem Vm (ms:List Mode) (j:Nat):mAt ms (j+1)=mAt (ms.drop 1) j:=by cases ms<;>rfl
structure Ja (st:TS) (c:Bool) (ms:List Mode) (cs:List CE) (l:List Nat):Prop where
 one: ∀(j:Nat) (e:CE),cs[j]?=some e→K0 st c (mAt ms j) e∧ ∀o,nU e=some o→2*o∈l
 mem: ∀x∈l,∃o,x=2*o∧ ∃(j:Nat) (e:CE),cs[j]?=some e∧nU e=some o
 uniq:l.Nodup→ ∀(j j':Nat) (e e':CE) (o:Nat),cs[j]?=some e→cs[j']?=some e'→nU e=some o→nU e'=some o→j=j'
theorem Ja.plain {c:Bool} {ms:List Mode} {e0:CE} {r:List CE} {l:List Nat} (ih:Ja st c (ms.drop 1) r l) (ho:K0 st c (mAt ms 0) e0) (hk:nU e0=none):Ja st c ms (e0::r) l:=by
 refine⟨fun j e he=> ?_,fun x hx=> ?_,fun hn j j' e e' o he he' Ki hk2=> ?_⟩
 ·cases j with
  |zero=>simp only[gT,aY] at he;subst he;exact⟨ho,fun o h=>by rw[hk] at h;cases h⟩
  |succ j=>rw[Vm];exact ih.one j e (by simpa using he)
 ·obtain⟨o,a1,j,e,a2,a3⟩:=ih.mem x hx
  exact⟨o,a1,j+1,e,by simpa using a2,a3⟩
 ·cases j with
  |zero=>simp only[gT,aY] at he;subst he;rw[hk] at Ki;cases Ki
  |succ j=>
   cases j' with
   |zero=>simp only[gT,aY] at he';subst he';rw[hk] at hk2;cases hk2
   |succ j'=>rw[ih.uniq hn j j' e e' o (by simpa using he) (by simpa using he') Ki hk2]
theorem Ja.keyed {c:Bool} {ms:List Mode} {e0:CE} {r:List CE} {l0:List Nat} (ih:Ja st c (ms.drop 1) r l0) {o0:Nat} (ho:K0 st c (mAt ms 0) e0) (hk:nU e0=some o0):Ja st c ms (e0::r) ((2*o0)::l0):=by
 refine⟨fun j e he=> ?_,fun x hx=> ?_,fun hn j j' e e' o he he' Ki hk2=> ?_⟩
 ·cases j with
  |zero=>simp only[gT,aY] at he;subst he;exact⟨ho,fun o h=>by rw[hk] at h;cases h;exact .head _⟩
  |succ j=>rw[Vm];obtain⟨a,b⟩:=ih.one j e (by simpa using he);exact⟨a,fun o h=> .tail _ (b o h)⟩
 ·rcases gj.1 hx with rfl|hx
  ·exact⟨o0,rfl,0,e0,rfl,hk⟩
  ·obtain⟨o,a1,j,e,a2,a3⟩:=ih.mem x hx
   exact⟨o,a1,j+1,e,by simpa using a2,a3⟩
 ·have hn':=List.nodup_cons.1 hn
  cases j with
  |zero=>
   simp only[gT,aY] at he;subst he;rw[hk] at Ki;cases Ki
   cases j' with
   |zero=>rfl
   |succ j'=>exact absurd ((ih.one j' e' (by simpa using he')).2 _ hk2) hn'.1
  |succ j=>
   cases j' with
   |zero=>
    simp only[gT,aY] at he';subst he';rw[hk] at hk2;cases hk2;exact absurd ((ih.one j e (by simpa using he)).2 _ Ki) hn'.1
   |succ j'=>rw[ih.uniq hn'.2 j j' e e' o (by simpa using he) (by simpa using he') Ki hk2]
theorem Am {c:Bool}: ∀{ms:List Mode} {cs:List CE} {l:List Nat},zx st c ms cs=some l→Ja st c ms cs l
 |ms,[],l,h=>by
  have h:l=[]:=by cases ms<;>(cases h;rfl)
  subst h;exact⟨fun j e he=>by simp at he,fun x hx=>(by cases hx),fun _ j j' e e' o he=>by simp at he⟩
 |ms,e0::r,l,h=>by
  simp only[zx] at h
  cases hr:zx st c (ms.drop 1) r with
  |none=>rw[hr] at h;cases h
  |some l0=>
   rw[hr] at h;have ih:=Am hr
   by_cases hm:ms.headD .deep= .snap
   ·have hz:mAt ms 0= .snap:=by rw[Vl,hm]
    rw[hm] at h
    have pl:agM e0→l0=l→Ja st c ms (e0::r) l:=fun hf e=>by
     subst e;exact ih.plain (.inl ⟨hz,hf⟩) hf.key
    cases e0 with
    |sc v=>cases h;exact pl trivial rfl
    |nil z=>cases h;exact pl trivial rfl
    |snap ds loc z rows=>
     cases ds with
     |nil=>cases loc with
      |none=>cases h;exact pl trivial rfl
      |some q=>cases h
     |cons d ds=>cases h
    |_=>cases h
   ·have hz:mAt ms 0≠ .snap:=by rw[Vl];revert hm;cases ms.headD .deep<;>simp
    generalize ms.headD .deep=m at h hm
    cases e0 with
    |sc v=>have h:some l0=some l:=by cases m<;>first|exact h|exact absurd rfl hm
           cases h;exact ih.plain (.inr ⟨hz,trivial⟩) rfl
    |nil z=>have h:some l0=some l:=by cases m<;>first|exact h|exact absurd rfl hm
            cases h;exact ih.plain (.inr ⟨hz,trivial⟩) rfl
    |ref o cut=>
     cases cut with
     |none=>
      have h:(match DP st o with|true=>some ((2*o)::l0)|false=>none)=some l:=by cases m<;>first|exact h|exact absurd rfl hm
      cases hd:DP st o with
      |false=>rw[hd] at h;cases h
      |true=>rw[hd] at h;cases h;exact ih.keyed (o0:=o) (.inr ⟨hz,hd⟩) rfl
     |some q=>
      cases c with
      |false=>cases m<;>first|exact absurd rfl hm|cases h
      |true=>
       have h:DP st o=true∧some ((2*o)::l0)=some l:=by
        cases m<;>first|exact absurd rfl hm|(simp only at h;split at h<;>first|exact⟨by assumption,h⟩|cases h)
       obtain⟨hd,h⟩:=h
       cases h
       exact ih.keyed (o0:=o) (.inr ⟨hz,rfl,hd⟩) rfl
    |snap ds loc z rows=>
     cases loc with
     |none=>cases ds<;>cases m<;>first|exact absurd rfl hm|cases h
     |some q=>
      obtain⟨o,i,f⟩:=q
      cases c with
      |true=>cases ds<;>cases m<;>first|exact absurd rfl hm|cases h
      |false=>
       have h:DP st o=true∧some ((2*o)::l0)=some l:=by
        cases m<;>first|exact absurd rfl hm|(simp only at h;split at h<;>first|exact⟨by assumption,h⟩|cases h)
       obtain⟨hd,h⟩:=h
       cases h
       exact ih.keyed (o0:=o) (.inr ⟨hz,rfl,hd⟩) rfl
    |gone=>cases m<;>first|exact absurd rfl hm|cases h
theorem qz: ∀{cs:List CE} {ts:List TC},zw st cs=some ts→ts.length=cs.length∧ ∀(j:Nat) (c:TC),ts[j]?=some c→ ∃e,cs[j]?=some e∧IS st e=some c
 |[],ts,h=>by cases h;exact⟨rfl,fun j c hj=>by simp at hj⟩
 |e::r,ts,h=>by
  simp only[zw] at h
  split at h
  ·rename_i c cs' h1 h2
   cases h
   obtain⟨g1,g2⟩:=qz h2;refine⟨by simp[g1],fun j c' hj=> ?_⟩
   cases j with
   |zero=>simp only[gT,aY] at hj;subst hj;exact⟨e,rfl,h1⟩
   |succ j=>obtain⟨e',a,b⟩:=g2 j c' (by simpa using hj);exact⟨e',by simpa using a,b⟩
  ·cases h
theorem OW (h:bD F A w0 φ st tm w) {e:CE} {v:Value} (he:e9 st.ob w φ e v) {c:TC} (hc:IS st e=some c):aB w (rd φ (iX e)) .snap OF c v∧ ∀d∈iX e,d=0∨aT st.ob d:=by
 unfold IS at hc
 split at hc
 ·cases hc
  obtain⟨rfl,hs⟩:=he;exact⟨.sc _ _ _ hs,fun d hd=>by cases hd⟩
 ·split at hc
  ·rename_i z rows hr
   cases hc
   exact wh h he hr
  ·cases hc
theorem aiR (h:bD F A w0 φ st tm w) {e:CE} {v:Value} (he:e9 st.ob w φ e v) {c:TC} (hc:IS st e=some c) {cb:Bool} (ho:af1 st cb e) {Rd:Nat→Prop}:aB w Rd .deep (zm w φ st e) c v∧(∀k,zm w φ st e k→ ∃o,nU e=some o∧aT st.ob o∧φ.S o k):=by
 cases e with
 |sc x=>cases hc;obtain⟨rfl,hs⟩:=he;exact⟨.sc _ _ _ hs,fun k hk=>hk.elim⟩
 |nil z=>cases hc;obtain⟨rfl,hz⟩:=he;exact⟨Fe hz,fun k hk=>hk.elim⟩
 |ref o cut=>
  have hd:DP st o=true:=by cases cut with
   |none=>exact ho
   |some _=>exact ho.2
  obtain⟨z,rows,hl⟩:=I9 hd;obtain⟨b,h1,h2⟩:=he;rw[hl] at h1;cases h1;simp only[IS,sR,hl] at hc
  cases hc
  exact⟨(rX.cut (h.obj o _ hl) h2:aB w φ.I .deep (φ.S o) _ _).I6 rfl,fun k hk=>⟨o,rfl,⟨_,hl⟩,hk⟩⟩
 |snap ds loc z rows=>
  cases loc with
  |none=>exact ho.elim
  |some q=>
   obtain⟨o,i,f⟩:=q;obtain⟨z0,uC,hl⟩:=I9 ho.2;obtain⟨h1,h2,h3⟩:=he;obtain⟨_,b,g1,g2,g3,ad,n,c',g4,g5⟩:=h3 o i f rfl;rw[hl] at g1;cases g1;simp only[IS,sR] at hc
   cases hc
   obtain⟨k1,k2,_⟩:=OV h o i f _ ad n c' _ v hl rfl g4 g3 g5;exact⟨k1.I6 rfl,fun k hk=>⟨o,rfl,⟨_,hl⟩,k2 k hk⟩⟩
 |gone=>exact ho.elim
def Jb (φ:Fp) (st:TS) (qt:List Nat) (k:Nat):Prop:=φ.I k∨ ∃o,2*o∈qt∧(o=0∨aT st.ob o)∧φ.S o k
def Xz (φ:Fp) (st:TS) (qt:List Nat) (k:Nat):Prop:=Jb φ st qt k∨ ∃b cs,2*b+1∈qt∧az b st.bx=some cs∧k=(φ.β b).block
theorem rg_of {ds qt:List Nat} (hd: ∀d∈ds,d=0∨aT st.ob d) (hr: ∀d∈ds,2*d∈qt) {k:Nat} (hk:rd φ ds k):Jb φ st qt k:=by
 rcases hk with hk|⟨d,hm,hk⟩
 ·exact .inl hk
 ·exact .inr ⟨d,hr d hm,hd d hm,hk⟩
theorem Z6 (h:bD F A w0 φ st tm w) {b:Nat} {cs:List CE} (hb:az b st.bx=some cs) {off:Nat} {ts:List TC} (hc:zw st (cs.drop off)=some ts) {qt:List Nat} (hr: ∀d∈E6 st b,d∈qt):
 Xz φ st qt (φ.β b).block∧ ∀(j:Nat) (c:TC),ts[j]?=some c→ ∃u,w.cell? (((φ.β b).add off).add j)=some u∧aB w (Jb φ st qt) .snap OF c u:=by
 have hbd:E6 st b=(2*b+1)::(cs.flatMap iX).map (2* ·):=by unfold E6;rw[hb]
 rw[hbd] at hr;refine⟨.inr ⟨b,cs,hr _ (.head _),hb,rfl⟩,fun j c hj=> ?_⟩;obtain⟨e,he,hce⟩:=(qz hc).2 j c hj;rw[uw] at he;obtain⟨u,u1,u2,u3⟩:=h.box b cs hb _ e he;obtain⟨k1,k2⟩:=OW h u3 hce;refine⟨u,by rw[Addr.add_add];exact u1,k1.uy fun k hk=>rg_of k2 (fun d hd=>hr _ (.tail _ (List.mem_map.2 ⟨d,List.mem_flatMap.2 ⟨e,iV he,hd⟩,rfl⟩))) hk⟩
theorem Vn: ∀{caps:List Nat} {xs:List (List TC)},aaE st caps=some xs→xs.length=caps.length∧ ∀(i:Nat) (ts:List TC),xs[i]?=some ts→ ∃b cs,caps[i]?=some b∧az b st.bx=some cs∧zw st cs=some ts
 |[],xs,h=>by cases h;exact⟨rfl,fun i ts hi=>by simp at hi⟩
 |b::r,xs,h=>by
  simp only[aaE] at h
  split at h
  ·rename_i cs hb
   split at h
   ·rename_i c cs' h1 h2
    cases h
    obtain⟨g1,g2⟩:=Vn h2;refine⟨by simp[g1],fun i ts hi=> ?_⟩
    cases i with
    |zero=>simp only[gT,aY] at hi;subst hi;exact⟨b,cs,rfl,hb,h1⟩
    |succ i=>obtain⟨b',cs',a,b'',c⟩:=g2 i ts (by simpa using hi);exact⟨b',cs',by simpa using a,b'',c⟩
   ·cases h
  ·cases h
theorem aeP (h:bD F A w0 φ st tm w) {e:TE} {x:Value} (ht:dO st.ob w φ e x) {qt:List Nat} (hr: ∀d∈wL st e,d∈qt) {X:Nat→Nat→Prop} {Y:Nat→Prop} {K:TV→Ev R} (hk:(ah9 st e K).holds cf lp Q):
 ∃v,DW w .borrow (Jb φ st qt) (Xz φ st qt) X Y v x∧(K v).holds cf lp Q:=by
 have cells: ∀{cs:List CE} {ts:List TC} {xs:Array Value},zw st cs=some ts→(∀d∈cs.flatMap iX,2*d∈qt)→(∀(j:Nat) (e:CE),cs[j]?=some e→ ∃y,xs[j]?=some y∧y.cells= #[y]∧e9 st.ob w φ e y)→
  ∀(j:Nat) (c:TC),ts[j]?=some c→ ∃u,xs[j]?=some u∧ ∀X:Nat→Prop,aB w (Jb φ st qt) .snap X c u:=fun {cs ts xs} hc hd hx j c hj=>by
  obtain⟨e,he,hce⟩:=(qz hc).2 j c hj;obtain⟨y,y1,_,y3⟩:=hx j e he;obtain⟨k1,k2⟩:=OW h y3 hce;exact⟨y,y1,fun X=>k1.uy fun k hk=>rg_of k2 (fun d hd'=>hd d (List.mem_flatMap.2 ⟨e,iV he,hd'⟩)) hk⟩
 unfold ah9 at hk
 split at hk
 ·rename_i ag cs
  obtain⟨c0,e0,ht⟩:=ht
  cases e0
  have hdd: ∀d∈cs.flatMap iX,2*d∈qt:=fun d hd=>hr _ (List.mem_map.2 ⟨d,by simp only[kW,qv];exact hd,rfl⟩)
  split at hk
  ·rename_i ts hc
   split at hk
   ·obtain⟨xs,rfl,hsz,hx⟩:=ht
    refine⟨.ag ts,⟨xs,rfl,by rw[(qz hc).1];exact hsz,fun j c hj=> ?_⟩,hk⟩;obtain⟨u,u1,u2⟩:=cells hc hdd hx j c hj;exact⟨u,u1,u2 _⟩
   ·rename_i c
    obtain⟨e1,rfl,hv,hce⟩:=ht
    obtain⟨u,u1,u2⟩:=cells (xs:= #[x]) hc hdd (fun j e he=>by
     cases j with
     |zero=>simp only[gT,aY] at he;subst he;exact⟨x,rfl,hv,hce⟩
     |succ j=>simp at he) 0 c rfl
    have:x=u:=by simpa using u1
    subst this;exact⟨.c c,u2 _,hk⟩
   ·exact hk.elim
  ·exact hk.elim
 ·rename_i b
  have ht:x= .bool b:=ht;exact⟨.c (.sc (.bool b)),(by rw[ht];exact .sc _ _ _ trivial:aB w (Jb φ st qt) (cz.borrow.mc 0) (X 0) (.sc (.bool b)) x),hk⟩
 ·rename_i b off
  have ht:x= .pointer (some ((φ.β b).add off)):=ht
  split at hk
  ·rename_i cs hb
   split at hk
   ·rename_i ts hc
    obtain⟨b1,b2⟩:=Z6 h hb hc (qt:=qt) hr;refine⟨.bx ts,⟨_,ht,by rw[dm];exact(h.sep.spot b cs hb).2.1,fun _=>by rw[dm];exact b1,fun hn=>absurd rfl hn,fun j c hj=> ?_⟩,hk⟩;obtain⟨u,u1,u2⟩:=b2 j c hj;exact⟨u,u1,u2.uy fun _ h=>h⟩
   ·exact hk.elim
  ·exact hk.elim
 ·rename_i ds c0 aoB
  obtain⟨hd,ad,hv,hb,hc⟩:=ht;have hrr: ∀{k},rd φ ds k→Jb φ st qt k:=fun hk=>rg_of hd (fun d hm=>hr _ (List.mem_map.2 ⟨d,hm,rfl⟩)) hk;have hbk:=hb dh;refine⟨.bx _,⟨ad,hv,h.sep.ane h.frm.size hd hbk,fun _=> .inl (hrr hbk),fun hn=>absurd rfl hn,fun j c hj=> ?_⟩,hk⟩;obtain⟨u,u1,u2⟩:=hc j c hj;exact⟨u,u1,u2.uy fun k hk=>hrr hk⟩
 ·rename_i r p i f
  obtain⟨b0,hb0,_⟩:=id ht;obtain⟨ad,aoB,hv,hb,hc,hk,_⟩:=U9 h.obj ht hk
  have hd: ∀d∈[r],d=0∨aT st.ob d:=fun d hm=>by simp only[qw] at hm;subst hm;exact .inr ⟨_,hb0⟩
  have hrr: ∀{k},rd φ [r] k→Jb φ st qt k:=fun hk=>rg_of hd (fun d hm=>hr _ (by simp only[qw] at hm;subst hm;exact .head _)) hk
  split at hk
  ·exact hk.elim
  ·rename_i c1 ark
   have hbk:=hb dh;refine⟨.bx _,⟨ad,hv,h.sep.ane h.frm.size hd hbk,fun _=> .inl (hrr hbk),fun hn=>absurd rfl hn,fun j c hj=> ?_⟩,hk⟩;obtain⟨u,u1,u2⟩:=hc j c hj;exact⟨u,u1,u2.uy fun k hk=>hrr hk⟩
 ·rename_i f caps
  have ht:x= .func (.func f) #[] (caps.map fun b=>Value.pointer (some (φ.β b))).toArray:=ht
  split at hk
  ·rename_i xs hc
   obtain⟨g1,g2⟩:=Vn hc;refine⟨.fn f xs,⟨rfl,caps.map φ.β,by rw[ct,g1],by rw[ht,List.map_map];rfl,fun i ts hi=> ?_⟩,hk⟩;obtain⟨b,cs,c1,c2,c3⟩:=g2 i ts hi;obtain⟨b1,b2⟩:=Z6 h c2 (off:=0) (by rw[List.drop_zero];exact c3) (qt:=qt) (fun d hd=>hr d (List.mem_flatMap.2 ⟨b,iV c1,hd⟩));refine⟨φ.β b,by rw[mm,c1];rfl,(h.sep.spot b cs c2).2.1,b1,fun j c hj=> ?_⟩;obtain⟨u,u1,u2⟩:=b2 j c hj;rw[Addr.add_zero'] at u1
   exact⟨u,u1,u2⟩
  ·exact hk.elim
 ·exact hk.elim
def jw (st:TS):TE→List CE
 | .v false [.mk _ cs]=>cs
 | .bp b _=>match az b st.bx with|some cs=>cs|none=>[]
 |_=>[]
def DY:cz→Bool
 | .consume=>true
 |_=>false
theorem OX (h:bD F A w0 φ st tm w) {e:CE} {v:Value} (he:e9 st.ob w φ e v) {c:TC} (hc:IS st e=some c) {cb:Bool} {m:Mode} (ho:K0 st cb m e) (hm:m= .snap∨m= .deep) {Rd:Nat→Prop} (hR: ∀k,φ.I k→Rd k):aB w Rd m (zm w φ st e) c v:=by
 rcases ho with⟨rfl,hf⟩|⟨hn,ho⟩
 ·obtain⟨k1,_⟩:=OW h he hc
  have hd:iX e=[]:=by
   unfold agM at hf
   split at hf<;>first|rfl|exact hf.elim
  rw[hd] at k1
  exact k1.uy fun k hk=>hk.elim (hR k) fun⟨d,hd,_⟩=>by cases hd
 ·rcases hm with rfl|rfl
  ·exact absurd rfl hn
  ·exact(aiR h he hc ho).1
theorem aeQ (p:cz) (j:Nat):p.mc j= .snap∨p.mc j= .deep:=by
 cases hm:p.mc j with
 |snap=>exact .inl rfl
 |top=>have:=cz.UE (p:=p) (j:=j) (by rw[hm];simp);rw[hm] at this;cases this
 |deep=>exact .inr rfl
theorem amA {p:cz} (hp:p≠ .borrow) (j:Nat):p.mc j=mAt p.ms j:=by
 cases p with
 |borrow=>exact absurd rfl hp
 |inout ms=>rfl
 |consume=>rfl
theorem ak4 (h:bD F A w0 φ st tm w) {e:TE} {x:Value} (ht:dO st.ob w φ e x) {p:cz} (hp:p≠ .borrow) {l:List Nat} (ho:vJ st (DY p) p.ms e=some l) {Rg BB:Nat→Prop} (hR: ∀k,φ.I k→Rg k) {K:TV→Ev R} (hk:(ah9 st e K).holds cf lp Q):
 ∃v,DW w p Rg BB (fun j=>zm w φ st ((jw st e).getD j .gone)) (fun k=> ∃b,e= .bp b 0∧k=(φ.β b).block) v x∧(K v).holds cf lp Q:=by
 unfold ah9 at hk
 split at hk
 ·rename_i ag cs
  obtain⟨hms,ho⟩:p.ms=[]∧zx st (DY p) [] cs=some l:=by
   have ho:(match p.ms with|[]=>zx st (DY p) [] cs|_=>none)=some l:=ho
   cases hms:p.ms with
   |nil=>rw[hms] at ho;exact⟨rfl,ho⟩
   |cons m ms=>rw[hms] at ho;cases ho
  obtain⟨o1,o2,o3⟩:=Am ho;obtain⟨c0,e0,ht⟩:=ht
  cases e0
  have Bt: ∀{j:Nat} {e:CE},cs[j]?=some e→(jw st (.v false [.mk ag cs])).getD j .gone=e:=fun {j e} he=>by simp[jw,List.getD,he]
  have hmc: ∀j,p.mc j=mAt [] j:=fun j=>by rw[amA hp,hms]
  split at hk
  ·rename_i ts hc
   split at hk
   ·obtain⟨xs,rfl,hsz,hx⟩:=ht
    refine⟨.ag ts,⟨xs,rfl,by rw[(qz hc).1];exact hsz,fun j c hj=> ?_⟩,hk⟩;obtain⟨e,he,hce⟩:=(qz hc).2 j c hj;obtain⟨y,y1,_,y3⟩:=hx j e he;refine⟨y,y1,?_⟩;show aB w Rg (p.mc j) (zm w φ st ((jw st (.v false [.mk true cs])).getD j .gone)) c y;rw[Bt he];exact OX h y3 hce (by rw[hmc];exact(o1 j e he).1) (aeQ p j) hR
   ·rename_i c
    obtain⟨e1,rfl,hv,hce⟩:=ht;obtain⟨e,he,hcc⟩:=(qz hc).2 0 c rfl;simp only[gT,aY] at he;subst he;refine⟨.c c,?_,hk⟩;show aB w Rg (p.mc 0) _ c x;exact OX h hce hcc (by rw[hmc];exact(o1 0 _ rfl).1) (aeQ p 0) hR
   ·exact hk.elim
  ·exact hk.elim
 ·cases ho
 ·rename_i b off
  have ht:x= .pointer (some ((φ.β b).add off)):=ht;unfold vJ at ho
  split at ho
  ·rename_i e0;cases e0
  ·rename_i e0
   cases e0
   split at ho
   ·rename_i cs hcb KQ hb
    split at ho
    ·rename_i l0 hl
     obtain⟨o1,o2,o3⟩:=Am hl;rw[hb] at hk;simp only[List.drop_zero] at hk
     split at hk
     ·rename_i ts hc
      rw[Addr.add_zero'] at ht;obtain⟨g1,g2⟩:=qz hc;refine⟨.bx ts,⟨_,ht,(h.sep.spot b cs hb).2.1,fun e=>absurd e hp,fun _=>⟨(h.sep.spot b cs hb).1 KQ,⟨b,rfl,rfl⟩,fun j hj=>h.sep.soft b cs j hb KQ an⟩,fun j c hj=> ?_⟩,hk⟩;obtain⟨e,he,hce⟩:=g2 j c hj;obtain⟨u,u1,u2,u3⟩:=h.box b cs hb j e he;refine⟨u,u1,?_⟩
      have:(jw st (.bp b 0)).getD j .gone=e:=by simp[jw,hb,List.getD,he]
      show aB w Rg (p.mc j) (zm w φ st ((jw st (.bp b 0)).getD j .gone)) c u;rw[this];exact OX h u3 hce (by rw[amA hp];exact(o1 j e he).1) (aeQ p j) hR
     ·exact hk.elim
    ·cases ho
   ·cases ho
  ·cases ho
 ·cases ho
 ·cases ho
 ·cases ho
 ·exact hk.elim
end Go.T
namespace Go.T
variable {F : Nat → Prop} {A : Arg} {w0 w w' : World} {φ φ' : Fp} {st st' sta fR sK : TS} {tm Lo : Array Value} {C : pU}
variable {R : Type} {cf : Cf} {lp : Lp} {Q : R → Prop}
theorem aiS (h:bD F A w0 φ st tm w) {e:CE} {v:Value} (he:e9 st.ob w φ e v) {cb:Bool} {m:Mode} (ho:K0 st cb m e) {k:Nat} (hk:zm w φ st e k): ∃o,nU e=some o∧aT st.ob o∧φ.S o k:=by
 cases e with
 |sc x=>exact hk.elim
 |nil z=>exact hk.elim
 |ref o cut=>obtain⟨b,h1,_⟩:=he;exact⟨o,rfl,⟨b,h1⟩,hk⟩
 |snap ds loc z rows=>
  cases loc with
  |none=>exact hk.elim
  |some q=>
   obtain⟨o,i,f⟩:=q;have ho:=ho.key (o:=o) rfl;obtain⟨z0,uC,hl⟩:=I9 ho.2;obtain⟨_,_,h3⟩:=he;obtain⟨_,b,g1,g2,g3,ad,n,c',g4,g5⟩:=h3 o i f rfl;rw[hl] at g1;cases g1;exact⟨o,rfl,⟨_,hl⟩,(OV h o i f _ ad n c' _ v hl rfl g4 g3 g5).2.1 k hk⟩
 |gone=>exact hk.elim
structure aiT (st:TS) (c:Bool) (ms:List Mode) (e:TE) (l:List Nat):Prop where
 one: ∀(j:Nat) (e':CE),(jw st e)[j]?=some e'→(∃cb m,K0 st cb m e'∧(c=true→cb=true))∧ ∀o,nU e'=some o→2*o∈l
 mem: ∀o,2*o∈l→ ∃(j:Nat) (e':CE),(jw st e)[j]?=some e'∧nU e'=some o
 uniq:l.Nodup→ ∀(j j':Nat) (e1 e2:CE) (o:Nat),(jw st e)[j]?=some e1→(jw st e)[j']?=some e2→nU e1=some o→nU e2=some o→j=j'
 bx: ∀b off,e= .bp b off→off=0∧c=false∧DJ b=true∧2*b+1∈l∧az b st.bx=some (jw st e)∧ ∀(j:Nat) (e':CE),(jw st e)[j]?=some e'→K0 st true (mAt ms j) e'
 form:(∃b,e= .bp b 0)∨(ms=[]∧ ∃ag cs,e= .v false [.mk ag cs]∧ ∀(j:Nat) (e':CE),cs[j]?=some e'→K0 st c .deep e')
theorem OY {c:Bool} {ms:List Mode} {e:TE} {l:List Nat} (h:vJ st c ms e=some l):aiT st c ms e l:=by
 unfold vJ at h
 split at h
 ·rename_i ag cs
  obtain⟨rfl,h⟩:ms=[]∧zx st c [] cs=some l:=by
   cases ms with
   |nil=>exact⟨rfl,h⟩
   |cons m ms=>cases h
  have ok:=Am h;refine⟨fun j e' he=>⟨⟨c,_,(ok.one j e' he).1,id⟩,(ok.one j e' he).2⟩,fun o ho=> ?_,fun hn j j' e1 e2 o h1 h2=>ok.uniq hn j j' e1 e2 o h1 h2,fun b off e=>(by cases e),.inr ⟨rfl,ag,cs,rfl,fun j e' he=>(ok.one j e' he).1⟩⟩;obtain⟨o',e1,j,e',h1,h2⟩:=ok.mem _ ho
  have:o=o':=by omega
  subst this;exact⟨j,e',h1,h2⟩
 ·rename_i b
  split at h
  ·rename_i cs hw hb
   split at h
   ·rename_i l0 hl
    cases h
    have ok:=Am hl
    have hcs:jw st (.bp b 0)=cs:=by simp[jw,hb]
    refine⟨fun j e' he=> ?_,fun o ho=> ?_,fun hn j j' e1 e2 o h1 h2=> ?_,fun b' off e=> ?_,.inl ⟨b,rfl⟩⟩
    ·rw[hcs] at he
     exact⟨⟨true,_,(ok.one j e' he).1,fun _=>rfl⟩,fun o ho=> .tail _ ((ok.one j e' he).2 o ho)⟩
    ·rw[hcs]
     rcases gj.1 ho with ho|ho
     ·omega
     ·obtain⟨o',e1,j,e',h1,h2⟩:=ok.mem _ ho
      have:o=o':=by omega
      subst this;exact⟨j,e',h1,h2⟩
    ·rw[hcs] at h1 h2
     exact ok.uniq (List.nodup_cons.1 hn).2 j j' e1 e2 o h1 h2
    ·cases e
     rw[hcs];exact⟨rfl,rfl,hw,.head _,hb,fun j e' he=>(ok.one j e' he).1⟩
   ·cases h
  ·cases h
 ·cases h
theorem Fi (h:bD F A w0 φ st tm w) {e:TE} {x:Value} (ht:dO st.ob w φ e x) {j:Nat} {e':CE} (he:(jw st e)[j]?=some e'): ∃v,e9 st.ob w φ e' v:=by
 unfold jw at he
 split at he
 ·rename_i ag cs
  obtain⟨y,_,_,h3⟩:=(xH (cs:=cs) ht rfl).2 j e' he;exact⟨y,h3⟩
 ·split at he
  ·rename_i cs hb
   obtain⟨v,_,_,h3⟩:=h.box _ cs hb j e' he;exact⟨v,h3⟩
  ·simp at he
 ·simp at he
structure Dn (st:TS) (ps:List cz) (es:List TE) (own qt:List Nat):Prop where
 len:ps.length=es.length
 rd: ∀(i:Nat) (e:TE),ps[i]?=some .borrow→es[i]?=some e→ ∀d∈wL st e,d∈qt
 ow: ∀(i:Nat) (p:cz) (e:TE),ps[i]?=some p→es[i]?=some e→p≠ .borrow→ ∃l,aiT st (DY p) p.ms e l∧(∀x∈l,x∈own)∧(own.Nodup→l.Nodup)∧vJ st (DY p) p.ms e=some l
 uniq:own.Nodup→ ∀(i i':Nat) (p p':cz) (e e':TE) (l l':List Nat) (x:Nat),ps[i]?=some p→ps[i']?=some p'→es[i]?=some e→es[i']?=some e'→p≠ .borrow→p'≠ .borrow→vJ st (DY p) p.ms e=some l→vJ st (DY p') p'.ms e'=some l'→x∈l→x∈l'→i=i'
 mem: ∀x∈own,∃(i:Nat) (p:cz) (e:TE) (l:List Nat),ps[i]?=some p∧es[i]?=some e∧p≠ .borrow∧vJ st (DY p) p.ms e=some l∧x∈l
theorem DZ: ∀{ps:List cz} {es:List TE} {own qt:List Nat},E7 st ps es=some (own,qt)→Dn st ps es own qt
 |[],[],own,qt,h=>by
  cases h
  exact⟨rfl,fun i e h=>by simp at h,fun i p e h=>by simp at h,fun _ i i' p p' e e' l l' x h=>by simp at h,fun x hx=>by cases hx⟩
 |[],_::_,_,_,h=>by cases h
 |_::_,[],_,_,h=>by cases h
 |p::ps,e::es,own,qt,h=>by
  simp only[E7] at h
  split at h
  ·rename_i own0 rd0 hg
   have ih:=DZ hg
   by_cases hp:p= .borrow
   ·subst hp
    cases h
    refine⟨by simp[ih.len],fun i e' h1 h2 d hd=> ?_,fun i p' e' h1 h2 hp'=> ?_,fun hn i i' p' p'' e' e'' l l' x h1 h2 h3 h4 hp1 hp2 h5 h6 h7 h8=> ?_,fun x hx=> ?_⟩
    ·cases i with
     |zero=>simp only[gT,aY] at h2;subst h2;exact mo _ hd
     |succ i=>exact r9 _ (ih.rd i e' (by simpa using h1) (by simpa using h2) d hd)
    ·cases i with
     |zero=>simp only[gT,aY] at h1;exact absurd h1.symm hp'
     |succ i=>exact ih.ow i p' e' (by simpa using h1) (by simpa using h2) hp'
    ·cases i with
     |zero=>simp only[gT,aY] at h1;exact absurd h1.symm hp1
     |succ i=>
      cases i' with
      |zero=>simp only[gT,aY] at h2;exact absurd h2.symm hp2
      |succ i'=>rw[ih.uniq hn i i' p' p'' e' e'' l l' x (by simpa using h1) (by simpa using h2) (by simpa using h3) (by simpa using h4) hp1 hp2 h5 h6 h7 h8]
    ·obtain⟨i,p',e',l,a1,a2,a3⟩:=ih.mem x hx
     exact⟨i+1,p',e',l,by simpa using a1,by simpa using a2,a3⟩
   ·obtain⟨l0,Lq,hown⟩: ∃l0,vJ st (DY p) p.ms e=some l0∧(own,qt)=(l0++own0,rd0):=by
     cases p with
     |borrow=>exact absurd rfl hp
     |inout ms=>simp only at h;split at h;(rename_i l hl;exact⟨l,hl,by cases h;rfl⟩);cases h
     |consume=>simp only at h;split at h;(rename_i l hl;exact⟨l,hl,by cases h;rfl⟩);cases h
    cases hown
    refine⟨by simp[ih.len],fun i e' h1 h2 d hd=> ?_,fun i p' e' h1 h2 hp'=> ?_,fun hn i i' p' p'' e' e'' l l' x h1 h2 h3 h4 hp1 hp2 h5 h6 h7 h8=> ?_,fun x hx=> ?_⟩
    ·cases i with
     |zero=>simp only[gT,aY] at h1;exact absurd h1 hp
     |succ i=>exact ih.rd i e' (by simpa using h1) (by simpa using h2) d hd
    ·cases i with
     |zero=>
      simp only[gT,aY] at h1 h2;subst h1 h2;exact⟨l0,OY Lq,fun x hx=>mo _ hx,fun hn=>(List.nodup_append.1 hn).1,Lq⟩
     |succ i=>
      obtain⟨l,a,b,c,d⟩:=ih.ow i p' e' (by simpa using h1) (by simpa using h2) hp';exact⟨l,a,fun x hx=>r9 _ (b x hx),fun hn=>c (List.nodup_append.1 hn).2.1,d⟩
    ·have hd:=List.nodup_append.1 hn
     have tail: ∀{i:Nat} {p':cz} {e':TE} {l:List Nat},ps[i]?=some p'→es[i]?=some e'→p'≠ .borrow→vJ st (DY p') p'.ms e'=some l→x∈l→x∈own0:=fun {i p' e' l} a1 a2 a3 a4 a5=>by
      obtain⟨l2,_,b,_,d⟩:=ih.ow i p' e' a1 a2 a3;rw[a4] at d;cases d;exact b x a5
     cases i with
     |zero=>
      simp only[gT,aY] at h1 h3;subst h1 h3;rw[Lq] at h5;cases h5
      cases i' with
      |zero=>rfl
      |succ i'=>exact absurd rfl (hd.2.2 x h7 x (tail (by simpa using h2) (by simpa using h4) hp2 h6 h8))
     |succ i=>
      cases i' with
      |zero=>
       simp only[gT,aY] at h2 h4;subst h2 h4;rw[Lq] at h6;cases h6;exact absurd rfl (hd.2.2 x h8 x (tail (by simpa using h1) (by simpa using h3) hp1 h5 h7))
      |succ i'=>rw[ih.uniq hd.2.1 i i' p' p'' e' e'' l l' x (by simpa using h1) (by simpa using h2) (by simpa using h3) (by simpa using h4) hp1 hp2 h5 h6 h7 h8]
    ·rcases List.mem_append.1 hx with hx|hx
     ·exact⟨0,p,e,l0,rfl,rfl,hp,Lq,hx⟩
     ·obtain⟨i,p',e',l,a1,a2,a3⟩:=ih.mem x hx
      exact⟨i+1,p',e',l,by simpa using a1,by simpa using a2,a3⟩
  ·cases h
noncomputable def XOf (w:World) (φ:Fp) (st:TS) (ps:List cz) (es:List TE) (i j k:Nat):Prop:=
 ∃p e,ps[i]?=some p∧es[i]?=some e∧p≠ .borrow∧zm w φ st ((jw st e).getD j .gone) k
def YOf (φ:Fp) (ps:List cz) (es:List TE) (i k:Nat):Prop:= ∃p b,ps[i]?=some p∧es[i]?=some (.bp b 0)∧p≠ .borrow∧k=(φ.β b).block
theorem Ng (h:bD F A w0 φ st tm w) {ps:List cz} {es:List TE} {own qt:List Nat} (g:Dn st ps es own qt) {xs:List Value} (Q8: ∀(i:Nat) (e:TE),es[i]?=some e→ ∃x,xs[i]?=some x∧dO st.ob w φ e x) {i j k:Nat} (hx:XOf w φ st ps es i j k):
 ∃p e e' o l,ps[i]?=some p∧es[i]?=some e∧p≠ .borrow∧(jw st e)[j]?=some e'∧nU e'=some o∧aT st.ob o∧φ.S o k∧vJ st (DY p) p.ms e=some l∧2*o∈l∧2*o∈own:=by
 obtain⟨p,e,h1,h2,hp,hk⟩:=hx;obtain⟨l,ok,hl,_,Lq⟩:=g.ow i p e h1 h2 hp;obtain⟨x,_,ht⟩:=Q8 i e h2
 cases he:(jw st e)[j]? with
 |none=>rw[List.getD,he] at hk;exact hk.elim
 |some e'=>
  rw[List.getD,he] at hk;obtain⟨v,hv⟩:=Fi h ht he;obtain⟨⟨cb,_,ho,_⟩,hkey⟩:=ok.one j e' he;obtain⟨o,k1,k2,k3⟩:=aiS h hv ho hk;exact⟨p,e,e',o,l,h1,h2,hp,he,k1,k2,k3,Lq,hkey o k1,hl _ (hkey o k1)⟩
theorem aiU (h:bD F A w0 φ st tm w) {qt:List Nat} {Xs:Nat→Nat→Nat→Prop} {Ys:Nat→Nat→Prop}: ∀(ps:List cz) (es:List TE) (xs:List Value) (K:List TV→Ev R),ps.length=es.length→(∀(i:Nat) (e:TE),es[i]?=some e→ ∃x,xs[i]?=some x∧dO st.ob w φ e x)→
 (∀(i:Nat) (e:TE),ps[i]?=some .borrow→es[i]?=some e→ ∀d∈wL st e,d∈qt)→(∀(i:Nat) (p:cz) (e:TE),ps[i]?=some p→es[i]?=some e→p≠ .borrow→ ∃l,vJ st (DY p) p.ms e=some l)→
 (∀(i:Nat) (p:cz) (e:TE) (v:TV) (x:Value),ps[i]?=some p→es[i]?=some e→p≠ .borrow→DW w p (Jb φ st qt) (Xz φ st qt) (fun j=>zm w φ st ((jw st e).getD j .gone)) (fun k=> ∃b,e= .bp b 0∧k=(φ.β b).block) v x→DW w p (Jb φ st qt) (Xz φ st qt) (Xs i) (Ys i) v x)→
 (ach st es K).holds cf lp Q→ ∃vs,vs.length=es.length∧(∀(i:Nat) (v:TV),vs[i]?=some v→ ∃x,xs[i]?=some x∧DW w (ps.getD i .borrow) (Jb φ st qt) (Xz φ st qt) (Xs i) (Ys i) v x)∧(K vs).holds cf lp Q:=by
 intro ps es
 induction es generalizing ps Xs Ys with
 |nil=>intro xs K _ _ _ _ _ hk;exact⟨[],rfl,fun i v hv=>by simp at hv,hk⟩
 |cons e es ih=>
  intro xs K hl Q8 hr ho hXY hk
  cases ps with
  |nil=>cases hl
  |cons p ps=>
   obtain⟨x,hx,ht⟩:=Q8 0 e rfl
   obtain⟨v,hv,hk⟩: ∃v,DW w p (Jb φ st qt) (Xz φ st qt) (Xs 0) (Ys 0) v x∧(ach st es fun vs=>K (v::vs)).holds cf lp Q:=by
    by_cases hp:p= .borrow
    ·subst hp
     exact aeP h ht (hr 0 e rfl rfl) hk
    ·obtain⟨l,hl⟩:=ho 0 p e rfl rfl hp
     obtain⟨v,a,b⟩:=ak4 (Rg:=Jb φ st qt) (BB:=Xz φ st qt) h ht hp hl (fun _ hI=>Or.inl hI) hk;exact⟨v,hXY 0 p e v x rfl rfl hp a,b⟩
   obtain⟨vs,v1,v2,v3⟩:=ih (Xs:=fun i=>Xs (i+1)) (Ys:=fun i=>Ys (i+1)) ps (xs.drop 1) (fun vs=>K (v::vs)) (by simpa using hl) (fun i e' he=>by
    obtain⟨x',a,b⟩:=Q8 (i+1) e' (by simpa using he)
    exact⟨x',by rw[uw,Nat.add_comm];exact a,b⟩) (fun i e' h1 h2=>hr (i+1) e' (by simpa using h1) (by simpa using h2)) (fun i p' e' h1 h2 h3=>ho (i+1) p' e' (by simpa using h1) (by simpa using h2) h3)
    (fun i p' e' v' x' h1 h2 h3 h4=>hXY (i+1) p' e' v' x' (by simpa using h1) (by simpa using h2) h3 h4) hk
   refine⟨v::vs,by simp[v1],fun i v' hi=> ?_,v3⟩
   cases i with
   |zero=>simp only[gT,aY] at hi;subst hi;exact⟨x,hx,by simpa using hv⟩
   |succ i=>
    obtain⟨x',a,b⟩:=v2 i v' (by simpa using hi);refine⟨x',by rw[uw,Nat.add_comm] at a;exact a,?_⟩;simpa using b
theorem ak5 (h:bD F A w0 φ st tm w) {ps:List cz} {es:List TE} {own qt:List Nat} (hg:E7 st ps es=some (own,qt)) (hn:Ls own=true) (hm:zi own qt=false) {xs:List Value} (Q8: ∀(i:Nat) (e:TE),es[i]?=some e→ ∃x,xs[i]?=some x∧dO st.ob w φ e x)
 {K:List TV→Ev R} (hk:(ach st es K).holds cf lp Q): ∃vs,(K vs).holds cf lp Q∧(Af vs=true→aaY w ps vs xs (Jb φ st qt) (Xz φ st qt) (XOf w φ st ps es) (YOf φ ps es)):=by
 have g:=DZ hg;have hnd:=LB.1 hn
 obtain⟨vs,v1,v2,v3⟩:=aiU h (qt:=qt) (Xs:=XOf w φ st ps es) (Ys:=YOf φ ps es) ps es xs K g.len Q8 g.rd (fun i p e h1 h2 hp=>let ⟨l,_,_,_,hl⟩:=g.ow i p e h1 h2 hp;⟨l,hl⟩) (fun i p e v x h1 h2 hp hin=>by
  have hXe: ∀j,XOf w φ st ps es i j=zm w φ st ((jw st e).getD j .gone):=fun j=>by
   funext k
   refine propext ⟨?_,fun hk=>⟨p,e,h1,h2,hp,hk⟩⟩;rintro⟨p',e',a1,a2,a3,a4⟩;rw[h2] at a2;cases a2;exact a4
  have hYe:YOf φ ps es i=fun k=> ∃b,e= .bp b 0∧k=(φ.β b).block:=by
   funext k
   refine propext ⟨?_,?_⟩
   ·rintro⟨p',b,a1,a2,a3,a4⟩
    rw[h2] at a2;cases a2;exact⟨b,rfl,a4⟩
   ·rintro⟨b,rfl,hk⟩
    exact⟨p,b,h1,h2,hp,hk⟩
  have:XOf w φ st ps es i=fun j=>zm w φ st ((jw st e).getD j .gone):=funext hXe;rw[this,hYe]
  exact hin) hk
 have notRg: ∀{o k},2*o∈own→aT st.ob o→φ.S o k→ ¬Jb φ st qt k:=fun {o k} ho hd hS hr=>by
  rcases hr with hr|⟨o',r1,r2,r3⟩
  ·exact h.sep.read o k hd hS hr
  ·rcases r2 with rfl|r2
   ·rw[h.sep.arg] at r3
    have:=h.sep.qQ k r3;rcases (h.sep.fresh o k hd hS).2 with h3|h3
    ·omega
    ·exact this.2 h3
   ·have:=h.sep.apart o o' k hd r2 hS r3
    subst this;exact wg hm ho r1
 have notBB: ∀{o k},2*o∈own→aT st.ob o→φ.S o k→ ¬Xz φ st qt k:=fun {o k} ho hd hS hb=>by
  rcases hb with hb|⟨b,cs,b1,b2,b3⟩
  ·exact notRg ho hd hS hb
  ·exact h.rY hd hS b2 b3.symm
 have yb: ∀{i k},YOf φ ps es i k→ ∃p b l,ps[i]?=some p∧es[i]?=some (.bp b 0)∧p≠ .borrow∧k=(φ.β b).block∧DJ b=true∧(∃cs,az b st.bx=some cs)∧vJ st (DY p) p.ms (.bp b 0)=some l∧2*b+1∈l∧2*b+1∈own:=fun {i k} ⟨p,b,h1,h2,hp,hk⟩=>by
  obtain⟨l,ok,hl,_,Lq⟩:=g.ow i p _ h1 h2 hp;obtain⟨_,_,hw,hb1,hb2,_⟩:=ok.bx b 0 rfl;exact⟨p,b,l,h1,h2,hp,hk,hw,⟨_,hb2⟩,Lq,hb1,hl _ hb1⟩
 refine⟨vs,v3,fun hs=>⟨v2,hs,fun i j k hk=> ?_,fun i k hk=> ?_,fun k hk=> ?_,fun k hk=> ?_⟩⟩
 ·obtain⟨p,e,e',o,l,h1,h2,hp,he,hkey,hd,hS,Lq,hol,hoo⟩:=Ng h g Q8 hk
  refine⟨(h.sep.fresh o k hd hS).1,notRg hoo hd hS,notBB hoo hd hS,fun i' hy=> ?_,fun i' j' hk'=> ?_⟩
  ·obtain⟨_,b,_,_,_,_,hkb,_,⟨cs,hb⟩,_⟩:=yb hy
   exact h.rY hd hS hb hkb.symm
  ·obtain⟨p',e2,e2',o',l',g1,g2,gp,ge,gkey,gd,gS,gl0,gol,goo⟩:=Ng h g Q8 hk'
   have:=h.sep.apart o o' k hd gd hS gS;subst this;have hii:=g.uniq hnd i i' p p' e e2 l l' (2*o) h1 g1 h2 g2 hp gp Lq gl0 hol gol;subst hii;rw[h2] at g2;cases g2;rw[h1] at g1;cases g1;obtain⟨l2,ok,_,hln,FY⟩:=g.ow i p e h1 h2 hp;exact⟨rfl,(ok.uniq (hln hnd) j j' e' e2' o he ge hkey gkey).symm⟩
 ·obtain⟨p,b,l,h1,h2,hp,rfl,hw,⟨cs,hb⟩,Lq,Xm,hbo⟩:=yb hk
  obtain⟨x1,x2,x3,x4⟩:=h.sep.box b cs hb hw
  have nrg: ¬Jb φ st qt (φ.β b).block:=fun hr=>by
   rcases hr with hr|⟨o',r1,r2,r3⟩
   ·exact x1 hr
   ·rcases r2 with rfl|r2
    ·rw[h.sep.arg] at r3
     have:=h.sep.qQ _ r3;rcases x3 with h3|h3
     ·omega
     ·exact this.2 h3
    ·exact x2 o' r2 r3
  refine⟨(h.sep.spot b cs hb).2.1,nrg,fun Xn=> ?_,fun i' hy=> ?_⟩
  ·rcases Xn with hr|⟨b',cs',r1,r2,r3⟩
   ·exact nrg hr
   ·by_cases Xn:b'=b
    ·subst Xn;exact wg hm hbo r1
    ·exact x4 b' cs' r2 Xn r3.symm
  ·obtain⟨p',b',l',g1,g2,gp,gk,gw,⟨cs',gb⟩,gl0,gbl,gbo⟩:=yb hy
   have Xn:b'=b:=Classical.byContradiction fun hne=>x4 b' cs' gb hne gk.symm;subst Xn;exact(g.uniq hnd i i' p p' _ _ l l' (2*b'+1) h1 g1 h2 g2 hp gp Lq gl0 Xm gbl).symm
 ·rcases hk with hk|⟨o,_,ho,hk⟩
  ·exact(h.sep.ro k hk).1
  ·exact h.sep.lt h.frm.size ho hk
 ·rcases hk with(hk|⟨o,_,ho,hk⟩)|⟨b,cs,_,hb,rfl⟩
  ·exact(h.sep.ro k hk).1
  ·exact h.sep.lt h.frm.size ho hk
  ·exact(h.sep.spot b cs hb).2.1
end Go.T
namespace Go.T
variable {F : Nat → Prop} {A : Arg} {w0 w w' : World} {φ φ' : Fp} {st st' sta fR sK : TS} {tm Lo : Array Value} {C : pU}
variable {R : Type} {cf : Cf} {lp : Lp} {Q : R → Prop}
structure Dp (st st':TS) (os bs:List Nat):Prop where
 ob: ∀o,az o st'.ob=if o∈os then none else az o st.ob
 bx: ∀b cs,az b st'.bx=some cs→b∉bs∧ ∃cs0,az b st.bx=some cs0∧cs.length=cs0.length
theorem Dp.refl (st:TS):Dp st st [] []:=⟨fun o=>by simp,fun b cs h=>⟨by simp,cs,h,rfl⟩⟩
theorem Dp.trans {a b c:TS} {o1 o2 b1 b2:List Nat} (h:Dp a b o1 b1) (k:Dp b c o2 b2):Dp a c (o1++o2) (b1++b2):=by
 refine⟨fun o=> ?_,fun x cs hx=> ?_⟩
 ·rw[k.ob,h.ob]
  by_cases h1:o∈o1<;>by_cases h2:o∈o2<;>simp[h1,h2]
 ·obtain⟨n2,cs1,g1,g2⟩:=k.bx x cs hx
  obtain⟨n1,cs0,g3,g4⟩:=h.bx x cs1 g1;exact⟨fun hm=>(List.mem_append.1 hm).elim n1 n2,cs0,g3,g2.trans g4⟩
theorem Dp.kill (st:TS) (o:Nat):Dp st (qU o st) [o] []:=by
 refine⟨fun d=> ?_,fun b cs h=>⟨by simp,jO _ b cs h⟩⟩
 by_cases hd:d=o
 ·subst hd
  rw[aJ (.head _)]
  cases hl:az d (qU d st).ob with
  |none=>rfl
  |some b=>exact absurd rfl (nh.1 ⟨b,hl⟩).1
 ·rw[ZN hd,aF (by simpa using hd)]
def uF:List CE→List Nat
 |[]=>[]
 | .ref o _::r=>o::uF r
 |_::r=>uF r
theorem Jc {o:Nat}: ∀{cs:List CE},o∈uF cs↔ ∃(j:Nat) (cut:Option (Int×Int)),cs[j]?=some (.ref o cut)
 |[]=>by simp[uF]
 |e::r=>by
  have ih:=Jc (o:=o) (cs:=r);have shift:(∃(j:Nat) (cut:Option (Int×Int)),r[j]?=some (.ref o cut))→ ∃(j:Nat) (cut:Option (Int×Int)),(e::r)[j]?=some (.ref o cut):=fun⟨j,cut,h⟩=>⟨j+1,cut,by simpa using h⟩
  cases e with
  |ref p cut=>
   simp only[uF,gj]
   constructor
   ·rintro(rfl|h)
    ·exact⟨0,cut,rfl⟩
    ·exact shift (ih.1 h)
   ·rintro⟨j,c,h⟩
    cases j with
    |zero=>simp only[gT,aY,CE.ref.injEq] at h;exact .inl h.1.symm
    |succ j=>exact .inr (ih.2 ⟨j,c,by simpa using h⟩)
  |_=>
   simp only[uF];rw[ih]
   constructor
   ·exact shift
   ·rintro⟨j,c,h⟩
    cases j with
    |zero=>simp at h
    |succ j=>exact⟨j,c,by simpa using h⟩
theorem Fj: ∀(cs:List CE) (st:TS),bD F A w0 φ st tm w→bD F A w0 φ (zy cs st) tm w∧Dp st (zy cs st) (uF cs) []
 |[],st,h=>⟨h,Dp.refl st⟩
 |e::r,st,h=>by
  cases e with
  |ref o cut=>
   obtain⟨h1,h2⟩:=Fj r (qU o st) (h.qU o);exact⟨h1,(Dp.kill st o).trans h2⟩
  |_=>exact Fj r st h
theorem ak6 (h:bD F A w0 φ st tm w) (b:Nat):bD F A w0 φ ⟨st.tm,uP b st.bx,st.ob⟩ tm w∧Dp st ⟨st.tm,uP b st.bx,st.ob⟩ [] [b]:=by
 refine⟨h.less (fun i=> .inr rfl) (fun b' cs hb=> ?_) rfl,fun o=>by simp,fun b' cs hb=> ?_⟩
 ·simp only[kX] at hb
  split at hb
  ·cases hb
  ·exact hb
 ·simp only[kX] at hb
  split at hb
  ·cases hb
  ·rename_i hne
   exact⟨by simpa using hne,cs,hb,rfl⟩
def kT (uM:TS):List cz→List TE→List Nat
 |p::ps,e::es=>match p,e with
  | .consume,.v false [.mk _ cs]=>uF cs++kT uM ps es
  | .inout _,.bp b _=>match az b uM.bx with
    |some cs=>uF cs++kT uM ps es
    |none=>kT uM ps es
  |_,_=>kT uM ps es
 |_,_=>[]
def rZ (uM:TS):List cz→List TE→List Nat
 |p::ps,e::es=>match p,e with
  | .inout _,.bp b _=>match az b uM.bx with
    |some cs=>b::rZ uM ps es
    |none=>rZ uM ps es
  |_,_=>rZ uM ps es
 |_,_=>[]
theorem acQ {uM:TS}: ∀(ps:List cz) (es:List TE) (st:TS),bD F A w0 φ st tm w→bD F A w0 φ (yj uM ps es st) tm w∧Dp st (yj uM ps es st) (kT uM ps es) (rZ uM ps es)
 |[],es,st,h=>by simp only[yj,kT,rZ];exact⟨h,Dp.refl st⟩
 |p::ps,[],st,h=>by simp only[yj,kT,rZ];exact⟨h,Dp.refl st⟩
 |p::ps,e::es,st,h=>by
  have ih:=acQ (uM:=uM) ps es
  by_cases hc:p= .consume∧ ∃ag cs,e= .v false [.mk ag cs]
  ·obtain⟨rfl,ag,cs,rfl⟩:=hc
   obtain⟨h1,h2⟩:=Fj cs st h;obtain⟨h3,h4⟩:=ih _ h1;exact⟨h3,(by simpa using h2.trans h4:Dp st (yj uM ps es (zy cs st)) (uF cs++kT uM ps es) (rZ uM ps es))⟩
  ·by_cases hi:(∃ms,p= .inout ms)∧ ∃b off,e= .bp b off
   ·obtain⟨⟨ms,rfl⟩,b,off,rfl⟩:=hi
    simp only[yj,kT,rZ]
    cases hb:az b uM.bx with
    |none=>exact ih st h
    |some cs=>
     simp only;obtain⟨h1,h2⟩:=Fj cs st h;obtain⟨h3,h4⟩:=ak6 h1 b;obtain⟨h5,h6⟩:=ih _ h3;have:=(h2.trans h4).trans h6;simp only[qv,xy,List.singleton_append] at this;exact⟨h5,this⟩
   ·have e1:yj uM (p::ps) (e::es) st=yj uM ps es st:=by
     simp only[yj]
     split
     ·exact absurd ⟨rfl,_,_,rfl⟩ hc
     ·exact absurd ⟨⟨_,rfl⟩,_,_,rfl⟩ hi
     ·rfl
    have e2:kT uM (p::ps) (e::es)=kT uM ps es:=by
     simp only[kT]
     split
     ·exact absurd ⟨rfl,_,_,rfl⟩ hc
     ·exact absurd ⟨⟨_,rfl⟩,_,_,rfl⟩ hi
     ·rfl
    have e3:rZ uM (p::ps) (e::es)=rZ uM ps es:=by
     simp only[rZ]
     split
     ·exact absurd ⟨⟨_,rfl⟩,_,_,rfl⟩ hi
     ·rfl
    rw[e1,e2,e3];exact ih st h
theorem Fk {uM:TS} {o:Nat}: ∀{ps:List cz} {es:List TE},o∈kT uM ps es↔ ∃(i:Nat) (p:cz) (e:TE),ps[i]?=some p∧es[i]?=some e∧
 ((p= .consume∧ ∃ag cs,e= .v false [.mk ag cs]∧o∈uF cs)∨((∃ms,p= .inout ms)∧ ∃b off cs,e= .bp b off∧az b uM.bx=some cs∧o∈uF cs))
 |[],es=>by simp[kT]
 |p::ps,[]=>by simp[kT]
 |p::ps,e::es=>by
  have ih:=Fk (uM:=uM) (o:=o) (ps:=ps) (es:=es)
  have shift:o∈kT uM ps es→ ∃(i:Nat) (p':cz) (e':TE),(p::ps)[i]?=some p'∧(e::es)[i]?=some e'∧
   ((p'= .consume∧ ∃ag cs,e'= .v false [.mk ag cs]∧o∈uF cs)∨((∃ms,p'= .inout ms)∧ ∃b off cs,e'= .bp b off∧az b uM.bx=some cs∧o∈uF cs)):=fun h=>by
   obtain⟨i,p',e',a,b,c⟩:=ih.1 h;exact⟨i+1,p',e',by simpa using a,by simpa using b,c⟩
  have back: ∀{i:Nat} {p':cz} {e':TE},(p::ps)[i+1]?=some p'→(e::es)[i+1]?=some e'→
   ((p'= .consume∧ ∃ag cs,e'= .v false [.mk ag cs]∧o∈uF cs)∨((∃ms,p'= .inout ms)∧ ∃b off cs,e'= .bp b off∧az b uM.bx=some cs∧o∈uF cs))→o∈kT uM ps es:=fun {i p' e'} a b c=>
   ih.2 ⟨i,p',e',by simpa using a,by simpa using b,c⟩
  simp only[kT]
  split
  ·rename_i ag cs
   rw[List.mem_append]
   constructor
   ·rintro(h|h)
    ·exact⟨0,_,_,rfl,rfl,.inl ⟨rfl,ag,cs,rfl,h⟩⟩
    ·exact shift h
   ·rintro⟨i,p',e',a,b,c⟩
    cases i with
    |zero=>
     simp only[gT,aY] at a b;subst a b;rcases c with⟨_,ag',cs',e1,h⟩|⟨e1,_⟩
     ·cases e1;exact .inl h
     ·obtain⟨_,e1⟩:=e1;cases e1
    |succ i=>exact .inr (back a b c)
  ·rename_i b off
   split
   ·rename_i cs hb
    rw[List.mem_append]
    constructor
    ·rintro(h|h)
     ·exact⟨0,_,_,rfl,rfl,.inr ⟨⟨_,rfl⟩,b,off,cs,rfl,hb,h⟩⟩
     ·exact shift h
    ·rintro⟨i,p',e',a,b',c⟩
     cases i with
     |zero=>
      simp only[gT,aY] at a b';subst a b';rcases c with⟨e1,_⟩|⟨_,b2,off2,cs2,e1,h2,h⟩
      ·cases e1
      ·cases e1;rw[hb] at h2;cases h2;exact .inl h
     |succ i=>exact .inr (back a b' c)
   ·rename_i hb
    constructor
    ·exact shift
    ·rintro⟨i,p',e',a,b',c⟩
     cases i with
     |zero=>
      simp only[gT,aY] at a b';subst a b';rcases c with⟨e1,_⟩|⟨_,b2,off2,cs2,e1,h2,h⟩
      ·cases e1
      ·cases e1;rw[hb] at h2;cases h2
     |succ i=>exact back a b' c
  ·rename_i n1 n2
   constructor
   ·exact shift
   ·rintro⟨i,p',e',a,b',c⟩
    cases i with
    |zero=>
     simp only[gT,aY] at a b';subst a b';rcases c with⟨rfl,ag,cs,rfl,h⟩|⟨⟨ms,rfl⟩,b2,off2,cs2,rfl,h2,h⟩
     ·exact(n1 _ _ rfl rfl).elim
     ·exact(n2 _ _ _ rfl rfl).elim
    |succ i=>exact back a b' c
theorem LC {uM:TS} {b:Nat}: ∀{ps:List cz} {es:List TE},b∈rZ uM ps es↔ ∃(i:Nat) (ms:List Mode) (off:Nat) (cs:List CE),ps[i]?=some (.inout ms)∧es[i]?=some (.bp b off)∧az b uM.bx=some cs
 |[],es=>by simp[rZ]
 |p::ps,[]=>by simp[rZ]
 |p::ps,e::es=>by
  have ih:=LC (uM:=uM) (b:=b) (ps:=ps) (es:=es)
  have shift:b∈rZ uM ps es→ ∃(i:Nat) (ms:List Mode) (off:Nat) (cs:List CE),(p::ps)[i]?=some (.inout ms)∧(e::es)[i]?=some (.bp b off)∧az b uM.bx=some cs:=fun h=>by
   obtain⟨i,ms,off,cs,x,y,z⟩:=ih.1 h;exact⟨i+1,ms,off,cs,by simpa using x,by simpa using y,z⟩
  simp only[rZ]
  split
  ·rename_i b' off'
   split
   ·rename_i cs hb
    rw[gj]
    constructor
    ·rintro(rfl|h)
     ·exact⟨0,_,off',cs,rfl,rfl,hb⟩
     ·exact shift h
    ·rintro⟨i,ms,off,cs',x,y,z⟩
     cases i with
     |zero=>simp only[gT,aY,TE.bp.injEq] at y;exact .inl y.1.symm
     |succ i=>exact .inr (ih.2 ⟨i,ms,off,cs',by simpa using x,by simpa using y,z⟩)
   ·rename_i hb
    constructor
    ·exact shift
    ·rintro⟨i,ms,off,cs',x,y,z⟩
     cases i with
     |zero=>simp only[gT,aY,TE.bp.injEq] at y;rw[y.1] at hb;rw[hb] at z;cases z
     |succ i=>exact ih.2 ⟨i,ms,off,cs',by simpa using x,by simpa using y,z⟩
  ·rename_i n1
   constructor
   ·exact shift
   ·rintro⟨i,ms,off,cs',x,y,z⟩
    cases i with
    |zero=>
     simp only[gT,aY] at x y;subst x y;exact(n1 _ _ _ rfl rfl).elim
    |succ i=>exact ih.2 ⟨i,ms,off,cs',by simpa using x,by simpa using y,z⟩
theorem Nh: ∀(os:List Nat) (st:TS) (φ:Fp),bD F A w0 φ st tm w→ ∃φ',bD F A w0 φ' (DQ st os) tm w∧φ'.β=φ.β∧φ'.V=φ.V∧φ'.S=φ.S∧(∀k,φ'.I k↔φ.I k∨ ∃o∈os,aT st.ob o∧φ.S o k)∧Dp st (DQ st os) os []
 |[],st,φ,h=>⟨φ,h,rfl,rfl,rfl,fun k=>by simp,Dp.refl st⟩
 |o::r,st,φ,h=>by
  obtain⟨φ1,h1,a1,a2,a3,a4⟩:=h.Bz o
  have hl:Dp st (Bz st o) [o] []:=by
   unfold T.Bz
   cases hb:az o st.ob with
   |none=>
    refine⟨fun d=> ?_,fun b cs hb=>⟨by simp,cs,hb,rfl⟩⟩
    by_cases hd:d=o
    ·subst hd;rw[aJ (.head _)];exact hb
    ·rw[aF (by simpa using hd)]
   |some b=>
    refine⟨fun d=> ?_,fun b cs hb=>⟨by simp,jO _ b cs hb⟩⟩;show az d (uP o st.ob)=_;rw[kX]
    by_cases hd:d=o<;>simp[hd]
  obtain⟨φ2,h2,b1,b2,b3,b4,b5⟩:=Nh r (Bz st o) φ1 h1;refine⟨φ2,h2,b1.trans a1,b2.trans a2,b3.trans a3,fun k=> ?_,hl.trans b5⟩;rw[b4,a4,a3]
  constructor
  ·rintro((hk|hk)|⟨o',ho',hd,hk⟩)
   ·exact .inl hk
   ·exact .inr ⟨o,.head _,hk⟩
   ·refine .inr ⟨o',.tail _ ho',?_,hk⟩
    obtain⟨b,hb⟩:=hd;rw[hl.ob] at hb
    split at hb
    ·cases hb
    ·exact⟨b,hb⟩
  ·rintro(hk|⟨o',ho',hd,hk⟩)
   ·exact .inl (.inl hk)
   ·by_cases he:o'=o
    ·subst he;exact .inl (.inr ⟨hd,hk⟩)
    ·refine .inr ⟨o',(gj.1 ho').resolve_left he,?_,hk⟩
     obtain⟨b,hb⟩:=hd;exact⟨b,by rw[hl.ob,aF (by simpa using he)];exact hb⟩
theorem aeS {e:TE} {o:Nat}:o∈IT st e↔2*o∈wL st e:=by
 have key: ∀(l:List Nat),2*o∈l.map (2* ·)↔o∈l:=fun l=>by
  rw[List.mem_map]
  constructor
  ·rintro⟨x,hx,e⟩
   have:x=o:=by omega
   subst this;exact hx
  ·intro h;exact⟨o,h,rfl⟩
 have bxk: ∀b,2*o∈E6 st b↔o∈(match az b st.bx with|some cs=>cs.flatMap iX|none=>[]):=fun b=>by
  unfold E6
  cases az b st.bx with
  |none=>simp;omega
  |some cs=>
   simp only[gj];rw[key]
   constructor
   ·rintro(h|h)
    ·omega
    ·exact h
   ·exact .inr
 cases e with
 |v t es=>simp only[IT,wL,Dj];exact(key _).symm
 |ep d cells=>simp only[IT,wL,Dj];exact(key _).symm
 |er r p i f=>simp only[IT,wL,Dj,qw];constructor<;>intro h<;>omega
 |bp b off=>simp only[IT,wL];exact(bxk b).symm
 |fn f caps=>
  simp only[IT,wL,List.mem_flatMap]
  constructor
  ·rintro⟨b,h1,h2⟩;exact⟨b,h1,(bxk b).2 h2⟩
  ·rintro⟨b,h1,h2⟩;exact⟨b,h1,(bxk b).1 h2⟩
 |_=>simp[IT,wL,Dj]
theorem Ao {o:Nat}: ∀{ps:List cz} {es:List TE} {own qt:List Nat},E7 st ps es=some (own,qt)→(o∈borrowed st ps es↔2*o∈qt)
 |[],[],own,qt,h=>by cases h;simp[borrowed]
 |[],_::_,_,_,h=>by cases h
 |_::_,[],_,_,h=>by cases h
 |p::ps,e::es,own,qt,h=>by
  simp only[E7] at h
  split at h
  ·rename_i own0 rd0 hg
   have ih:=Ao (o:=o) hg
   cases p with
   |borrow=>cases h;simp only[borrowed,List.mem_append];rw[aeS,ih]
   |inout ms=>
    simp only at h
    split at h
    ·cases h;exact ih
    ·cases h
   |consume=>
    simp only at h
    split at h
    ·cases h;exact ih
    ·cases h
  ·cases h
end Go.T
namespace Go.T
variable {F : Nat → Prop} {A : Arg} {w0 w w' : World} {φ φ' : Fp} {st st' sta fR sK : TS} {tm Lo : Array Value} {C : pU}
variable {R : Type} {cf : Cf} {lp : Lp} {Q : R → Prop}
def UG:List cz→List TV→Nat→Option TV
 |[],_,_=>none
 |p::ps,fs,i=>match p with
  | .inout _=>match fs with
    |[]=>none
    |f::fs=>match i with
     |0=>some f
     |i+1=>UG ps fs i
  |_=>match i with
   |0=>none
   |i+1=>UG ps fs i
def af3 (w:World) (NB:Nat→Prop) (eP:List It) (pos:Nat→Nat) (ms:List Mode) (f:TV) (x:Value):Prop:=match f with
 | .c c=>eP[pos 0]?=some (.deep,c,x)
 | .ag cs=> ∃ys:Array Value,x= .agg ys∧ys.size=cs.length∧ ∀(j:Nat) (c:TC),cs[j]?=some c→ ∃u,ys[j]?=some u∧eP[pos j]?=some (.deep,c,u)
 | .bx cs=> ∃(ad:Addr) (us:List Value),x= .pointer (some ad)∧us.length=cs.length∧NB ad.block∧(∀(j:Nat) (u:Value),us[j]?=some u→w.cell? (ad.add j)=some u∧u.cells= #[u]∧w.frozen? (ad.add j)=false)∧
     ∀(j:Nat) (c:TC),cs[j]?=some c→ ∃u,us[j]?=some u∧eP[pos j]?=some (mAt ms j,c,u)
 |_=>False
structure ano (w:World) (NB:Nat→Prop) (ps:List cz) (xs:List Value) (fs:List TV) (eP:List It) (pos:Nat→Nat→Nat):Prop where
 lt: ∀i f j,UG ps fs i=some f→j<(ia f).length→pos i j<eP.length
 inj: ∀i i' f f' j j',UG ps fs i=some f→j<(ia f).length→UG ps fs i'=some f'→j'<(ia f').length→pos i j=pos i' j'→i=i'∧j=j'
 at': ∀i f,UG ps fs i=some f→ ∃ms,ps[i]?=some (.inout ms)∧ ∃x,xs[i]?=some x∧af3 w NB eP (pos i) ms f x
theorem Z7 {cs:List TC}: ∀{ms:List Mode} {vs:List Value} {j:Nat} {c:TC} {v:Value},cs[j]?=some c→vs[j]?=some v→(fo (bms ms cs) cs vs)[j]?=some (mAt ms j,c,v):=by
 induction cs with
 |nil=>intro ms vs j c v h;simp at h
 |cons c0 cs ih=>
  intro ms vs j c v h1 h2
  cases vs with
  |nil=>simp at h2
  |cons v0 vs=>
   cases j with
   |zero=>simp only[gT,aY] at h1 h2;subst h1 h2;rw[Vl];rfl
   |succ j=>rw[Vm];exact ih (ms:=ms.drop 1) (by simpa using h1) (by simpa using h2)
theorem aa7 {cs:List TC} {vs:List Value} {j:Nat} {c:TC} {v:Value} (h1:cs[j]?=some c) (h2:vs[j]?=some v):(fo (bms [] cs) cs vs)[j]?=some (.deep,c,v):=Z7 h1 h2
theorem af3.shift {NB:Nat→Prop} {a b:List It} {pos:Nat→Nat} {ms:List Mode} {f:TV} {x:Value} (h:af3 w NB b pos ms f x):af3 w NB (a++b) (fun j=>a.length+pos j) ms f x:=by
 have sh: ∀{n:Nat} {it:It},b[n]?=some it→(a++b)[a.length+n]?=some it:=fun {n it} hn=>by rw[pP an,Nat.add_sub_cancel_left];exact hn
 cases f with
 |c c=>exact sh h
 |ag cs=>obtain⟨ys,h1,h2,h3⟩:=h;exact⟨ys,h1,h2,fun j c hj=>let ⟨u,a1,a2⟩:=h3 j c hj;⟨u,a1,sh a2⟩⟩
 |bx cs=>obtain⟨ad,us,h1,h2,h3,h4,h5⟩:=h;exact⟨ad,us,h1,h2,h3,h4,fun j c hj=>let ⟨u,a1,a2⟩:=h5 j c hj;⟨u,a1,sh a2⟩⟩
 |_=>exact h
theorem aeT {NB:Nat→Prop}: ∀{ps:List cz} {xs:List Value} {fs:List TV} {eP:List It},BI w NB ps xs fs eP→ ∃pos,ano w NB ps xs fs eP pos
 |[],[],fs,eP,h=>⟨fun _ _=>0,fun i f j h=>by simp[UG] at h,fun i i' f f' j j' h=>by simp[UG] at h,fun i f h=>by simp[UG] at h⟩
 |[],_::_,_,_,h=>h.elim
 |_::_,[],_,_,h=>h.elim
 |p::ps,x::xs,fs,eP,h=>by
  by_cases hp: ∃ms,p= .inout ms
  ·obtain⟨ms,rfl⟩:=hp
   cases fs with
   |nil=>exact h.elim
   |cons f fs=>
    obtain⟨a,b,rfl,hr,hf⟩:=h;obtain⟨pos,p1,p2,p3⟩:=aeT hr
    have hlen:(ia f).length=a.length:=by
     cases f with
     |c c=>have hf:a=[(.deep,c,x)]:=hf.2;subst hf;rfl
     |ag cs=>obtain⟨_,ys,_,h2,rfl⟩:=hf;exact(qb (ms:=bms [] cs) (cs:=cs) (vs:=ys.toList) (by simp[h2])).symm
     |bx cs=>obtain⟨ad,us,_,h2,_,_,rfl⟩:=hf;exact(qb (ms:=bms ms cs) (cs:=cs) (vs:=us) h2.symm).symm
     |_=>exact hf.elim
    refine⟨fun i j=>match i with|0=>j|i+1=>a.length+pos i j,fun i f' j hi hj=> ?_,fun i i' f1 f2 j j' h1 h2 h3 h4 he=> ?_,fun i f' hi=> ?_⟩
    ·rw[cM]
     cases i with
     |zero=>simp only[UG,aY] at hi;subst hi;simp only;omega
     |succ i=>have:=p1 i f' j hi hj;simp only;omega
    ·cases i with
     |zero=>
      simp only[UG,aY] at h1;subst h1
      cases i' with
      |zero=>exact⟨rfl,he⟩
      |succ i'=>simp only at he;omega
     |succ i=>
      cases i' with
      |zero=>
       simp only[UG,aY] at h3;subst h3;simp only at he;omega
      |succ i'=>
       simp only at he;obtain⟨e1,e2⟩:=p2 i i' f1 f2 j j' h1 h2 h3 h4 an;exact⟨by omega,e2⟩
    ·cases i with
     |zero=>
      simp only[UG,aY] at hi;subst hi
      have lf: ∀{n:Nat} {it:It},a[n]?=some it→(a++b)[n]?=some it:=fun {n it} hn=>by rw[nw (List.getElem?_eq_some_iff.1 hn).1];exact hn
      refine⟨ms,rfl,x,rfl,?_⟩
      cases f with
      |c c=>have hf:a=[(.deep,c,x)]:=hf.2;subst hf;rfl
      |ag cs=>
       obtain⟨_,ys,h1,h2,rfl⟩:=hf;refine⟨ys,h1,h2,fun j c hj=> ?_⟩
       have hlt:j<ys.size:=by rw[h2];exact(List.getElem?_eq_some_iff.1 hj).1
       exact⟨ys[j],zf hlt,lf (aa7 hj (by simp[hlt]))⟩
      |bx cs=>
       obtain⟨ad,us,h1,h2,h3,h4,rfl⟩:=hf;refine⟨ad,us,h1,h2,h3,h4,fun j c hj=> ?_⟩
       have hlt:j<us.length:=by rw[h2];exact(List.getElem?_eq_some_iff.1 hj).1
       exact⟨us[j],cw hlt,lf (Z7 hj (cw hlt))⟩
      |_=>exact hf.elim
     |succ i=>
      obtain⟨ms',y0,y,y1,y2⟩:=p3 i f' hi;exact⟨ms',by simpa using y0,y,by simpa using y1,y2.shift⟩
  ·have hr:BI w NB ps xs fs eP:=by cases p<;>first|exact h|exact absurd ⟨_,rfl⟩ hp
   obtain⟨pos,p1,p2,p3⟩:=aeT hr
   have hz: ∀fs,UG (p::ps) fs 0=none:=fun fs=>by cases p<;>first|rfl|exact absurd ⟨_,rfl⟩ hp
   have hs: ∀fs i,UG (p::ps) fs (i+1)=UG ps fs i:=fun fs i=>by cases p<;>first|rfl|exact absurd ⟨_,rfl⟩ hp
   refine⟨fun i j=>pos (i-1) j,fun i f j hi hj=> ?_,fun i i' f1 f2 j j' h1 h2 h3 h4 he=> ?_,fun i f hi=> ?_⟩
   ·cases i with
    |zero=>rw[hz] at hi;cases hi
    |succ i=>rw[hs] at hi;exact p1 i f j hi hj
   ·cases i with
    |zero=>rw[hz] at h1;cases h1
    |succ i=>
     cases i' with
     |zero=>rw[hz] at h3;cases h3
     |succ i'=>rw[hs] at h1 h3;obtain⟨e1,e2⟩:=p2 i i' f1 f2 j j' h1 h2 h3 h4 he;exact⟨by omega,e2⟩
   ·cases i with
    |zero=>rw[hz] at hi;cases hi
    |succ i=>
     rw[hs] at hi;obtain⟨ms',y0,y,y1,y2⟩:=p3 i f hi;exact⟨ms',by simpa using y0,y,by simpa using y1,y2⟩
structure Fl (st:TS) (ps:List cz) (es:List TE) (fs:List TV) (W:List (Nat×OB)) (B:List (Nat×List Mode×List TC)):Prop where
 memW: ∀o b',(o,b')∈W→ ∃(i:Nat) (ms:List Mode) (f:TV) (ag:Bool) (cs:List CE) (j:Nat) (c:TC) (e':CE),ps[i]?=some (.inout ms)∧es[i]?=some (.v false [.mk ag cs])∧UG ps fs i=some f∧(ia f)[j]?=some c∧cs[j]?=some e'∧xE st e' c=some [(o,b')]∧(f= .c c∧ag=false∧cs=[e']∨ ∃ts,f= .ag ts∧ag=true)
 allW: ∀(i:Nat) (ms:List Mode) (ag:Bool) (cs:List CE),ps[i]?=some (.inout ms)→es[i]?=some (.v false [.mk ag cs])→ ∃f,UG ps fs i=some f∧ ∀(j:Nat) (e':CE),cs[j]?=some e'→ ∃c l,(ia f)[j]?=some c∧xE st e' c=some l∧ ∀x∈l,x∈W
 memB: ∀b ms ts,(b,ms,ts)∈B→ ∃(i:Nat) (cs:List CE),ps[i]?=some (.inout ms)∧es[i]?=some (.bp b 0)∧UG ps fs i=some (.bx ts)∧az b st.bx=some cs∧cs.length=ts.length
 ndB:(∀(i i' b:Nat) (ms ms':List Mode),ps[i]?=some (.inout ms)→ps[i']?=some (.inout ms')→es[i]?=some (.bp b 0)→es[i']?=some (.bp b 0)→i=i')→B.Pairwise fun x y=>x.1≠y.1
theorem Fm {e:CE} {c:TC} {l:List (Nat×OB)} (h:xE st e c=some l):l=[]∨ ∃o b',l=[(o,b')]∧nU e=some o:=by
 unfold xE at h
 split at h
 ·cases h;exact .inl rfl
 ·cases h;exact .inl rfl
 ·split at h
  ·split at h
   ·cases h;exact .inr ⟨_,_,rfl,rfl⟩
   ·cases h
  ·cases h
 ·split at h
  ·cases h;exact .inr ⟨_,_,rfl,rfl⟩
  ·cases h
 ·cases h
theorem Ro: ∀{cs:List CE} {ts:List TC} {l:List (Nat×OB)},UC st cs ts=some l→ts.length=cs.length∧(∀x∈l,∃(j:Nat) (e':CE) (c:TC) (l':List (Nat×OB)),cs[j]?=some e'∧ts[j]?=some c∧xE st e' c=some l'∧x∈l')∧
 ∀(j:Nat) (e':CE),cs[j]?=some e'→ ∃c l',ts[j]?=some c∧xE st e' c=some l'∧ ∀x∈l',x∈l
 |[],[],l,h=>by cases h;exact⟨rfl,fun x hx=>(by cases hx),fun j e' he=>by simp at he⟩
 |[],_::_,_,h=>by cases h
 |_::_,[],_,h=>by cases h
 |e::r,c::cs,l,h=>by
  simp only[UC] at h
  split at h
  ·rename_i a b h1 h2
   cases h
   obtain⟨g1,g2,g3⟩:=Ro h2;refine⟨by simp[g1],fun x hx=> ?_,fun j e' he=> ?_⟩
   ·rcases List.mem_append.1 hx with hx|hx
    ·exact⟨0,e,c,a,rfl,rfl,h1,hx⟩
    ·obtain⟨j,e',c',l',a1,a2,a3,a4⟩:=g2 x hx
     exact⟨j+1,e',c',l',by simpa using a1,by simpa using a2,a3,a4⟩
   ·cases j with
    |zero=>simp only[gT,aY] at he;subst he;exact⟨c,a,rfl,h1,fun x hx=>mo _ hx⟩
    |succ j=>
     obtain⟨c',l',a1,a2,a3⟩:=g3 j e' (by simpa using he);exact⟨c',l',by simpa using a1,a2,fun x hx=>r9 _ (a3 x hx)⟩
  ·cases h
theorem Fl.skip {p:cz} {ps:List cz} {e:TE} {es:List TE} {fs:List TV} {W:List (Nat×OB)} {B:List (Nat×List Mode×List TC)} (ih:Fl st ps es fs W B) (hp: ¬ ∃ms,p= .inout ms):Fl st (p::ps) (e::es) fs W B:=by
 have hs: ∀fs i,UG (p::ps) fs (i+1)=UG ps fs i:=fun fs i=>by cases p<;>first|rfl|exact absurd ⟨_,rfl⟩ hp
 refine⟨fun o b' hm=> ?_,fun i ms ag cs h1 h2=> ?_,fun b ms ts hm=> ?_,fun hu=>ih.ndB fun i i' b ms ms' h1 h2 h3 h4=> ?_⟩
 ·obtain⟨i,ms,f,ag,cs,j,c,e',a1,a2,a3,a4⟩:=ih.memW o b' hm
  exact⟨i+1,ms,f,ag,cs,j,c,e',by simpa using a1,by simpa using a2,by rw[hs];exact a3,a4⟩
 ·cases i with
  |zero=>simp only[gT,aY] at h1;exact absurd ⟨_,h1⟩ hp
  |succ i=>
   obtain⟨f,a1,a2⟩:=ih.allW i ms ag cs (by simpa using h1) (by simpa using h2);exact⟨f,by rw[hs];exact a1,a2⟩
 ·obtain⟨i,cs,a1,a2,a3,a4⟩:=ih.memB b ms ts hm
  exact⟨i+1,cs,by simpa using a1,by simpa using a2,by rw[hs];exact a3,a4⟩
 ·have:=hu (i+1) (i'+1) b ms ms' (by simpa using h1) (by simpa using h2) (by simpa using h3) (by simpa using h4)
  omega
theorem Ap: ∀{ps:List cz} {es:List TE} {fs:List TV} {W:List (Nat×OB)} {B:List (Nat×List Mode×List TC)},zz st ps es fs=some (W,B)→Fl st ps es fs W B
 |[],[],[],W,B,h=>by
  cases h
  exact⟨fun o b' hm=>(by cases hm),fun i ms ag cs h=>by simp at h,fun b ms ts hm=>(by cases hm),fun _=> .nil⟩
 |[],[],_::_,_,_,h=>by cases h
 |[],_::_,_,_,_,h=>by cases h
 |_::_,[],_,_,_,h=>by cases h
 |p::ps,e::es,fs,W,B,h=>by
  by_cases hp: ∃ms,p= .inout ms
  ·obtain⟨ms0,rfl⟩:=hp
   have shiftW: ∀{f:TV} {fs:List TV} {W:List (Nat×OB)} {B:List (Nat×List Mode×List TC)},Fl st ps es fs W B→ ∀o b',(o,b')∈W→ ∃(i:Nat) (ms:List Mode) (f':TV) (ag:Bool) (cs:List CE) (j:Nat) (c:TC) (e':CE),(cz.inout ms0::ps)[i]?=some (.inout ms)∧(e::es)[i]?=some (.v false [.mk ag cs])∧UG (.inout ms0::ps) (f::fs) i=some f'∧(ia f')[j]?=some c∧cs[j]?=some e'∧xE st e' c=some [(o,b')]∧
    (f'= .c c∧ag=false∧cs=[e']∨ ∃ts,f'= .ag ts∧ag=true):=fun ih o b' hm=>by
    obtain⟨i,ms,f',ag,cs,j,c,e',a1,a2,a3,a4⟩:=ih.memW o b' hm;exact⟨i+1,ms,f',ag,cs,j,c,e',by simpa using a1,by simpa using a2,a3,a4⟩
   have shiftB: ∀{f:TV} {fs:List TV} {W:List (Nat×OB)} {B:List (Nat×List Mode×List TC)},Fl st ps es fs W B→ ∀b ms ts,(b,ms,ts)∈B→ ∃(i:Nat) (cs:List CE),(cz.inout ms0::ps)[i]?=some (.inout ms)∧(e::es)[i]?=some (.bp b 0)∧UG (.inout ms0::ps) (f::fs) i=some (.bx ts)∧az b st.bx=some cs∧cs.length=ts.length:=fun ih b ms ts hm=>by
    obtain⟨i,cs,a1,a2,a3,a4⟩:=ih.memB b ms ts hm;exact⟨i+1,cs,by simpa using a1,by simpa using a2,a3,a4⟩
   have shiftU: ∀{fs:List TV} {W:List (Nat×OB)} {B:List (Nat×List Mode×List TC)},Fl st ps es fs W B→(∀(i i' b:Nat) (ms ms':List Mode),(cz.inout ms0::ps)[i]?=some (.inout ms)→(cz.inout ms0::ps)[i']?=some (.inout ms')→(e::es)[i]?=some (.bp b 0)→(e::es)[i']?=some (.bp b 0)→i=i')→B.Pairwise fun x y=>x.1≠y.1:=fun ih hu=>by
    refine ih.ndB fun i i' b ms ms' h1 h2 h3 h4=> ?_;have:=hu (i+1) (i'+1) b ms ms' (by simpa using h1) (by simpa using h2) (by simpa using h3) (by simpa using h4);omega
   simp only[zz] at h
   split at h
   ·rename_i e0 c0 fs0
    split at h
    ·rename_i a b bs h1 h2
     cases h
     have ih:=Ap h2;refine⟨fun o b' hm=> ?_,fun i ms ag cs g1 g2=> ?_,shiftB ih,shiftU ih⟩
     ·rcases List.mem_append.1 hm with hm|hm
      ·rcases Fm h1 with rfl|⟨o1,b1,rfl,_⟩
       ·cases hm
       ·simp only[qw] at hm
        cases hm
        exact⟨0,_,_,false,[e0],0,c0,e0,rfl,rfl,rfl,rfl,rfl,h1,.inl ⟨rfl,rfl,rfl⟩⟩
      ·exact shiftW ih o b' hm
     ·cases i with
      |zero=>
       simp only[gT,aY,TE.v.injEq,List.cons.injEq,vH.mk.injEq,and_true,true_and] at g2;obtain⟨rfl,rfl⟩:=g2;refine⟨_,rfl,fun j e' he=> ?_⟩
       cases j with
       |zero=>simp only[gT,aY] at he;subst he;exact⟨c0,a,rfl,h1,fun x hx=>mo _ hx⟩
       |succ j=>simp at he
      |succ i=>
       obtain⟨f,a1,a2⟩:=ih.allW i ms ag cs (by simpa using g1) (by simpa using g2);refine⟨f,a1,fun j e' he=> ?_⟩;obtain⟨c,l,b1,b2,b3⟩:=a2 j e' he;exact⟨c,l,b1,b2,fun x hx=>r9 _ (b3 x hx)⟩
    ·cases h
   ·rename_i cs0 ts0 fs0
    split at h
    ·rename_i a b bs h1 h2
     cases h
     have ih:=Ap h2;obtain⟨q1,q2,q3⟩:=Ro h1;refine⟨fun o b' hm=> ?_,fun i ms ag cs g1 g2=> ?_,shiftB ih,shiftU ih⟩
     ·rcases List.mem_append.1 hm with hm|hm
      ·obtain⟨j,e',c,l',x1,x2,x3,x4⟩:=q2 _ hm
       rcases Fm x3 with rfl|⟨o1,b1,rfl,_⟩
       ·cases x4
       ·simp only[qw] at x4
        cases x4
        exact⟨0,_,_,true,cs0,j,c,e',rfl,rfl,rfl,x2,x1,x3,.inr ⟨_,rfl,rfl⟩⟩
      ·exact shiftW ih o b' hm
     ·cases i with
      |zero=>
       simp only[gT,aY,TE.v.injEq,List.cons.injEq,vH.mk.injEq,and_true,true_and] at g2;obtain⟨rfl,rfl⟩:=g2;refine⟨_,rfl,fun j e' he=> ?_⟩;obtain⟨c,l',x1,x2,x3⟩:=q3 j e' he;exact⟨c,l',x1,x2,fun x hx=>mo _ (x3 x hx)⟩
      |succ i=>
       obtain⟨f,a1,a2⟩:=ih.allW i ms ag cs (by simpa using g1) (by simpa using g2);refine⟨f,a1,fun j e' he=> ?_⟩;obtain⟨c,l,b1,b2,b3⟩:=a2 j e' he;exact⟨c,l,b1,b2,fun x hx=>r9 _ (b3 x hx)⟩
    ·cases h
   ·rename_i b0 ts0 fs0
    split at h
    ·rename_i cs0 a bs hb h2
     split at h
     ·rename_i hl
      cases h
      have ih:=Ap h2;refine⟨shiftW ih,fun i ms ag cs g1 g2=> ?_,fun b ms ts hm=> ?_,fun hu=> ?_⟩
      ·cases i with
       |zero=>simp at g2
       |succ i=>exact ih.allW i ms ag cs (by simpa using g1) (by simpa using g2)
      ·rcases gj.1 hm with hm|hm
       ·cases hm
        exact⟨0,cs0,rfl,rfl,rfl,hb,kD hl⟩
       ·exact shiftB ih b ms ts hm
      ·refine List.pairwise_cons.2 ⟨fun x hx e=> ?_,shiftU ih hu⟩
       obtain⟨b,ms,ts⟩:=x;have e:b0=b:=e;subst e;obtain⟨i,cs,a1,a2,_⟩:=ih.memB b0 ms ts hx;have:=hu 0 (i+1) b0 _ _ rfl (by simpa using a1) rfl (by simpa using a2);omega
     ·cases h
    ·cases h
   ·cases h
  ·have h2:zz st ps es fs=some (W,B):=by cases p<;>first|exact h|exact absurd ⟨_,rfl⟩ hp
   exact(Ap h2).skip hp
end Go.T
namespace Go.T
variable {F : Nat → Prop} {A : Arg} {w0 w w' : World} {φ φ' : Fp} {st st' sta fR sK : TS} {tm Lo : Array Value} {C : pU}
variable {R : Type} {cf : Cf} {lp : Lp} {Q : R → Prop}
structure AtP (st:TS) (ps:List cz) (es:List TE) (i j:Nat) (p:cz) (e:TE) (e':CE):Prop where
 hp:ps[i]?=some p
 he:es[i]?=some e
 hb:p≠ .borrow
 hc:(jw st e)[j]?=some e'
theorem Dn.key {ps:List cz} {es:List TE} {own qt:List Nat} (g:Dn st ps es own qt) {i j:Nat} {p:cz} {e:TE} {e':CE} (a:AtP st ps es i j p e e') {o:Nat} (ho:nU e'=some o):2*o∈own:=by
 obtain⟨l,ok,hl,_,_⟩:=g.ow i p e a.hp a.he a.hb;exact hl _ ((ok.one j e' a.hc).2 o ho)
theorem Dn.pos {ps:List cz} {es:List TE} {own qt:List Nat} (g:Dn st ps es own qt) {o:Nat} (ho:2*o∈own): ∃i j p e e',AtP st ps es i j p e e'∧nU e'=some o:=by
 obtain⟨i,p,e,l,h1,h2,h3,h4,h5⟩:=g.mem _ ho;obtain⟨j,e',h6,h7⟩:=(OY h4).mem o h5;exact⟨i,j,p,e,e',⟨h1,h2,h3,h6⟩,h7⟩
theorem Dn.Vo {ps:List cz} {es:List TE} {own qt:List Nat} (g:Dn st ps es own qt) (hn:own.Nodup) {o i j i2 j2:Nat} {p p2:cz} {e e2:TE} {e' e2':CE} (a:AtP st ps es i j p e e') (b:AtP st ps es i2 j2 p2 e2 e2') (ha:nU e'=some o) (hb:nU e2'=some o):
 i=i2∧j=j2∧p=p2∧e=e2∧e'=e2':=by
 obtain⟨l,ok,hl,hln,Lq⟩:=g.ow i p e a.hp a.he a.hb;obtain⟨l2,ok2,FY,_,aoD⟩:=g.ow i2 p2 e2 b.hp b.he b.hb;have hi:=g.uniq hn i i2 p p2 e e2 l l2 (2*o) a.hp b.hp a.he b.he a.hb b.hb Lq aoD ((ok.one j e' a.hc).2 o ha) ((ok2.one j2 e2' b.hc).2 o hb);subst hi;have h1:=a.hp.symm.trans b.hp;have h2:=a.he.symm.trans b.he
 cases h1;cases h2
 have hj:=ok.uniq (hln hn) j j2 e' e2' o a.hc b.hc ha hb;subst hj;have h3:=a.hc.symm.trans b.hc
 cases h3
 exact⟨rfl,rfl,rfl,rfl,rfl⟩
theorem aeU {e:CE} {c:TC} {l:List (Nat×OB)} (h:xE st e c=some l) {o:Nat} (ho:nU e=some o): ∃b',l=[(o,b')]:=by
 rcases Fm h with rfl|⟨o1,b1,rfl,h1⟩
 ·unfold xE at h
  split at h
  ·cases ho
  ·cases ho
  ·split at h
   ·split at h<;>cases h
   ·cases h
  ·split at h<;>cases h
  ·cases h
 ·rw[ho] at h1;cases h1;exact⟨b1,rfl⟩
theorem Vp {ps:List cz} {es:List TE} {own qt:List Nat} (g:Dn st ps es own qt) {o:Nat} (ho:o∈kT st ps es): ∃i j p e e',AtP st ps es i j p e e'∧nU e'=some o∧(p= .consume∨(∃ms,p= .inout ms)∧ ∃b off,e= .bp b off):=by
 obtain⟨i,p,e,h1,h2,h3⟩:=Fk.1 ho;rcases h3 with⟨rfl,ag,cs,rfl,hr⟩|⟨⟨ms,rfl⟩,b,off,cs,rfl,hb,hr⟩
 ·obtain⟨j,cut,hj⟩:=Jc.1 hr
  exact⟨i,j,_,_,_,⟨h1,h2,by simp,hj⟩,rfl,.inl rfl⟩
 ·obtain⟨j,cut,hj⟩:=Jc.1 hr
  exact⟨i,j,_,_,_,⟨h1,h2,by simp,by simp only[jw,hb];exact hj⟩,rfl,.inr ⟨⟨_,rfl⟩,b,off,rfl⟩⟩
theorem agO {ps:List cz} {es:List TE} {own qt:List Nat} {fs:List TV} {W:List (Nat×OB)} {B:List (Nat×List Mode×List TC)} (g:Dn st ps es own qt) (po:Fl st ps es fs W B) {o:Nat} (ho:2*o∈own):o∈kT st ps es∨ ∃b',(o,b')∈W:=by
 obtain⟨i,j,p,e,e',a,hk⟩:=g.pos ho;obtain⟨l,ok,_,_,Lq⟩:=g.ow i p e a.hp a.he a.hb
 have refOf:af1 st true e'→ ∃cut,e'= .ref o cut:=fun hoc=>by
  cases e' with
  |ref o' cut=>cases hk;exact⟨cut,rfl⟩
  |snap ds loc z rows=>cases loc with
   |none=>cases hk
   |some q=>obtain⟨o1,i1,f1⟩:=q;exact absurd hoc.1 dh
  |_=>cases hk
 cases p with
 |borrow=>exact absurd rfl a.hb
 |consume=>
  rcases ok.form with⟨b,rfl⟩|⟨_,ag,cs,rfl,hcs⟩
  ·have:=(ok.bx b 0 rfl).2.1;cases this
  ·obtain⟨cut,rfl⟩:=refOf ((hcs j e' a.hc).key hk)
   exact .inl (Fk.2 ⟨i,_,_,a.hp,a.he,.inl ⟨rfl,ag,cs,rfl,Jc.2 ⟨j,cut,a.hc⟩⟩⟩)
 |inout ms=>
  rcases ok.form with⟨b,rfl⟩|⟨_,ag,cs,rfl,hcs⟩
  ·obtain⟨_,_,_,_,hb,hoc⟩:=ok.bx b 0 rfl
   obtain⟨cut,rfl⟩:=refOf ((hoc j e' a.hc).key hk);exact .inl (Fk.2 ⟨i,_,_,a.hp,a.he,.inr ⟨⟨_,rfl⟩,b,0,_,rfl,hb,Jc.2 ⟨j,cut,a.hc⟩⟩⟩)
  ·obtain⟨f,_,hall⟩:=po.allW i ms ag cs a.hp a.he
   obtain⟨c,l',_,h2,h3⟩:=hall j e' a.hc;obtain⟨b',rfl⟩:=aeU h2 hk;exact .inr ⟨b',h3 _ (.head _)⟩
theorem xY {ps:List cz} {es:List TE} {fs:List TV} {W:List (Nat×OB)} {B:List (Nat×List Mode×List TC)} (po:Fl st ps es fs W B) {o:Nat} {b':OB} (hm:(o,b')∈W):
 ∃i j ms e' ag cs f c,AtP st ps es i j (.inout ms) (.v false [.mk ag cs]) e'∧nU e'=some o∧UG ps fs i=some f∧(ia f)[j]?=some c∧xE st e' c=some [(o,b')]∧(f= .c c∧ag=false∧cs=[e']∧j=0∨ ∃ts,f= .ag ts∧ag=true):=by
 obtain⟨i,ms,f,ag,cs,j,c,e',h1,h2,h3,h4,h5,h6,h7⟩:=po.memW o b' hm;refine⟨i,j,ms,e',ag,cs,f,c,⟨h1,h2,by simp,h5⟩,?_,h3,h4,h6,?_⟩
 ·rcases Fm h6 with e0|⟨o1,b1,e0,hk⟩
  ·cases e0
  ·cases e0;exact hk
 ·rcases h7 with⟨rfl,rfl,rfl⟩|h7
  ·refine .inl ⟨rfl,rfl,rfl,?_⟩
   have:=(List.getElem?_eq_some_iff.1 h5).1;simp at this;exact this
  ·exact .inr h7
structure apg (F:Nat→Prop) (A:Arg) (w0 w':World) (φ φ3:Fp) (gS:Sig) (st3:TS) (tm:Array Value) (B:List (Nat×List Mode×List TC)) (r:TV) (v:Value) (ri fi:List It) (X:Nat→Nat→Prop) (posB:Nat→Nat→Nat):Prop where
 rel:bD F A w0 φ3 st3 tm w'
 β:φ3.β=φ.β
 res:ZV w' X gS.res r v ri
 item: ∀(i:Nat) (it:It),(ri++fi)[i]?=some it→aB w' φ3.I it.1 (X i) it.2.1 it.2.2
 apart: ∀(i j k:Nat),i<(ri++fi).length→j<(ri++fi).length→X i k→X j k→i=j
 free: ∀(i k:Nat),i<ri.length→X i k→xw F w0 w' φ3 st3 k
 box: ∀b ms ts,(b,ms,ts)∈B→DJ b=true∧(φ.β b).spot=none∧(∀cs,az b st3.bx≠some cs)∧xw F w0 w' φ3 st3 (φ.β b).block∧(∀i,i<(ri++fi).length→ ¬X i (φ.β b).block)∧
  (∀b' ms' ts',(b',ms',ts')∈B→b'≠b→(φ.β b').block≠(φ.β b).block)∧
  ∃us:List Value,us.length=ts.length∧(∀(j:Nat) (u:Value),us[j]?=some u→w'.cell? ((φ.β b).add j)=some u∧u.cells= #[u]∧w'.frozen? ((φ.β b).add j)=false)∧
   ∀(j:Nat) (c:TC),ts[j]?=some c→ ∃u,us[j]?=some u∧(ri++fi)[posB b j]?=some (mAt ms j,c,u)∧ri.length≤posB b j∧ ∀k,X (posB b j) k→xw F w0 w' φ3 st3 k
 posI: ∀b ms ts b' ms' ts' j j',(b,ms,ts)∈B→(b',ms',ts')∈B→j<ts.length→j'<ts'.length→posB b j=posB b' j'→b=b'∧j=j'
 ndB:B.Pairwise fun x y=>x.1≠y.1
end Go.T
namespace Go.T
variable {F : Nat → Prop} {A : Arg} {w0 w w' : World} {φ φ' : Fp} {st st' sta fR sK : TS} {tm Lo : Array Value} {C : pU}
variable {R : Type} {cf : Cf} {lp : Lp} {Q : R → Prop}
def Vq (sh:Bool) (st:TS) (ps:List cz) (es:List TE):List Nat:=match sh with
 |true=>kT st ps es++borrowed st ps es
 |false=>kT st ps es
theorem anp (h:bD F A w0 φ st tm w) (sh:Bool) (ps:List cz) (es:List TE): ∃φ2,bD F A w0 φ2 (IU sh st ps es) tm w∧φ2.β=φ.β∧φ2.V=φ.V∧φ2.S=φ.S∧(∀k,φ.I k→φ2.I k)∧
 (∀k,φ2.I k→φ.I k∨(sh=true∧ ∃o∈borrowed st ps es,aT st.ob o∧φ.S o k))∧(sh=true→ ∀o∈borrowed st ps es,o∉kT st ps es→aT st.ob o→ ∀k,φ.S o k→φ2.I k)∧Dp st (IU sh st ps es) (Vq sh st ps es) (rZ st ps es):=by
 obtain⟨h1,l1⟩:=acQ (uM:=st) ps es st h
 cases sh with
 |false=>exact⟨φ,h1,rfl,rfl,rfl,fun _ h=>h,fun _ h=> .inl h,fun e=>(by cases e),l1⟩
 |true=>
  obtain⟨φ2,h2,a1,a2,a3,a4,a5⟩:=Nh (borrowed st ps es) _ _ h1
  have dom1: ∀o,aT (yj st ps es st).ob o↔o∉kT st ps es∧aT st.ob o:=fun o=>by
   unfold aT;rw[l1.ob]
   by_cases ho:o∈kT st ps es
   ·simp[ho]
   ·simp[ho]
  refine⟨φ2,h2,a1,a2,a3,fun k hk=>(a4 k).2 (.inl hk),fun k hk=>((a4 k).1 hk).imp id fun⟨o,o1,o2,o3⟩=>⟨rfl,o,o1,((dom1 o).1 o2).2,o3⟩,fun _ o o1 o2 o3 k hk=>(a4 k).2 (.inr ⟨o,o1,(dom1 o).2 ⟨o2,o3⟩,hk⟩),?_⟩;have:=l1.trans a5;exact(by simpa using this:Dp st (DQ (yj st ps es st) (borrowed st ps es)) (kT st ps es++borrowed st ps es) (rZ st ps es))
theorem agP (h:bD F A w0 φ st tm w) {gS:Sig} {es:List TE} {own qt:List Nat} {xs:List Value} (hgi:E7 st gS.ps es=some (own,qt)) (hn:Ls own=true) (hm:zi own qt=false) (h0:(gS.shares&&pI 0 qt)=false)
 (Q8: ∀(i:Nat) (e:TE),es[i]?=some e→ ∃x,xs[i]?=some x∧dO st.ob w φ e x) {r:TV} {fs:List TV} {v:Value}
 (hp:Rj (yp (XOf w φ st gS.ps es) (YOf φ gS.ps es)) (KY gS.shares (Jb φ st qt) (Xz φ st qt)) w w' gS xs r fs v) {W:List (Nat×OB)} {B:List (Nat×List Mode×List TC)} (hpo:zz st gS.ps es fs=some (W,B)):
 ∃φ3 ri fi X posB,apg F A w0 w' φ φ3 gS (yJ W (IU gS.shares st gS.ps es)) tm B r v ri fi X posB:=by
 obtain⟨afz,I,X,ri,fi,hb,hri,hfi⟩:=hp;have g:=DZ hgi;have hnd:=LB.1 hn;have po:=Ap hpo;obtain⟨pos,fp⟩:=aeT hfi;obtain⟨φ2,h2,fβ,fV,fS,fI1,fI2,fI3,lost⟩:=anp h gS.shares gS.ps es;have hsize:w.heap.size≤w'.heap.size:=afz.size
 have dom2: ∀{o},aT (IU gS.shares st gS.ps es).ob o→o∉Vq gS.shares st gS.ps es∧aT st.ob o:=fun {o} ⟨b,hb⟩=>by
  rw[lost.ob] at hb
  split at hb
  ·cases hb
  ·rename_i hn;exact⟨hn,b,hb⟩
 have goneSub: ∀{o},o∈kT st gS.ps es→o∈Vq gS.shares st gS.ps es:=fun {o} ho=>by
  unfold Vq;cases gS.shares<;>simp[ho]
 have midSub: ∀{o},o∈Vq gS.shares st gS.ps es→o∈kT st gS.ps es∨o∈borrowed st gS.ps es:=fun {o} ho=>by
  unfold Vq at ho
  revert ho
  cases gS.shares with
  |true=>intro ho;exact List.mem_append.1 ho
  |false=>exact .inl
 have rdNot: ∀{o},2*o∈own→o∉borrowed st gS.ps es:=fun {o} ho hbr=>wg hm ho ((Ao hgi).1 hbr)
 have wAlive: ∀{o b'},(o,b')∈W→2*o∈own∧o∉Vq gS.shares st gS.ps es:=fun {o b'} hw=>by
  obtain⟨i,j,_,e',ag,cs,f,c,a,hk,_⟩:=xY po hw;have ho:=g.key a hk;refine⟨ho,fun hmid=> ?_⟩;rcases midSub hmid with hg|hbr
  ·obtain⟨i2,j2,p2,e2,e2',a2,hk2,Dg⟩:=Vp g hg
   obtain⟨_,_,e1,e3,_⟩:=g.Vo hnd a a2 hk hk2;subst e1 e3;rcases Dg with e1|⟨_,b,off,e1⟩<;>cases e1
  ·exact rdNot ho hbr
 have notW: ∀{o},az o W=none→ ∀b',(o,b')∉W:=fun {o} h=>yL h
 have cfX: ∀{k o},yp (XOf w φ st gS.ps es) (YOf φ gS.ps es) k→aT st.ob o→φ.S o k→ ∃i j p e e',AtP st gS.ps es i j p e e'∧nU e'=some o∧zm w φ st e' k:=fun {k o} hk hd hS=>by
  rcases hk with⟨i,j,hx⟩|⟨i,hy⟩
  ·obtain⟨p,e,e',o',l,x1,x2,x3,x4,x5,x6,x7,_⟩:=Ng h g Q8 hx
   have:=h.sep.apart o o' k hd x6 hS x7;subst this;obtain⟨p',e2,y1,y2,y3,y4⟩:=hx;rw[x2] at y2;cases y2;rw[List.getD,x4] at y4;exact⟨i,j,p,e,e',⟨x1,x2,x3,x4⟩,x5,y4⟩
  ·obtain⟨p,b,y1,y2,y3,rfl⟩:=hy
   obtain⟨l,ok,_⟩:=g.ow i p _ y1 y2 y3;obtain⟨_,_,_,_,Ra,_⟩:=ok.bx b 0 rfl;exact(h.rY hd hS Ra rfl).elim
 have cfOwn: ∀{k},yp (XOf w φ st gS.ps es) (YOf φ gS.ps es) k→(∃o,2*o∈own∧aT st.ob o∧φ.S o k)∨ ∃(i b:Nat) (ms:List Mode) (cs:List CE),gS.ps[i]?=some (cz.inout ms)∧es[i]?=some (TE.bp b 0)∧DJ b=true∧az b st.bx=some cs∧2*b+1∈own∧k=(φ.β b).block:=fun {k} hk=>by
  rcases hk with⟨i,j,hx⟩|⟨i,hy⟩
  ·obtain⟨p,e,e',o',l,x1,x2,x3,x4,x5,x6,x7,_,_,x10⟩:=Ng h g Q8 hx
   exact .inl ⟨o',x10,x6,x7⟩
  ·obtain⟨p,b,y1,y2,y3,rfl⟩:=hy
   obtain⟨l,ok,hl,_⟩:=g.ow i p _ y1 y2 y3;obtain⟨_,hc,hw,Xm,Ra,_⟩:=ok.bx b 0 rfl
   obtain⟨ms,rfl⟩: ∃ms,p= .inout ms:=by cases p with
    |borrow=>exact absurd rfl y3
    |inout ms=>exact⟨ms,rfl⟩
    |consume=>cases hc
   exact .inr ⟨i,b,ms,_,y1,y2,hw,Ra,hl _ Xm,rfl⟩
 have hβ: ∀b,φ2.β b=φ.β b:=fun b=>by rw[fβ]
 have cfFree: ∀{k},yp (XOf w φ st gS.ps es) (YOf φ gS.ps es) k→k<w.heap.size∧(w0.heap.size≤k∨F k)∧ ¬φ2.I k∧(∀d,aT (IU gS.shares st gS.ps es).ob d→az d W=none→ ¬φ.S d k)∧ ∀b cs,az b (IU gS.shares st gS.ps es).bx=some cs→(φ.β b).block≠k:=fun {k} hk=>by
  rcases cfOwn hk with⟨o,ho,hd,hS⟩|⟨i,b,msb,cs,h1,h3,hw,Ra,hbo,rfl⟩
  ·refine⟨(h.sep.fresh o k hd hS).1,(h.sep.fresh o k hd hS).2,fun hI=> ?_,fun d hd' hnW r8=> ?_,fun b cs hb'=> ?_⟩
   ·rcases fI2 k hI with hI|⟨_,o',o1,o2,o3⟩
    ·exact h.sep.read o k hd hS hI
    ·have:=h.sep.apart o o' k hd o2 hS o3
     subst this;exact rdNot ho o1
   ·obtain⟨d1,d2⟩:=dom2 hd'
    have:=h.sep.apart o d k hd d2 hS r8;subst this;rcases agO g po ho with hg|⟨b',hw⟩
    ·exact d1 (goneSub hg)
    ·exact notW hnW b' hw
   ·obtain⟨_,cs0,c0,_⟩:=lost.bx b cs hb'
    exact h.rY hd hS c0
  ·obtain⟨x1,x2,x3,x4⟩:=h.sep.box b cs Ra hw
   refine⟨(h.sep.spot b cs Ra).2.1,x3,fun hI=> ?_,fun d hd' _ r8=>x2 d (dom2 hd').2 r8,fun b' cs' hb' e=> ?_⟩
   ·rcases fI2 _ hI with hI|⟨_,o',o1,o2,o3⟩
    ·exact x1 hI
    ·exact x2 o' o2 o3
   ·obtain⟨hng,cs0,c0,_⟩:=lost.bx b' cs' hb'
    by_cases Xn:b'=b
    ·subst Xn;exact hng (LC.2 ⟨i,_,0,cs,h1,h3,Ra⟩)
    ·exact x4 b' cs0 c0 Xn e
 have hI: ∀{k},I k→φ2.I k∨w.heap.size≤k∨yp (XOf w φ st gS.ps es) (YOf φ gS.ps es) k:=fun {k} hk=>by
  rcases (hb.ro k hk).2 with h1|h1|⟨hsh,h1⟩
  ·exact .inr (.inl h1)
  ·exact .inr (.inr h1)
  ·left
   rcases h1 with h1|⟨o,o1,o2,o3⟩
   ·exact fI1 k h1
   ·have ho0:o≠0:=fun e=>by
     subst e;rw[hsh] at h0;simp only[dB] at h0;exact fZ.1 h0 o1
    have hd:=o2.resolve_left ho0;have hbr:=(Ao hgi).2 o1;refine fI3 hsh o hbr (fun hg=> ?_) hd k o3;obtain⟨i2,j2,p2,e2,e2',a2,hk2,_⟩:=Vp g hg;exact rdNot (g.key a2 hk2) hbr
 have itemFree: ∀{i k},i<(ri++fi).length→X i k→k<w'.heap.size∧(w0.heap.size≤k∨F k)∧ ¬φ2.I k∧ ¬I k∧(∀d,aT (IU gS.shares st gS.ps es).ob d→az d W=none→ ¬φ.S d k)∧ ∀b cs,az b (IU gS.shares st gS.ps es).bx=some cs→(φ.β b).block≠k:=fun {i k} hi hk=>by
  obtain⟨r1,r2,r3⟩:=hb.rng i k hi hk;rcases r2 with r2|r2
  ·refine⟨r1,.inl (uO h.frm.size r2),fun hI=> ?_,r3,fun d hd _ hS=> ?_,fun b cs hb' e=> ?_⟩
   ·have:=(h2.sep.ro k hI).1;omega
   ·have:=(h.sep.fresh d k (dom2 hd).2 hS).1;omega
   ·obtain⟨_,cs0,c0,_⟩:=lost.bx b cs hb'
    have:=(h.sep.spot b cs0 c0).2.1;rw[e] at this;omega
  ·obtain⟨c1,c2,c3,c4,c5⟩:=cfFree r2
   exact⟨r1,c2,c3,r3,c4,c5⟩
 let X':Nat→Nat→Prop:=fun o k=> ∃(i j:Nat) (p:cz) (e:TE) (e':CE),AtP st gS.ps es i j p e e'∧nU e'=some o∧((φ.S o k∧ ¬zm w φ st e' k)∨X (ri.length+pos i j) k)
 have hX': ∀{o i j p e e'},AtP st gS.ps es i j p e e'→nU e'=some o→X' o=fun k=>(φ.S o k∧ ¬zm w φ st e' k)∨X (ri.length+pos i j) k:=fun {o i j p e e'} a hk=>by
  funext k
  refine propext ⟨?_,fun hx=>⟨i,j,p,e,e',a,hk,hx⟩⟩;rintro⟨i2,j2,p2,e2,e2',a2,hk2,hx⟩;obtain⟨rfl,rfl,rfl,rfl,rfl⟩:=g.Vo hnd a a2 hk hk2;exact hx
 have posLt: ∀{o b'},(o,b')∈W→ ∀{i j p e e'},AtP st gS.ps es i j p e e'→nU e'=some o→ri.length+pos i j<(ri++fi).length:=fun {o b'} hw {i j p e e'} a hk=>by
  obtain⟨i2,j2,_,e2',ag,cs,f,c,a2,hk2,hf,hc,_⟩:=xY po hw;obtain⟨rfl,rfl,rfl,rfl,rfl⟩:=g.Vo hnd a a2 hk hk2;have:=fp.lt i f j hf (List.getElem?_eq_some_iff.1 hc).1;rw[cM];omega
 have posNe: ∀{o1 b1 o2 b2},(o1,b1)∈W→(o2,b2)∈W→ ∀{i j p e e' i2 j2 p2 e2 e2'},AtP st gS.ps es i j p e e'→nU e'=some o1→AtP st gS.ps es i2 j2 p2 e2 e2'→nU e2'=some o2→ri.length+pos i j=ri.length+pos i2 j2→o1=o2:=fun {o1 b1 o2 b2} hw1 Xp {i j p e e' i2 j2 p2 e2 e2'} a hk a2 hk2 heq=>by
  obtain⟨i3,j3,_,e3',ag,cs,f,c,a3,hk3,hf,hc,_⟩:=xY po hw1;obtain⟨rfl,rfl,rfl,rfl,rfl⟩:=g.Vo hnd a a3 hk hk3;obtain⟨i4,j4,_,e4',ag4,cs4,f4,c4,a4,hk4,hf4,hc4,_⟩:=xY po Xp;obtain⟨rfl,rfl,rfl,rfl,rfl⟩:=g.Vo hnd a2 a4 hk2 hk4;obtain⟨rfl,rfl⟩:=fp.inj i i2 f f4 j j2 hf (List.getElem?_eq_some_iff.1 hc).1 hf4 (List.getElem?_eq_some_iff.1 hc4).1 an;have e1:=a.hc;have e2:=a2.he;rw[a.he] at e2;cases e2;have e3:=a2.hc
  rw[e1] at e3;cases e3;rw[hk] at hk2;cases hk2
  rfl
 have frm':MV F w0 w':=by
  refine⟨afz.os.trans h.frm.os,afz.tape.trans h.frm.tape,afz.output.trans h.frm.output,uO h.frm.size hsize,fun k hk hF=> ?_⟩
  rw[afz.block k (mq hk h.frm.size) fun hc=>by
   rcases (cfFree hc).2.1 with h3|h3
   ·omega
   ·exact hF h3]
  exact h.frm.block k hk hF
 have R3:=h2.wrote (w':=w') W X' I (yp (XOf w φ st gS.ps es) (YOf φ gS.ps es)) frm' hsize (fun k hk hn=>afz.block k hk hn) (fun k hk=>(cfFree hk).2.1) (fun k hk=>(cfFree hk).2.2.1)
  (fun k o hk ho hnW hS=>by rw[fS] at hS;exact(cfFree hk).2.2.2.1 o ho hnW hS) (fun b cs hb' hk=>by rw[hβ] at hk;exact(cfFree hk).2.2.2.2 b cs hb' rfl)
  (fun o b' Bm=>by
    have hw:=lS Bm;obtain⟨i,j,_,e',ag,cs,f,c,a,hkey,hf,hc,hgv,hform⟩:=xY po hw;obtain⟨hown,hnm⟩:=wAlive hw;obtain⟨msF,aoE,x,hx,hfa⟩:=fp.at' i f hf;obtain⟨x',hx',htx⟩:=Q8 i _ a.he;rw[hx] at hx';cases hx'
    obtain⟨u,hu,hce⟩: ∃u,fi[pos i j]?=some (.deep,c,u)∧e9 st.ob w φ e' u:=by
     rcases hform with⟨rfl,rfl,rfl,rfl⟩|⟨ts,rfl,rfl⟩
     ·obtain⟨c0,e0,htx⟩:=htx
      cases e0
      obtain⟨e1,e2,_,h3⟩:=htx
      cases e2
      exact⟨x,hfa,h3⟩
     ·obtain⟨ys,rfl,_,hys⟩:=hfa
      obtain⟨c0,e0,htx⟩:=htx
      cases e0
      obtain⟨zs,e1,_,h3⟩:=htx
      cases e1
      obtain⟨u,u1,u2⟩:=hys j c hc;obtain⟨u',u3,_,u4⟩:=h3 j e' a.hc;rw[u1] at u3;cases u3;exact⟨u,u2,u4⟩
    have hidx:(ri++fi)[ri.length+pos i j]?=some (.deep,c,u):=by rw[pP an,Nat.add_sub_cancel_left];exact hu
    have agx:=hb.ok _ _ hidx;simp only at agx;have hlt:=posLt hw a hkey;rw[hX' a hkey]
    obtain⟨b0,hb0,aro,hz,hlen,hcell⟩: ∃b0,az o st.ob=some b0∧b'.deep=true∧b'.z=b0.z∧b'.rows.length=b0.rows.length∧aB w' (fun k=>φ2.I k∨I k) .deep (fun k=>(φ.S o k∧ ¬zm w φ st e' k)∨X (ri.length+pos i j) k) (.sub b'.z b'.rows) (φ.V o):=by
     unfold xE at hgv
     split at hgv
     ·cases hkey
     ·cases hkey
     ·rename_i o' z rows
      cases hkey
      split at hgv
      ·rename_i z0 uC Lq
       split at hgv
       ·rename_i MJ
        have MJ:=kD MJ;subst MJ;simp only[aY,List.cons.injEq,Bx,and_true,true_and] at hgv;subst hgv;obtain⟨b1,g1,g2⟩:=hce;have g2:u=φ.V o:=g2;subst g2
        have apV:rows.length=uC.length:=by
         have hO:=h.obj o _ Lq;unfold rX at hO;obtain⟨A1,c1,e1,_⟩:=aB.len agx;obtain⟨A2,c2,e2,_⟩:=aB.len hO;rw[e1] at e2
         injection e2 with _ e3 _
        exact⟨_,Lq,rfl,rfl,apV,(agx.I6 rfl).mono fun k hk=> .inr hk⟩
       ·cases hgv
      ·cases hgv
     ·rename_i ds o' i0 f0 z0 uC z' bJ
      cases hkey
      split at hgv
      ·rename_i z rows Lq MJ
       have MJ:=kD MJ;subst MJ;simp only[aY,List.cons.injEq,Bx,and_true,true_and] at hgv;subst hgv;obtain⟨_,_,h3⟩:=hce;obtain⟨_,b1,g1,g2,g3,ad,n,c',g4,g5⟩:=h3 o i0 f0 rfl;rw[Lq] at g1;cases g1;obtain⟨_,q2,q3⟩:=OV h o i0 f0 _ ad n c' _ u Lq rfl g4 g3 g5
       have hcl:=q3 w' (.sub z' bJ) (fun k=>φ2.I k∨I k) (X (ri.length+pos i j)) (agx.I6 rfl) (fun k hk hn'=>afz.block k (h.sep.fresh o k ⟨_,Lq⟩ hk).1 fun KR=>by
        obtain⟨i2,j2,p2,e2,e2',a2,hk2,hp2⟩:=cfX KR ⟨_,Lq⟩ hk;obtain⟨_,_,_,_,e5⟩:=g.Vo hnd a a2 rfl hk2;subst e5
        exact hn' hp2)
        (fun k hk=>by
          rcases (hb.rng _ k hlt hk).2.1 with r2|r2
          ·right;intro hS;have:=(h.sep.fresh o k ⟨_,Lq⟩ hS).1;omega
          ·by_cases hS:φ.S o k
           ·left
            obtain⟨i2,j2,p2,e2,e2',a2,hk2,hp2⟩:=cfX r2 ⟨_,Lq⟩ hS;obtain⟨_,_,_,_,e5⟩:=g.Vo hnd a a2 rfl hk2;subst e5;exact hp2
           ·exact .inr hS)
       refine⟨_,Lq,rfl,rfl,by simp only[xL,nF],?_⟩;simp only[xL];exact hcl
      ·cases hgv
     ·cases hgv
    have hd0:aT st.ob o:=⟨b0,hb0⟩
    have FY:az o (IU gS.shares st gS.ps es).ob=some b0:=by rw[lost.ob,aF hnm];exact hb0
    refine⟨b0,FY,hz,hlen,?_,fun k hk=> ?_⟩
    ·rw[fV]
     have:b'.m= .deep:=by unfold OB.m;rw[aro];rfl
     rw[this];exact hcell
    ·
     have ofS:φ.S o k→ ¬zm w φ st e' k→ ¬I k∧ ¬yp (XOf w φ st gS.ps es) (YOf φ gS.ps es) k:=fun hS hnp=>by
      have apW: ¬yp (XOf w φ st gS.ps es) (YOf φ gS.ps es) k:=fun KR=>by
       obtain⟨i2,j2,p2,e2,e2',a2,hk2,hp2⟩:=cfX KR hd0 hS;obtain⟨_,_,_,_,e5⟩:=g.Vo hnd a a2 hkey hk2;subst e5;exact hnp hp2
      refine⟨fun hIk=> ?_,apW⟩;rcases hI hIk with h3|h3|h3
      ·exact h2.sep.read o k ⟨_,FY⟩ (by rw[fS];exact hS) h3
      ·have:=(h.sep.fresh o k hd0 hS).1;omega
      ·exact apW h3
     have noS: ∀{d b1},az d W=some b1→X' d k→d=o:=fun {d b1} hld hxd=>by
      have zp:=lS hld;obtain⟨i2,j2,_,e2',ag2,cs2,f2,c2,a2,hk2,_⟩:=xY po zp;rw[hX' a2 hk2] at hxd
      have hdd:aT st.ob d:=by
       have:=(wAlive zp).1;obtain⟨x2,hx2,ht2⟩:=Q8 i2 _ a2.he;obtain⟨u2,hu2⟩:=Fi h ht2 a2.hc;obtain⟨l,ok,_⟩:=g.ow i2 _ _ a2.hp a2.he a2.hb;obtain⟨⟨cb,_,hoc,_⟩,_⟩:=ok.one j2 e2' a2.hc;have hoc:=hoc.key hk2
       cases e2' with
       |ref o1 cut=>cases hk2;obtain⟨b2,g1,_⟩:=hu2;exact⟨b2,g1⟩
       |snap ds loc z rows=>cases loc with
        |none=>cases hk2
        |some q=>obtain⟨o1,i1,f1⟩:=q;cases hk2;obtain⟨_,_,Q9⟩:=I9 hoc.2;exact⟨_,Q9⟩
       |_=>cases hk2
      rcases hxd with⟨s1,s2⟩|s1
      ·rcases hk with⟨t1,t2⟩|t1
       ·exact h.sep.apart d o k hdd hd0 s1 t1
       ·
        exfalso
        rcases (hb.rng _ k hlt t1).2.1 with r2|r2
        ·have:=(h.sep.fresh d k hdd s1).1;omega
        ·obtain⟨i3,j3,p3,e3,e3',a3,hk3,hp3⟩:=cfX r2 hdd s1
         obtain⟨_,_,_,_,e5⟩:=g.Vo hnd a2 a3 hk2 hk3;subst e5;exact s2 hp3
      ·rcases hk with⟨t1,t2⟩|t1
       ·exfalso
        rcases (hb.rng _ k (posLt zp a2 hk2) s1).2.1 with r2|r2
        ·have:=(h.sep.fresh o k hd0 t1).1;omega
        ·exact(ofS t1 t2).2 r2
       ·exact posNe zp hw a2 hk2 a hkey (hb.apart _ _ k (posLt zp a2 hk2) hlt s1 t1)
     rcases hk with⟨t1,t2⟩|t1
     ·refine⟨mq (h.sep.fresh o k hd0 t1).1 hsize,(h.sep.fresh o k hd0 t1).2,h2.sep.read o k ⟨_,FY⟩ (by rw[fS];exact t1),(ofS t1 t2).1,fun d hd hnW hS=> ?_,fun d b1 hld hxd=>noS hld hxd,fun b cs hb' _=> ?_⟩
      ·rw[fS] at hS
       have:=h.sep.apart d o k (dom2 hd).2 hd0 hS t1;subst this;rw[Bm] at hnW;cases hnW
      ·obtain⟨_,cs0,c0,_⟩:=lost.bx b cs hb'
       rw[hβ];exact h.rY hd0 t1 c0
     ·obtain⟨q1,q2,q3,q4,q5,q6⟩:=itemFree hlt t1
      exact⟨q1,q2,q3,q4,fun d hd hnW hS=>q5 d hd hnW (by rw[fS] at hS;exact hS),fun d b1 hld hxd=>noS hld hxd,fun b cs hb' _=>by rw[hβ];exact q6 b cs hb'⟩)
  (fun k hk=>by
    rcases hI hk with h3|h3|h3
    ·refine⟨(hb.ro k hk).1,(h2.sep.ro k h3).2,fun d hd _=>fun hS=>h2.sep.read d k hd hS h3,fun b cs hb' KQ e=> ?_⟩
     exact(h2.sep.box b cs hb' KQ).1 (by rw[e];exact h3)
    ·refine⟨(hb.ro k hk).1,.inl (uO h.frm.size h3),fun d hd _ hS=> ?_,fun b cs hb' _ e=> ?_⟩
     ·have:=(h2.sep.fresh d k hd hS).1;omega
     ·have:=(h2.sep.spot b cs hb').2.1;rw[e] at this;omega
    ·obtain⟨c1,c2,c3,c4,c5⟩:=cfFree h3
     exact⟨(hb.ro k hk).1,c2.elim .inl fun hF=> .inr (.inl hF),fun d hd hnW hS=>c4 d hd hnW (by rw[fS] at hS;exact hS),fun b cs hb' _=>by rw[hβ];exact c5 b cs hb'⟩)
 have dom3: ∀{o},aT (yJ W (IU gS.shares st gS.ps es)).ob o→aT (IU gS.shares st gS.ps es).ob o:=fun {o} hd=>by
  cases W with
  |nil=>exact hd
  |cons a q=>
   obtain⟨b,hb'⟩:=hd;have hb':az o (nC (a::q) (IU gS.shares st gS.ps es).ob)=some b:=hb';rw[wN] at hb'
   cases hl:az o (a::q) with
   |none=>rw[hl] at hb';exact⟨b,hb'⟩
   |some b1=>
    have hw:=lS hl;obtain⟨hown,hnm⟩:=wAlive hw;obtain⟨i,j,_,e',ag,cs,f,c,a',hkey,_⟩:=xY po hw;obtain⟨x2,hx2,ht2⟩:=Q8 i _ a'.he;obtain⟨u2,hu2⟩:=Fi h ht2 a'.hc;obtain⟨l,ok,_⟩:=g.ow i _ _ a'.hp a'.he a'.hb;obtain⟨⟨cb,_,hoc,_⟩,_⟩:=ok.one j e' a'.hc;have hoc:=hoc.key hkey
    have hd0:aT st.ob o:=by
     cases e' with
     |ref o1 cut=>cases hkey;obtain⟨b2,g1,_⟩:=hu2;exact⟨b2,g1⟩
     |snap ds loc z rows=>cases loc with
      |none=>cases hkey
      |some q=>obtain⟨o1,i1,f1⟩:=q;cases hkey;obtain⟨_,_,Q9⟩:=I9 hoc.2;exact⟨_,Q9⟩
     |_=>cases hkey
    obtain⟨b0,hb0⟩:=hd0;exact⟨b0,by rw[lost.ob,aF hnm];exact hb0⟩
 have bx3: ∀{b cs},az b (yJ W (IU gS.shares st gS.ps es)).bx=some cs→ ∃cs0,az b (IU gS.shares st gS.ps es).bx=some cs0:=fun {b cs} hb'=>by
  cases W with
  |nil=>exact⟨cs,hb'⟩
  |cons a q=>obtain⟨cs0,c0,_⟩:=jO _ b cs hb';exact⟨cs0,c0⟩
 have R3S: ∀{o k},aT (yJ W (IU gS.shares st gS.ps es)).ob o→(φ2.wr W X' I).S o k→(az o W=none∧φ.S o k)∨ ∃b',(o,b')∈W∧X' o k:=fun {o k} _ hS=>by
  cases hl:az o W with
  |none=>rw[Xx hl,fS] at hS;exact .inl ⟨rfl,hS⟩
  |some b'=>rw[acL hl] at hS;exact .inr ⟨b',lS hl,hS⟩
 have freeOf: ∀{n k},n<(ri++fi).length→(∀o b',(o,b')∈W→ ∀i j p e e',AtP st gS.ps es i j p e e'→nU e'=some o→ri.length+pos i j≠n)→X n k→xw F w0 w' (φ2.wr W X' I) (yJ W (IU gS.shares st gS.ps es)) k:=fun {n k} hlt hne hx=>by
  obtain⟨q1,q2,q3,q4,q5,q6⟩:=itemFree hlt hx;refine⟨q1,q2,fun hi=>hi.elim q3 q4,fun o hd hS=> ?_,fun b cs hb'=> ?_⟩
  ·rcases R3S hd hS with⟨hnW,hS⟩|⟨b',hw,hx'⟩
   ·exact q5 o (dom3 hd) hnW hS
   ·obtain⟨i,j,_,e',ag,cs,f,c,a,hkey,_⟩:=xY po hw
    rw[hX' a hkey] at hx';rcases hx' with⟨s1,s2⟩|s1
    ·obtain⟨_,hd1⟩:=dom2 (dom3 hd)
     rcases (hb.rng n k hlt hx).2.1 with r2|r2
     ·have:=(h.sep.fresh o k hd1 s1).1;omega
     ·obtain⟨i2,j2,p2,e2,e2',a2,hk2,hp2⟩:=cfX r2 hd1 s1
      obtain⟨_,_,_,_,e5⟩:=g.Vo hnd a a2 hkey hk2;subst e5;exact s2 hp2
    ·exact hne o b' hw i j _ _ e' a hkey (hb.apart _ _ k (posLt hw a hkey) hlt s1 hx)
  ·obtain⟨cs0,c0⟩:=bx3 hb'
   show(φ2.β b).block≠k;rw[hβ];exact q6 b cs0 c0
 have uniqI: ∀(i i' b:Nat) (ms ms':List Mode),gS.ps[i]?=some (.inout ms)→gS.ps[i']?=some (.inout ms')→es[i]?=some (.bp b 0)→es[i']?=some (.bp b 0)→i=i':=fun i i' b ms ms' h1 h2' h3 h4=>by
  obtain⟨l,ok,_,_,Lq⟩:=g.ow i _ _ h1 h3 dh;obtain⟨l2,ok2,_,_,aoD⟩:=g.ow i' _ _ h2' h4 dh;exact g.uniq hnd i i' _ _ _ _ l l2 (2*b+1) h1 h2' h3 h4 dh dh Lq aoD (ok.bx b 0 rfl).2.2.2.1 (ok2.bx b 0 rfl).2.2.2.1
 let iOf:Nat→Nat:=fun b=>Classical.epsilon fun i=>(∃ms,gS.ps[i]?=some (.inout ms))∧es[i]?=some (.bp b 0)
 have aoG: ∀{i b ms},gS.ps[i]?=some (.inout ms)→es[i]?=some (.bp b 0)→iOf b=i:=fun {i b ms} h1 h3=>by
  have:=Classical.epsilon_spec (p:=fun i=>(∃ms,gS.ps[i]?=some (cz.inout ms))∧es[i]?=some (TE.bp b 0)) ⟨i,⟨ms,h1⟩,h3⟩;obtain⟨⟨ms',h1'⟩,h3'⟩:=this;exact uniqI _ _ b _ _ h1' h1 h3' h3
 refine⟨φ2.wr W X' I,ri,fi,X,fun b j=>ri.length+pos (iOf b) j,⟨R3,fβ,hri,fun i it hi=>(hb.ok i it hi).sW fun k hk=> .inr hk,hb.apart,fun i k hi hk=>freeOf (by rw[cM];omega) (fun o b' hw i' j' p e e' a hkey hne=>by omega) hk,fun b ms ts hbm=> ?_,fun b ms ts b' ms' ts' j j' hb1 hb2 hj hj' he=> ?_,po.ndB uniqI⟩⟩
 ·obtain⟨i,cs,g1,g2,g3,g4,g5⟩:=po.memB b ms ts hbm
  obtain⟨msF,aoE,x,hx,hfa⟩:=fp.at' i _ g3;rw[g1] at aoE
  cases aoE
  obtain⟨x',hx',htx⟩:=Q8 i _ g2;rw[hx] at hx';cases hx';have htx:x= .pointer (some ((φ.β b).add 0)):=htx;rw[Addr.add_zero'] at htx;obtain⟨ad,us,e1,e2,⟨nb1,nb2⟩,e4,e5⟩:=hfa;rw[htx] at e1
  cases e1
  obtain⟨l,ok,hl,_⟩:=g.ow i _ _ g1 g2 dh;obtain⟨_,_,KQ,Xm,_,_⟩:=ok.bx b 0 rfl;have KR:yp (XOf w φ st gS.ps es) (YOf φ gS.ps es) (φ.β b).block:= .inr ⟨i,_,b,g1,g2,by simp,rfl⟩;obtain⟨c1,c2,c3,c4,c5⟩:=cfFree KR;refine⟨KQ,(h.sep.spot b cs g4).1 KQ,fun cs' hb'=> ?_,⟨mq c1 hsize,c2,fun hi=>hi.elim c3 nb1,fun o hd hS=> ?_,fun b' cs' hb'=> ?_⟩,nb2,fun b' ms' ts' hb' hne=> ?_,us,e2,e4,fun j c hj=> ?_⟩
  ·obtain⟨cs0,c0⟩:=bx3 hb'
   exact(lost.bx b cs0 c0).1 (LC.2 ⟨i,_,0,cs,g1,g2,g4⟩)
  ·rcases R3S hd hS with⟨hnW,hS⟩|⟨b',hw,hx'⟩
   ·exact c4 o (dom3 hd) hnW hS
   ·obtain⟨i',j',_,e',ag,cs',f,c,a,hkey,_⟩:=xY po hw
    rw[hX' a hkey] at hx';rcases hx' with⟨s1,s2⟩|s1
    ·exact h.rY (dom2 (dom3 hd)).2 s1 g4 rfl
    ·exact nb2 _ (posLt hw a hkey) s1
  ·obtain⟨cs0,c0⟩:=bx3 hb'
   show(φ2.β b').block≠_;rw[hβ];exact c5 b' cs0 c0
  ·obtain⟨i',cs',k1,k2,k3,k4,k5⟩:=po.memB b' ms' ts' hb'
   exact(h.sep.box b cs g4 KQ).2.2.2 b' cs' k4 hne
  ·obtain⟨u,u1,u2⟩:=e5 j c hj
   have hi:=aoG g1 g2;simp only[hi];have hlt:=fp.lt i _ j g3 (List.getElem?_eq_some_iff.1 hj).1;refine⟨u,u1,by rw[pP an,Nat.add_sub_cancel_left];exact u2,by omega,fun k hk=>freeOf (by rw[cM];omega) (fun o b' hw i' j' p e e' a hkey hne=> ?_) hk⟩;obtain⟨i2,j2,_,e2',ag,cs',f,c',a2,hk2,hf2,hc2,_⟩:=xY po hw;obtain⟨rfl,rfl,rfl,rfl,rfl⟩:=g.Vo hnd a a2 hkey hk2;obtain⟨rfl,_⟩:=fp.inj i' i f _ j' j hf2 (List.getElem?_eq_some_iff.1 hc2).1 g3 (List.getElem?_eq_some_iff.1 hj).1 an
   have:=a.he;rw[g2] at this
   cases this
 ·obtain⟨i,cs,g1,g2,g3,_⟩:=po.memB b ms ts hb1
  obtain⟨i',cs',g1',g2',g3',_⟩:=po.memB b' ms' ts' hb2;have he:ri.length+pos (iOf b) j=ri.length+pos (iOf b') j':=he;rw[aoG g1 g2,aoG g1' g2'] at he;obtain⟨rfl,rfl⟩:=fp.inj i i' _ _ j j' g3 hj g3' hj' an;rw[g2] at g2'
  cases g2'
  exact⟨rfl,rfl⟩
end Go.T
namespace Go.T
variable {F : Nat → Prop} {A : Arg} {w0 w w' : World} {φ φ' φ1 : Fp} {st st' sta fR sK : TS} {tm Lo : Array Value} {C : pU}
variable {R : Type} {cf : Cf} {lp : Lp} {Q : R → Prop}
theorem ak7 {o:Nat} {b:OB} {X:Nat→Prop} {V:Value} (h0:o≠0) {e:CE} {v:Value} (h:e9 st.ob w φ e v) (hd:o∉iX e):e9 (IQ o b st).ob w (φ.add o X V) e v:=by
 have h1:=h.kill (o:=o)
 have h2:ZK o e=e:=by unfold ZK;rw[fZ.2 hd]
 rw[h2] at h1;exact h1.add h0 (fun hd=>(rK.1 hd).1 rfl)
theorem xw.IQ {o k:Nat} {b:OB} {X:Nat→Prop} {V:Value} (h:xw F w0 w φ st k) (hX: ¬X k):xw F w0 w (φ.add o X V) (IQ o b st) k:=by
 refine⟨h.lt,h.new,h.I,fun d hd hk=> ?_,fun c cs hb=> ?_⟩
 ·by_cases he:d=o
  ·subst he
   have hk:(if d=d then X k else φ.S d k):=hk;rw[aJ rfl] at hk;exact hX hk
  ·rw[zk he] at hk
   have hd:aT (rW o b (uP o st.ob)) d:=hd;rcases mu.1 hd with e|hd
   ·exact he e
   ·exact h.S d (rK.1 hd).2 hk
 ·have hb:az c (mapA (List.map (ZK o)) st.bx)=some cs:=hb
  obtain⟨cs0,c0,_⟩:=jO _ c cs hb;exact h.B c cs0 c0
def Fo (st st':TS):Prop:= ∀b cs,az b st'.bx=some cs→ ∃cs0,az b st.bx=some cs0∧cs.length=cs0.length
theorem Fo.refl (st:TS):Fo st st:=fun b cs h=>⟨cs,h,rfl⟩
theorem Fo.trans {a b c:TS} (h:Fo a b) (k:Fo b c):Fo a c:=fun x cs hx=>by
 obtain⟨c1,a1,a2⟩:=k x cs hx;obtain⟨c0,b1,b2⟩:=h x c1 a1;exact⟨c0,b1,a2.trans b2⟩
theorem ak8 {o:Nat} {b:OB}:Fo st (IQ o b st):=fun c cs hb=>jO _ c cs hb
structure Made (F:Nat→Prop) (A:Arg) (w0 w:World) (φ φ':Fp) (st st':TS) (tm:Array Value) (nums:Nat→Prop) (Xs:Nat→Prop):Prop where
 rel:bD F A w0 φ' st' tm w
 β:φ'.β=φ.β
 I:φ'.I=φ.I
 keep: ∀e v,e9 st.ob w φ e v→(∀o∈iX e,¬nums o)→e9 st'.ob w φ' e v
 free: ∀k,xw F w0 w φ st k→ ¬Xs k→xw F w0 w φ' st' k
 bx:Fo st st'
theorem Made.refl (h:bD F A w0 φ st tm w) {nums Xs:Nat→Prop}:Made F A w0 w φ φ st st tm nums Xs:=⟨h,rfl,rfl,fun e v h _=>h,fun k h _=>h,Fo.refl st⟩
theorem Made.trans {φ2:Fp} {n1 n2 X1 X2 nums Xs:Nat→Prop} (h:Made F A w0 w φ φ1 st fR tm n1 X1) (k:Made F A w0 w φ1 φ2 fR sK tm n2 X2) (hn: ∀o,n1 o∨n2 o→nums o) (hX: ∀x,X1 x∨X2 x→Xs x):Made F A w0 w φ φ2 st sK tm nums Xs:=
 ⟨k.rel,k.β.trans h.β,k.I.trans h.I,fun e v he hd=>k.keep e v (h.keep e v he fun o ho hc=>hd o ho (hn o (.inl hc))) fun o ho hc=>hd o ho (hn o (.inr hc)),
   fun x hf hx=>k.free x (h.free x hf fun hc=>hx (hX x (.inl hc))) fun hc=>hx (hX x (.inr hc)),h.bx.trans k.bx⟩
theorem tN {f:Nat→Nat} (hf0: ∀j,f j≠0) (hinj: ∀j j',f j=f j'→j=j'): ∀(cs:List TC) (ms:List Mode) (j:Nat) (st:TS) (φ:Fp) (vs:List Value) (X:Nat→Nat→Prop),bD F A w0 φ st tm w→vs.length=cs.length→
 (∀(n:Nat) (c:TC) (v:Value),cs[n]?=some c→vs[n]?=some v→aB w φ.I (ms.getD n .snap) (X n) c v)→(∀n k,n<cs.length→X n k→xw F w0 w φ st k)→(∀n n' k,n<cs.length→n'<cs.length→X n k→X n' k→n=n')→
 ∃φ',Made F A w0 w φ φ' st (cR f ms j cs st).2 tm (fun o=> ∃n,j≤n∧n<j+cs.length∧o=f n) (fun k=> ∃n,n<cs.length∧X n k)∧(cR f ms j cs st).1.length=cs.length∧
  ∀(n:Nat) (e:CE) (v:Value),(cR f ms j cs st).1[n]?=some e→vs[n]?=some v→e9 (cR f ms j cs st).2.ob w φ' e v∧ ∀o∈iX e,∃n,j≤n∧n<j+cs.length∧o=f n
 |[],ms,j,st,φ,vs,X,h,hl,hc,hF,hd=>⟨φ,Made.refl h,rfl,fun n e v he=>by simp[cR] at he⟩
 |c::cs,ms,j,st,φ,vs,X,h,hl,hc,hF,hd=>by
  cases vs with
  |nil=>cases hl
  |cons v vs=>
   have h0:=hc 0 c v rfl rfl
   obtain⟨φ1,fR,e1,m1,he1,aks,hmk⟩: ∃φ1 fR e1,Made F A w0 w φ φ1 st fR tm (fun o=>o=f j) (X 0)∧e9 fR.ob w φ1 e1 v∧(∀o∈iX e1,o=f j)∧cR f ms j (c::cs) st=(e1::(cR f (ms.drop 1) (j+1) cs fR).1,(cR f (ms.drop 1) (j+1) cs fR).2):=by
    cases c with
    |any=>exact⟨φ,st,.gone,Made.refl h,trivial,fun o ho=>(by cases ho),rfl⟩
    |sc x=>
     refine⟨φ,st,.sc x,Made.refl h,?_,fun o ho=>(by cases ho),rfl⟩
     cases h0 with|sc _ _ _ hs=>exact⟨rfl,hs⟩
    |sub z rows=>
     have mk: ∀dp,(ms.getD 0 .snap)=OB.m ⟨dp,z,rows⟩→ ∃φ1,Made F A w0 w φ φ1 st (IQ (f j) ⟨dp,z,rows⟩ st) tm (fun o=>o=f j) (X 0)∧e9 (IQ (f j) ⟨dp,z,rows⟩ st).ob w φ1 (.ref (f j) none) v:=fun dp hm=>by
      rw[hm] at h0
      have hr:=h.IQ (o:=f j) (b:=⟨dp,z,rows⟩) (hf0 j) h0 (fun k hk=>⟨(hF 0 k dh hk).lt,(hF 0 k dh hk).new⟩) (fun k hk=>(hF 0 k dh hk).I) (fun k d hk _ hdm=>(hF 0 k dh hk).S d hdm)
       (fun b cs hb _ hk=>(hF 0 _ dh hk).B b cs hb rfl)
      refine⟨_,⟨hr,rfl,rfl,fun e v he hd=>ak7 (hf0 j) he fun hm=>hd _ hm rfl,fun k hk hn=>hk.IQ hn,ak8⟩,⟨dp,z,rows⟩,?_,?_⟩
      ·show az _ (rW _ _ _)=_
       exact pJ
      ·show v=(if f j=f j then v else _)
       rw[aJ rfl]
     have hhd:ms.headD .snap=ms.getD 0 .snap:=xI ms .snap
     cases hm:ms.headD .snap with
     |snap=>
      refine⟨φ,st,.snap [] none z rows,Made.refl h,⟨fun d hd=>(by cases hd),?_,fun o i f e=>(by cases e)⟩,fun o ho=>(by cases ho),?_⟩
      ·rw[←hhd,hm] at h0
       exact h0.uy fun k hk=> .inl hk
      ·simp only[cR,hm]
     |top=>
      obtain⟨φ1,m,hce⟩:=mk false (by rw[←hhd,hm];rfl);exact⟨φ1,_,_,m,hce,fun o ho=>by simpa [iX] using ho,by simp only[cR,hm]⟩
     |deep=>
      obtain⟨φ1,m,hce⟩:=mk true (by rw[←hhd,hm];rfl);exact⟨φ1,_,_,m,hce,fun o ho=>by simpa [iX] using ho,by simp only[cR,hm]⟩
   obtain⟨φ2,m2,l2,c2⟩:=tN hf0 hinj cs (ms.drop 1) (j+1) fR φ1 vs (fun n=>X (n+1)) m1.rel (by simpa using hl) (fun n c' v' hn hv=>by
    rw[m1.I,rL]
    exact hc (n+1) c' v' (by simpa using hn) (by simpa using hv)) (fun n k hn hk=>m1.free k (hF (n+1) k (by simpa using hn) hk) fun hx0=>by
    have:=hd 0 (n+1) k dh (by simpa using hn) hx0 hk
    omega) (fun n n' k hn hn' hk hk'=>by
    have:=hd (n+1) (n'+1) k (by simpa using hn) (by simpa using hn') hk hk'
    omega)
   rw[hmk];refine⟨φ2,m1.trans m2 (fun o ho=> ?_) (fun k hk=> ?_),by simp only[gn];rw[l2],fun n e v' hn hv=> ?_⟩
   ·rcases ho with ho|⟨n,n1,n2,n3⟩
    ·exact⟨j,de _,by simp,ho⟩
    ·exact⟨n,by omega,by simp only[gn];omega,n3⟩
   ·rcases hk with hk|⟨n,n1,n2⟩
    ·exact⟨0,by simp,hk⟩
    ·exact⟨n+1,by simpa using n1,n2⟩
   ·cases n with
    |zero=>
     simp only[gT,aY] at hn hv;subst hn hv;refine⟨m2.keep _ _ he1 fun o ho ⟨n,n1,n2,n3⟩=> ?_,fun o ho=>⟨j,de _,by simp,aks o ho⟩⟩;rw[aks o ho] at n3;have:=hinj _ _ n3;omega
    |succ n=>
     obtain⟨q1,q2⟩:=c2 n e v' (by simpa using hn) (by simpa using hv);refine⟨q1,fun o ho=> ?_⟩;obtain⟨n',n1,n2,n3⟩:=q2 o ho;exact⟨n',by omega,by simp only[gn];omega,n3⟩
theorem bD.aqJ (h:bD F A w0 φ st tm w) {b:Nat} {cs:List CE} (hw:DJ b=true) (hs:(φ.β b).spot=none) (hf:xw F w0 w φ st (φ.β b).block)
 (hc: ∀(j:Nat) (e:CE),cs[j]?=some e→ ∃v,w.cell? ((φ.β b).add j)=some v∧v.cells= #[v]∧e9 st.ob w φ e v) (hz: ∀j,j<cs.length→w.frozen? ((φ.β b).add j)=false):bD F A w0 φ (st.OH b cs) tm w:=by
 have look: ∀{c cs'},az c (rW b cs st.bx)=some cs'→(c=b∧cs'=cs)∨(c≠b∧az c st.bx=some cs'):=fun {c cs'} hl=>by
  rw[g6] at hl
  split at hl
  ·cases hl;exact .inl ⟨by assumption,rfl⟩
  ·exact .inr ⟨by assumption,hl⟩
 refine⟨h.tmp,fun c cs' hl j e he=> ?_,h.obj,?_,h.frm⟩
 ·rcases look hl with⟨rfl,rfl⟩|⟨_,hl⟩
  ·exact hc j e he
  ·exact h.box c cs' hl j e he
 ·exact {
   arg:=h.sep.arg,nz:=h.sep.nz,apart:=h.sep.apart,read:=h.sep.read,fresh:=h.sep.fresh,ro:=h.sep.ro,qQ:=h.sep.qQ
   box:=fun c cs' hl hwc=>by
    rcases look hl with⟨rfl,rfl⟩|⟨hne,Lq⟩
    ·refine⟨hf.I,hf.S,hf.new,fun c' abZ hl' hne=> ?_⟩
     rcases look hl' with⟨rfl,_⟩|⟨_,hl'⟩
     ·exact absurd rfl hne
     ·exact hf.B c' abZ hl'
    ·obtain⟨a1,a2,a3,a4⟩:=h.sep.box c cs' Lq hwc
     refine⟨a1,a2,a3,fun c' abZ hl' aru=> ?_⟩;rcases look hl' with⟨rfl,_⟩|⟨_,hl'⟩
     ·exact fun e=>hf.B c cs' Lq e.symm
     ·exact a4 c' abZ hl' aru
   spot:=fun c cs' hl=>by
    rcases look hl with⟨rfl,rfl⟩|⟨_,hl⟩
    ·exact⟨fun _=>hs,hf.lt,fun e=>by rw[hw] at e;cases e⟩
    ·exact h.sep.spot c cs' hl
   soft:=fun c cs' j hl hwc hj=>by
    rcases look hl with⟨rfl,rfl⟩|⟨_,hl⟩
    ·exact hz j hj
    ·exact h.sep.soft c cs' j hl hwc hj}
theorem xw.OH {b k:Nat} {cs:List CE} (h:xw F w0 w φ st k) (hk:(φ.β b).block≠k):xw F w0 w φ (st.OH b cs) k:=by
 refine⟨h.lt,h.new,h.I,h.S,fun c cs' hl=> ?_⟩;have hl:az c (rW b cs st.bx)=some cs':=hl;rw[g6] at hl
 split at hl
 ·rename_i e;rw[e];exact hk
 ·exact h.B c cs' hl
end Go.T
namespace Go.T
variable {F : Nat → Prop} {A : Arg} {w0 w w' : World} {φ φ' φ1 : Fp} {st st' sta fR sK : TS} {tm Lo : Array Value} {C : pU}
variable {R : Type} {cf : Cf} {lp : Lp} {Q : R → Prop}
theorem Rq {β:Nat→Addr} {XB:Nat→Nat→Nat→Prop} {E:Nat→Prop}: ∀(B:List (Nat×List Mode×List TC)) (st:TS) (φ:Fp),φ.β=β→bD F A w0 φ st tm w→(B.Pairwise fun x y=>x.1≠y.1)→
 (∀b ms ts,(b,ms,ts)∈B→DJ b=true∧(β b).spot=none∧xw F w0 w φ st (β b).block∧(∀b' ms' ts',(b',ms',ts')∈B→b'≠b→(β b').block≠(β b).block)∧ ¬E (β b).block∧
   (∀b' ms' ts' j,(b',ms',ts')∈B→j<ts'.length→ ¬XB b' j (β b).block)∧
   ∃us:List Value,us.length=ts.length∧(∀(j:Nat) (u:Value),us[j]?=some u→w.cell? ((β b).add j)=some u∧u.cells= #[u]∧w.frozen? ((β b).add j)=false)∧
    ∀(j:Nat) (c:TC),ts[j]?=some c→ ∃u,us[j]?=some u∧aB w φ.I (mAt ms j) (XB b j) c u∧ ∀k,XB b j k→xw F w0 w φ st k∧ ¬E k)→
 (∀b ms ts b' ms' ts' j j' k,(b,ms,ts)∈B→(b',ms',ts')∈B→j<ts.length→j'<ts'.length→XB b j k→XB b' j' k→b=b'∧j=j')→(∀k,E k→xw F w0 w φ st k)→
 ∃φ',bD F A w0 φ' (MS B st) tm w∧φ'.β=β∧φ'.I=φ.I∧ ∀k,E k→xw F w0 w φ' (MS B st) k
 |[],st,φ,hβ,h,_,_,_,hE=>⟨φ,h,hβ,rfl,hE⟩
 |(b,ms,ts)::r,st,φ,hβ,h,hp,hB,hX,hE=>by
  obtain⟨hw,hs,hf,Xm,hnE,hnX,us,u1,u2,u3⟩:=hB b ms ts (.head _);have hpr:=List.pairwise_cons.1 hp
  obtain⟨φ1,m,l1,c1⟩:=tN (f:=bid b) (fun j=>by unfold bid;omega) (fun j j' e=>by unfold bid at e;omega) ts (bms ms ts) 0 st φ us (XB b) h u1 (fun n c v hn hv=>by
   rw[acJ (List.getElem?_eq_some_iff.1 hn).1];obtain⟨u,a1,a2,_⟩:=u3 n c hn;rw[hv] at a1;cases a1
   exact a2) (fun n k hn hk=>by
   obtain⟨u,_,_,a3⟩:=u3 n _ (cw hn)
   exact(a3 k hk).1) (fun n n' k hn hn' hk hk'=>(hX b ms ts b ms ts n n' k (.head _) (.head _) hn hn' hk hk').2)
  have hβ1:φ1.β=β:=m.β.trans hβ
  have hput:=m.rel.aqJ (b:=b) (cs:=(cR (bid b) (bms ms ts) 0 ts st).1) hw (by rw[hβ1];exact hs) (by rw[hβ1];exact m.free _ hf fun⟨n,n1,n2⟩=>hnX b ms ts n (.head _) n1 n2) (fun j e he=>by
   have hj:j<us.length:=by rw[u1,←l1];exact(List.getElem?_eq_some_iff.1 he).1
   obtain⟨q1,q2,q3⟩:=u2 j _ (cw hj)
   exact⟨_,by rw[hβ1];exact q1,q2,(c1 j e _ he (cw hj)).1⟩) (fun j hj=>by
   have hj:j<us.length:=by rw[u1,←l1];exact hj
   rw[hβ1];exact(u2 j _ (cw hj)).2.2)
  have stay: ∀k,xw F w0 w φ st k→(∀n,n<ts.length→ ¬XB b n k)→(β b).block≠k→xw F w0 w φ1 ((cR (bid b) (bms ms ts) 0 ts st).2.OH b (cR (bid b) (bms ms ts) 0 ts st).1) k:=fun k hk hn hne=>
   (m.free k hk fun⟨n,n1,n2⟩=>hn n n1 n2).OH (by rw[hβ1];exact hne)
  obtain⟨φ2,r1,r2,r3,r4⟩:=Rq (E:=E) (XB:=XB) r _ φ1 hβ1 hput hpr.2 (fun b' ms' ts' hm=>by
   obtain⟨a1,a2,a3,a4,a5,a6,us',v1,v2,v3⟩:=hB b' ms' ts' (.tail _ hm);have hne:b≠b':=hpr.1 _ hm;refine⟨a1,a2,stay _ a3 (fun n hn=>a6 b ms ts n (.head _) hn) (a4 b ms ts (.head _) hne),fun b2 ms2 ts2 hm2=>a4 b2 ms2 ts2 (.tail _ hm2),a5,fun b2 ms2 ts2 j hm2=>a6 b2 ms2 ts2 j (.tail _ hm2),us',v1,v2,fun j c hj=> ?_⟩;obtain⟨u,w1,w2,w3⟩:=v3 j c hj;have hjl:=(List.getElem?_eq_some_iff.1 hj).1;refine⟨u,w1,by rw[m.I];exact w2,fun k hk=>⟨stay k (w3 k hk).1 (fun n hn hx=> ?_) (fun e=> ?_),(w3 k hk).2⟩⟩
   ·exact hne (hX b ms ts b' ms' ts' n j k (.head _) (.tail _ hm) hn hjl hx hk).1
   ·exact hnX b' ms' ts' j (.tail _ hm) hjl (by rw[e];exact hk))
   (fun b1 ms1 ts1 b2 ms2 ts2 j j' k h1 h2=>hX b1 ms1 ts1 b2 ms2 ts2 j j' k (.tail _ h1) (.tail _ h2)) (fun k hk=>stay k (hE k hk) (fun n hn hx=>by
     obtain⟨u,_,_,a3⟩:=u3 n _ (cw hn)
     exact(a3 k hx).2 hk) (fun e=>hnE (by rw[e];exact hk)))
  exact⟨φ2,r1,r2,r3.trans m.I,r4⟩
theorem xM {ms:List Mode}: ∀{cs:List TC} {vs:List Value} {n:Nat} {c:TC} {v:Value},cs[n]?=some c→vs[n]?=some v→(fo ms cs vs)[n]?=some (ms.getD n .snap,c,v):=by
 intro cs
 induction cs generalizing ms with
 |nil=>intro vs n c v h;simp at h
 |cons c0 cs ih=>
  intro vs n c v h1 h2
  cases vs with
  |nil=>simp at h2
  |cons v0 vs=>
   cases n with
   |zero=>simp only[gT,aY] at h1 h2;subst h1 h2;simp only[fo,gT,xI]
   |succ n=>
    simp only[fo,yg] at h1 h2 ⊢;rw[ih (ms:=ms.drop 1) h1 h2,rL]
theorem Z8 {ob:List (Nat×OB)} {a:Nat} {cs:List TC} {u:Value} (hc:acI a cs u) {cs':List CE} (hl:cs'.length=cs.length) (hce: ∀(n:Nat) (e:CE) (v:Value),cs'[n]?=some e→u.cells.toList[n]?=some v→e9 ob w φ e v) (h1: ∀v∈u.cells.toList,v.cells= #[v]):qa ob w φ (.mk (Nat.beq a 1) cs') u:=by
 obtain⟨ha,hsz,hag,hno⟩:=hc
 match a,ha with
 |0,_=>
  have hu:=hno dh;rw[hu] at hsz
  have Q9:cs'.length=1:=by rw[hl];simpa using hsz.symm
  match cs',Q9 with
  |[e],_=>exact⟨e,rfl,hu,hce 0 e u rfl (by rw[hu];rfl)⟩
 |1,_=>
  obtain⟨xs,rfl⟩:=hag rfl;have hsz:xs.size=cs.length:=hsz;refine⟨xs,rfl,by rw[hl];exact hsz,fun j e he=> ?_⟩
  have hj:j<xs.size:=by rw[hsz,←hl];exact(List.getElem?_eq_some_iff.1 he).1
  have hx:(Value.agg xs).cells.toList[j]?=some xs[j]:=by show xs.toList[j]?=_;simp[hj]
  exact⟨xs[j],zf hj,h1 _ (iV hx),hce j e _ he hx⟩
theorem UH {d k j j':Nat} (h:xu d k j=xu d k j'):j=j':=by unfold xu at h;omega
theorem aiV {d k k':Nat} (h:zA d k=zA d k'):k=k':=by unfold zA at h;omega
theorem acR (d k:Nat):DJ (zA d k)=true:=by
 unfold DJ zA;rw[show Nat.ble 200000 (400000+20*d+k)=true from UT an];exact UT an
structure K1 (F:Nat→Prop) (A:Arg) (w0 w:World) (φ φ':Fp) (st st':TS) (tm:Array Value) (nums nb Xs:Nat→Prop):Prop where
 rel:bD F A w0 φ' st' tm w
 β: ∀b,¬nb b→φ'.β b=φ.β b
 I:φ'.I=φ.I
 keep: ∀e v,e9 st.ob w φ e v→(∀o∈iX e,¬nums o)→e9 st'.ob w φ' e v
 free: ∀k,xw F w0 w φ st k→ ¬Xs k→xw F w0 w φ' st' k
theorem Made.toB {nums nb Xs:Nat→Prop} (h:Made F A w0 w φ φ' st st' tm nums Xs):K1 F A w0 w φ φ' st st' tm nums nb Xs:=⟨h.rel,fun b _=>by rw[h.β],h.I,h.keep,h.free⟩
theorem K1.trans {φ2:Fp} {n1 n2 b1 b2 X1 X2 nums nb Xs:Nat→Prop} (h:K1 F A w0 w φ φ1 st fR tm n1 b1 X1) (k:K1 F A w0 w φ1 φ2 fR sK tm n2 b2 X2) (hn: ∀o,n1 o∨n2 o→nums o) (hb: ∀o,b1 o∨b2 o→nb o) (hX: ∀x,X1 x∨X2 x→Xs x):K1 F A w0 w φ φ2 st sK tm nums nb Xs:=
 ⟨k.rel,fun b hbn=>(k.β b fun hc=>hbn (hb b (.inr hc))).trans (h.β b fun hc=>hbn (hb b (.inl hc))),k.I.trans h.I,fun e v he hd=>k.keep e v (h.keep e v he fun o ho hc=>hd o ho (hn o (.inl hc))) fun o ho hc=>hd o ho (hn o (.inr hc)),
   fun x hf hx=>k.free x (h.free x hf fun hc=>hx (hX x (.inl hc))) fun hc=>hx (hX x (.inr hc))⟩
theorem Z9 (h:bD F A w0 φ st tm w) {b:Nat} {cs:List CE} {ad:Addr} (hw:DJ b=true) (hs:ad.spot=none) (hf:xw F w0 w φ st ad.block)
 (hc: ∀(j:Nat) (e:CE),cs[j]?=some e→ ∃v,w.cell? (ad.add j)=some v∧v.cells= #[v]∧e9 st.ob w φ e v) (hz: ∀j,j<cs.length→w.frozen? (ad.add j)=false):
 K1 F A w0 w φ (φ.box b ad) st (OI b cs st) tm (fun _=>False) (fun x=>x=b) (fun x=>x=ad.block):=by
 refine⟨h.OI hw hs hf.lt hf.S hf.I hf.new (fun b' cs' hb' _=>hf.B b' cs' hb') hc hz,fun b' hb'=> ?_,rfl,fun e v he _=>(by cases e<;>exact he),fun k hk hx=>⟨hk.lt,hk.new,hk.I,hk.S,fun c cs' hl=> ?_⟩⟩
 ·show(if b'=b then ad else φ.β b')=_
  rw[aF hb']
 ·have hl:az c (rW b cs (uP b st.bx))=some cs':=hl
  show((if c=b then ad else φ.β c)).block≠k;rw[g6,kX] at hl
  by_cases hcb:c=b
  ·rw[aJ hcb];exact fun e=>hx e.symm
  ·rw[aF hcb,aF hcb] at hl
   rw[aF hcb];exact hk.B c cs' hl
theorem qD.shift {X:Nat→Nat→Prop} {a:Nat}: ∀{vs:List (Nat×List TC)} {n:Nat} {ms:List (List Mode)} {us:List Value} {eP:List It},qD w X (a+n) ms vs us eP→qD w (fun i=>X (a+i)) n ms vs us eP
 |[],n,ms,[],eP,h=>by cases ms<;>exact h
 |[],n,ms,_::_,eP,h=>by cases ms<;>exact h.elim
 |(_,_)::_,n,ms,[],eP,h=>by cases ms<;>exact h.elim
 |(a',cs)::r,n,ms,u::us,eP,h=>by
  obtain⟨a0,b,h1,h2,h3⟩:=h;rw[ny] at h3;exact⟨a0,b,h1,h2,h3.shift⟩
theorem Rr {d:Nat}: ∀(vs:List (Nat×List TC)) (k:Nat) (ms:List (List Mode)) (st:TS) (φ:Fp) (us:List Value) (eP:List It) (X:Nat→Nat→Prop),bD F A w0 φ st tm w→qD w X 0 ms vs us eP→Kn vs=true→
 (∀(n:Nat) (it:It),eP[n]?=some it→aB w φ.I it.1 (X n) it.2.1 it.2.2)→(∀n x,n<eP.length→X n x→xw F w0 w φ st x)→(∀n n' x,n<eP.length→n'<eP.length→X n x→X n' x→n=n')→
 ∃φ',K1 F A w0 w φ φ' st (jN d k ms vs st).2 tm (fun o=> ∃k' j,k≤k'∧j<20∧o=xu d k' j) (fun b=> ∃k',k≤k'∧b=zA d k') (fun x=> ∃n,n<eP.length∧X n x)∧(jN d k ms vs st).1.length=vs.length∧us.length=vs.length∧
  ∀(n:Nat) (c:vH) (u:Value),(jN d k ms vs st).1[n]?=some c→us[n]?=some u→qa (jN d k ms vs st).2.ob w φ' c u
 |[],k,ms,st,φ,us,eP,X,h,hc,hs,_,_,_=>by
  cases us with
  |nil=>exact⟨φ,(Made.refl h).toB,rfl,rfl,fun n c u hn=>by simp[jN] at hn⟩
  |cons u us=>cases ms<;>exact hc.elim
 |(a,cs)::r,k,ms,st,φ,us,eP,X,h,hc,hs,hi,hF,hd=>by
  cases us with
  |nil=>cases ms<;>exact hc.elim
  |cons u us=>
   obtain⟨a0,b,rfl,Xq,agy⟩:=hc;have agy:=qD.shift (n:=0) (by rw[nB] at agy;exact agy)
   have hsm:cs.length≤20∧Kn r=true:=by
    simp only[Kn] at hs
    split at hs
    ·exact⟨wI eg,hs⟩
    ·cases hs
   have tail: ∀{φ1:Fp} {fR:TS} {nums nb:Nat→Prop},K1 F A w0 w φ φ1 st fR tm nums nb (fun x=> ∃n,n<a0.length∧X n x)→(∀o,nums o→ ∃j,j<20∧o=xu d k j)→(∀o,nb o→o=zA d k)→
    ∃φ',K1 F A w0 w φ φ' st (jN d (k+1) (ms.drop 1) r fR).2 tm (fun o=> ∃k' j,k≤k'∧j<20∧o=xu d k' j) (fun b=> ∃k',k≤k'∧b=zA d k') (fun x=> ∃n,n<(a0++b).length∧X n x)∧
     K1 F A w0 w φ1 φ' fR (jN d (k+1) (ms.drop 1) r fR).2 tm (fun o=> ∃k' j,k+1≤k'∧j<20∧o=xu d k' j) (fun b=> ∃k',k+1≤k'∧b=zA d k') (fun x=> ∃n,n<b.length∧X (a0.length+n) x)∧
     (jN d (k+1) (ms.drop 1) r fR).1.length=r.length∧us.length=r.length∧
     ∀(n:Nat) (c:vH) (u:Value),(jN d (k+1) (ms.drop 1) r fR).1[n]?=some c→us[n]?=some u→qa (jN d (k+1) (ms.drop 1) r fR).2.ob w φ' c u:=fun {φ1 fR nums nb} m1 arv hnb=>by
    obtain⟨φ2,m2,l2,l3,c2⟩:=Rr (d:=d) r (k+1) (ms.drop 1) fR φ1 us b (fun n=>X (a0.length+n)) m1.rel agy hsm.2 (fun n it hn=>by
     rw[m1.I]
     exact hi (a0.length+n) it (by rw[pP an,Nat.add_sub_cancel_left];exact hn)) (fun n x hn hx=>m1.free x (hF (a0.length+n) x (by rw[cM];omega) hx) fun⟨n',n1,n2⟩=>by
     have:=hd n' (a0.length+n) x (by rw[cM];omega) (by rw[cM];omega) n2 hx
     omega) (fun n n' x hn hn' hx hx'=>by
     have:=hd (a0.length+n) (a0.length+n') x (by rw[cM];omega) (by rw[cM];omega) hx hx'
     omega)
    refine⟨φ2,m1.trans m2 (fun o ho=> ?_) (fun o ho=> ?_) (fun x hx=> ?_),m2,l2,l3,c2⟩
    ·rcases ho with ho|⟨k',j,n1,n2,n3⟩
     ·obtain⟨j,j1,j2⟩:=arv o ho
      exact⟨k,j,de _,j1,j2⟩
     ·exact⟨k',j,by omega,n2,n3⟩
    ·rcases ho with ho|⟨k',n1,n3⟩
     ·exact⟨k,de _,hnb o ho⟩
     ·exact⟨k',by omega,n3⟩
    ·rcases hx with⟨n,n1,n2⟩|⟨n,n1,n2⟩
     ·exact⟨n,by rw[cM];omega,n2⟩
     ·exact⟨a0.length+n,by rw[cM];omega,n2⟩
   rcases Xq with⟨hn2,Xq,rfl⟩|⟨rfl,ad,us0,rfl,zu,Uv,Xh,hX0,rfl⟩
   ·have Uv:u.cells.toList.length=cs.length:=by rw[Ab];exact Xq.2.1
    have hcl:(fo (ms.headD []) cs u.cells.toList).length=cs.length:=qb Uv.symm
    obtain⟨φ1,m1,l1,c1⟩:=tN (f:=xu d k) (fun j=>by unfold xu;omega) (fun j j' e=>UH e) cs (ms.headD []) 0 st φ u.cells.toList X h Uv (fun n c v hn hv=>by
     have:=hi n _ (by rw[nw (by rw[hcl];exact(List.getElem?_eq_some_iff.1 hn).1)];exact xM hn hv)
     exact this) (fun n x hn hx=>hF n x (by rw[cM,hcl];omega) hx) (fun n n' x hn hn' hx hx'=>hd n n' x (by rw[cM,hcl];omega) (by rw[cM,hcl];omega) hx hx')
    obtain⟨φ2,m,m2,l2,l3,c2⟩:=tail (nums:=fun o=> ∃n,0≤n∧n<0+cs.length∧o=xu d k n) (nb:=fun _=>False) (by rw[hcl];exact m1.toB) (fun o ⟨n,_,n2,n3⟩=>⟨n,by omega,n3⟩) (fun o ho=>ho.elim);have hb2:Nat.beq a 2=false:=beq_false hn2
    have hmk:jN d k ms ((a,cs)::r) st=(.mk (Nat.beq a 1) (cR (xu d k) (ms.headD []) 0 cs st).1::(jN d (k+1) (ms.drop 1) r (cR (xu d k) (ms.headD []) 0 cs st).2).1,(jN d (k+1) (ms.drop 1) r (cR (xu d k) (ms.headD []) 0 cs st).2).2):=by
     simp only[jN,hb2]
    rw[hmk];refine⟨φ2,m,by simp only[gn];rw[l2],by simp only[gn];rw[l3],fun n c v hn hv=> ?_⟩
    cases n with
    |zero=>
     simp only[gT,aY] at hn hv;subst hn hv;refine Z8 Xq l1 (fun n e v he hv=> ?_) fun v hv=> ?_
     ·obtain⟨q1,q2⟩:=c1 n e v he hv
      refine m2.keep e v q1 fun o ho ⟨k',j,n1,n2,n3⟩=> ?_;obtain⟨n',_,n4,n5⟩:=q2 o ho;rw[n5] at n3;unfold xu at n3;omega
     ·obtain⟨n,hn,rfl⟩:=List.mem_iff_getElem.1 hv
      have hn':n<cs.length:=by rw[←Uv];exact hn
      have:=hi n _ (by rw[nw (by rw[hcl];exact hn')];exact xM (cw hn') (cw hn));exact this.cells
    |succ n=>exact c2 n c v (by simpa using hn) (by simpa using hv)
   ·have hcl:(fo (ms.headD []) cs us0).length=cs.length:=qb Uv.symm
    have hit: ∀{n:Nat} {it:It},(fo (ms.headD []) cs us0)[n]?=some it→((aaZ::fo (ms.headD []) cs us0)++b)[1+n]?=some it:=fun {n it} hn=>by
     rw[nw (by rw[gn];have:=(List.getElem?_eq_some_iff.1 hn).1;omega),show 1+n=n+1 by omega,yg];exact hn
    have hlt: ∀{n:Nat},n<cs.length→1+n<((aaZ::fo (ms.headD []) cs us0)++b).length:=fun {n} hn=>by rw[cM,gn,hcl];omega
    obtain⟨φ1,m1,l1,c1⟩:=tN (f:=xu d k) (fun j=>by unfold xu;omega) (fun j j' e=>UH e) cs (ms.headD []) 0 st φ us0 (fun n=>X (1+n)) h Uv (fun n c v hn hv=>hi (1+n) _ (hit (xM hn hv)))
     (fun n x hn hx=>hF (1+n) x (hlt hn) hx) (fun n n' x hn hn' hx hx'=>by have:=hd (1+n) (1+n') x (hlt hn) (hlt hn') hx hx';omega)
    have hfree:xw F w0 w φ1 (cR (xu d k) (ms.headD []) 0 cs st).2 ad.block:=m1.free _ (hF 0 _ dh hX0) fun⟨n,n1,n2⟩=>by
     have:=hd 0 (1+n) _ dh (hlt n1) hX0 n2;omega
    have mb:=Z9 m1.rel (b:=zA d k) (cs:=(cR (xu d k) (ms.headD []) 0 cs st).1) (acR d k) zu hfree (fun j e he=>by
     have hj:j<us0.length:=by rw[Uv,←l1];exact(List.getElem?_eq_some_iff.1 he).1
     obtain⟨q1,q2,q3⟩:=Xh j _ (cw hj)
     exact⟨_,q1,q2,(c1 j e _ he (cw hj)).1⟩) (fun j hj=>by
     have hj:j<us0.length:=by rw[Uv,←l1];exact hj
     exact(Xh j _ (cw hj)).2.2)
    have m12:=(m1.toB (nb:=fun _=>False)).trans mb (nums:=fun o=> ∃n,0≤n∧n<0+cs.length∧o=xu d k n) (nb:=fun x=>x=zA d k) (Xs:=fun x=> ∃n,n<(aaZ::fo (ms.headD []) cs us0).length∧X n x) (fun o ho=>ho.elim id fun hx=>hx.elim) (fun o ho=>ho.elim (fun hx=>hx.elim) id) (fun x hx=>by
     rcases hx with⟨n,n1,n2⟩|hx
     ·exact⟨1+n,by rw[gn,hcl];omega,n2⟩
     ·exact⟨0,by simp,by rw[hx];exact hX0⟩)
    obtain⟨φ2,m,m2,l2,l3,c2⟩:=tail m12 (fun o ⟨n,_,n2,n3⟩=>⟨n,by omega,n3⟩) (fun o ho=>ho);have hmk:jN d k ms ((2,cs)::r) st=(.ptr (zA d k)::(jN d (k+1) (ms.drop 1) r (OI (zA d k) (cR (xu d k) (ms.headD []) 0 cs st).1 (cR (xu d k) (ms.headD []) 0 cs st).2)).1,(jN d (k+1) (ms.drop 1) r (OI (zA d k) (cR (xu d k) (ms.headD []) 0 cs st).1 (cR (xu d k) (ms.headD []) 0 cs st).2)).2):=rfl;rw[hmk];refine⟨φ2,m,by simp only[gn];rw[l2],by simp only[gn];rw[l3],fun n c v hn hv=> ?_⟩
    cases n with
    |zero=>
     simp only[gT,aY] at hn hv;subst hn hv;show Value.pointer (some ad)=Value.pointer (some (φ2.β (zA d k)));rw[m2.β _ fun⟨k',n1,n2⟩=>by have:=aiV n2;omega];show _=Value.pointer (some (if zA d k=zA d k then ad else _));rw[aJ rfl]
    |succ n=>exact c2 n c v (by simpa using hn) (by simpa using hv)
theorem aiW {d:Nat} {ms:List (List Mode)} {r:TV} {v:Value} {eP:List It} {X:Nat→Nat→Prop} (h:bD F A w0 φ st tm w) (hr:ZV w X ms r v eP) (hi: ∀(n:Nat) (it:It),eP[n]?=some it→aB w φ.I it.1 (X n) it.2.1 it.2.2) (hF: ∀n x,n<eP.length→X n x→xw F w0 w φ st x)
 (hd: ∀n n' x,n<eP.length→n'<eP.length→X n x→X n' x→n=n') (hdt:d<tm.size) {st':TS} (ht:aia d ms r st=some st'):Rel F A w0 st' (tm.setIfInBounds d v) w:=by
 have one: ∀(a:Nat) (cs:List TC),acI a cs v→eP=fo (ms.headD []) cs v.cells.toList→Rel F A w0 ((cR (xu d 0) (ms.headD []) 0 cs st).2.set d (.v false [.mk (Nat.beq a 1) (cR (xu d 0) (ms.headD []) 0 cs st).1])) (tm.setIfInBounds d v) w:=fun a cs Xq he=>by
  subst he
  have Uv:v.cells.toList.length=cs.length:=by rw[Ab];exact Xq.2.1
  have hcl:(fo (ms.headD []) cs v.cells.toList).length=cs.length:=qb Uv.symm
  obtain⟨φ1,m1,l1,c1⟩:=tN (f:=xu d 0) (fun j=>by unfold xu;omega) (fun j j' e=>UH e) cs (ms.headD []) 0 st φ v.cells.toList X h Uv (fun n c u hn hv=>hi n _ (xM hn hv)) (fun n x hn hx=>hF n x (by rw[hcl];exact hn) hx)
   (fun n n' x hn hn' hx hx'=>hd n n' x (by rw[hcl];exact hn) (by rw[hcl];exact hn') hx hx')
  refine⟨φ1,m1.rel.Xw hdt ⟨_,rfl,Z8 Xq l1 (fun n e u he hv=>(c1 n e u he hv).1) fun u hu=> ?_⟩⟩;obtain⟨n,hn,rfl⟩:=List.mem_iff_getElem.1 hu
  have hn':n<cs.length:=by rw[←Uv];exact hn
  exact(hi n _ (xM (cw hn') (cw hn))).cells
 cases r with
 |c c=>obtain⟨h1,h2⟩:=hr;cases ht;exact one 0 [c] h1 h2
 |ag cs=>obtain⟨h1,h2⟩:=hr;cases ht;exact one 1 cs h1 h2
 |bx cs=>
  have hc:qD w X 0 ms [(2,cs)] [v] eP:=⟨eP,[],by simp,.inr ⟨rfl,hr⟩,by cases ms.drop 1<;>rfl⟩;have hsm: ∃b,Kn [(2,cs)]=b:=⟨_,rfl⟩;obtain⟨ad,us0,rfl,zu,Uv,Xh,hX0,rfl⟩:=hr
  cases ht
  have hcl:(fo (ms.headD []) cs us0).length=cs.length:=qb Uv.symm
  have hit: ∀{n:Nat} {it:It},(fo (ms.headD []) cs us0)[n]?=some it→(aaZ::fo (ms.headD []) cs us0)[1+n]?=some it:=fun {n it} hn=>by
   rw[show 1+n=n+1 by omega,yg];exact hn
  have hlt: ∀{n:Nat},n<cs.length→1+n<(aaZ::fo (ms.headD []) cs us0).length:=fun {n} hn=>by rw[gn,hcl];omega
  obtain⟨φ1,m1,l1,c1⟩:=tN (f:=xu d 0) (fun j=>by unfold xu;omega) (fun j j' e=>UH e) cs (ms.headD []) 0 st φ us0 (fun n=>X (1+n)) h Uv (fun n c v hn hv=>hi (1+n) _ (hit (xM hn hv)))
   (fun n x hn hx=>hF (1+n) x (hlt hn) hx) (fun n n' x hn hn' hx hx'=>by have:=hd (1+n) (1+n') x (hlt hn) (hlt hn') hx hx';omega)
  have hfree:xw F w0 w φ1 (cR (xu d 0) (ms.headD []) 0 cs st).2 ad.block:=m1.free _ (hF 0 _ dh hX0) fun⟨n,n1,n2⟩=>by
   have:=hd 0 (1+n) _ dh (hlt n1) hX0 n2;omega
  have mb:=Z9 m1.rel (b:=zA d 0) (cs:=(cR (xu d 0) (ms.headD []) 0 cs st).1) (acR d 0) zu hfree (fun j e he=>by
   have hj:j<us0.length:=by rw[Uv,←l1];exact(List.getElem?_eq_some_iff.1 he).1
   obtain⟨q1,q2,q3⟩:=Xh j _ (cw hj)
   exact⟨_,q1,q2,(c1 j e _ he (cw hj)).1⟩) (fun j hj=>by
   have hj:j<us0.length:=by rw[Uv,←l1];exact hj
   exact(Xh j _ (cw hj)).2.2)
  refine⟨_,mb.rel.Xw hdt ?_⟩;show Value.pointer (some ad)=Value.pointer (some ((if zA d 0=zA d 0 then ad else _).add 0));rw[aJ rfl,Addr.add_zero']
 |tu vs=>
  obtain⟨us,rfl,hc⟩:=hr;simp only[aia] at ht
  split at ht
  ·rename_i hs
   cases ht
   obtain⟨φ1,m1,l1,l2,c1⟩:=Rr (d:=d) vs 0 ms st φ us.toList eP X h hc hs hi hF hd;refine⟨φ1,m1.rel.Xw hdt ⟨us,rfl,by rw[l1,←l2];simp,fun n c hn=> ?_⟩⟩
   have hnl:n<us.toList.length:=by rw[l2,←l1];exact(List.getElem?_eq_some_iff.1 hn).1
   have hnu:n<us.size:=by simpa using hnl
   exact⟨us[n],zf hnu,c1 n c _ hn (by simp[hnu])⟩
  ·cases ht
 |_=>cases ht
end Go.T
namespace Go.T
variable {F : Nat → Prop} {A : Arg} {w0 w w' : World} {φ φ' φ1 : Fp} {st st' sta fR sK : TS} {tm Lo : Array Value} {C : pU}
variable {R : Type} {cf : Cf} {lp : Lp} {Q : R → Prop}
def Vr (n:Nat) (o:Oper):Bool:=match o.dst with|some d=>Nat.blt d n|none=>true
def RP (n:Nat):List Oper→Bool
 |[]=>true
 |o::r=>match Vr n o with|true=>RP n r|false=>false
def yq (n:Nat):Code→Bool
 | .region _ ops _=>RP n ops.toList
 | .seq a b=>match yq n a with|true=>yq n b|false=>false
 | .cond _ a b=>match yq n a with|true=>yq n b|false=>false
 | .block _ b=>yq n b
 | .loop b=>yq n b
 |_=>true
structure COk (C:pU):Prop where
 ty:iY C
 name: ∀(f:Nat) (fn:Func),C.P.funcs[f]?=some fn→(fn.name== "runtime.NumGoroutine")=false
 dst: ∀(f:Nat) (fn:Func) (c:Code),C.P.funcs[f]?=some fn→fn.body=some c→yq fn.ntmps c=true
structure OZ (C:pU) (f:FuncId) (vs:List TV) (r:TV) (fs:List TV):Prop where
 body: ∃fn c,C.P.funcs[f]?=some fn∧fn.body=some c
 calls: ∀(w:World) (xs:List Value) (Rg BB:Nat→Prop) (X:Nat→Nat→Nat→Prop) (Y:Nat→Nat→Prop),aaY w (C.sig f).ps vs xs Rg BB X Y→(C.sig f).ps.length=xs.length→
  Calls C.P f xs.toArray w fun e w'=> ∃v,e= .returned v∧Rj (yp X Y) (KY true Rg BB) w w' (C.sig f) xs r fs v
def Vs (C:pU) (cf:Cf):Prop:= ∀f vs r fs,cf f vs r fs→OZ C f vs r fs
theorem aa8 (hC:COk C) {f:FuncId} {args:Array Value} (h: ∃fn c,C.P.funcs[f]?=some fn∧fn.body=some c):(callFunc f args).run C.P w= .ok (.enter f args) w:=by
 obtain⟨fn,c,h1,h2⟩:=h;unfold callFunc;simp only[Sem.run_bind];have:(program:Sem Program).run C.P w= .ok C.P w:=rfl;rw[this];simp only[Result.andThen,h1,hC.name f fn h1,h2]
 rfl
theorem acS {ps:List cz} {es:List TE} {own qt:List Nat} (h:bD F A w0 φ st tm w) (hgi:E7 st ps es=some (own,qt)) {xs:List Value} (Q8: ∀(i:Nat) (e:TE),es[i]?=some e→ ∃x,xs[i]?=some x∧dO st.ob w φ e x) {k:Nat} (hk:yp (XOf w φ st ps es) (YOf φ ps es) k):
 Wr st φ (vK st ps es) k:=by
 have g:=DZ hgi
 have mem: ∀{ps:List cz} {es:List TE} {i:Nat} {p:cz} {e:TE} {x:Nat},ps[i]?=some p→es[i]?=some e→p≠ .borrow→x∈IV st e→x∈vK st ps es:=by
  intro ps
  induction ps with
  |nil=>intro es i p e x h;simp at h
  |cons q ps ih=>
   intro es i p e x h1 h2 h3 h4
   cases es with
   |nil=>simp at h2
   |cons e0 es=>
    cases i with
    |zero=>
     simp only[gT,aY] at h1 h2;subst h1 h2
     cases q with
     |borrow=>exact absurd rfl h3
     |inout ms=>exact mo _ h4
     |consume=>exact mo _ h4
    |succ i=>
     have:=ih (by simpa using h1) (by simpa using h2) h3 h4
     cases q with
     |borrow=>exact this
     |inout ms=>exact r9 _ this
     |consume=>exact r9 _ this
 rcases hk with⟨i,j,hx⟩|⟨i,hy⟩
 ·obtain⟨p,e,e',o,l,h1,h2,h3,h4,h5,h6,h7,h8,_⟩:=Ng h g Q8 hx
  refine .inr ⟨o,mem h1 h2 h3 ?_,h6,h7⟩
  have aks:o∈iX e':=by
   cases e' with
   |ref o1 cut=>cases h5;exact .head _
   |snap ds loc z rows=>cases loc with
    |none=>cases h5
    |some q=>
     obtain⟨o1,i1,f1⟩:=q
     cases h5
     obtain⟨x,_,ht⟩:=Q8 i e h2;obtain⟨v,hv⟩:=Fi h ht h4;exact(hv.2.2 o i1 f1 rfl).1
   |_=>cases h5
  have ok:=OY h8;rcases ok.form with⟨b,rfl⟩|⟨_,ag,cs,rfl,_⟩
  ·obtain⟨_,_,_,_,Ra,_⟩:=ok.bx b 0 rfl
   simp only[IV,aaG,Ra];exact .tail _ (List.mem_map.2 ⟨o,List.mem_flatMap.2 ⟨e',iV h4,aks⟩,rfl⟩)
  ·simp only[IV,kW,qv]
   exact List.mem_map.2 ⟨o,List.mem_flatMap.2 ⟨e',iV h4,aks⟩,rfl⟩
 ·obtain⟨p,b,h1,h2,h3,rfl⟩:=hy
  obtain⟨l,ok,_⟩:=g.ow i p _ h1 h2 h3;obtain⟨_,_,KQ,_,Ra,_⟩:=ok.bx b 0 rfl;refine .inl ⟨b,_,mem h1 h2 h3 ?_,Ra,KQ,rfl⟩;simp only[IV,aaG,Ra];exact .head _
theorem BL: ∀{cs:List TC} {ms:List Mode} {j:Nat} {c:TC},tL ms cs=true→cs[j]?=some c→(∃v,c= .sc v)∨ms.getD j .snap= .deep
 |[],_,_,_,_,h=>by simp at h
 | .sc v::r,ms,0,c,ht,h=>by simp only[gT,aY] at h;exact .inl ⟨v,h.symm⟩
 | .sc v::r,ms,j+1,c,ht,h=>by
   have:=BL (ms:=ms.drop 1) ht (by simpa using h)
   rwa [rL] at this
 | .sub z rows::r,ms,j,c,ht,h=>by
   simp only[tL] at ht
   split at ht
   ·rename_i hm
    cases j with
    |zero=>rw[xI] at hm;exact .inr hm
    |succ j=>
     have:=BL (ms:=ms.drop 1) ht (by simpa using h)
     rwa [rL] at this
   ·cases ht
 | .any::r,ms,j,c,ht,h=>by
   simp only[tL] at ht
   split at ht
   ·rename_i hm
    cases j with
    |zero=>rw[xI] at hm;exact .inr hm
    |succ j=>
     have:=BL (ms:=ms.drop 1) ht (by simpa using h)
     rwa [rL] at this
   ·cases ht
def Kv (it:It):Prop:=it.1= .deep∨ ∃v,it.2.1= .sc v
theorem wj {ms:List Mode} {cs:List TC} {vs:List Value} (ht:tL ms cs=true) {i:Nat} {it:It} (h:(fo ms cs vs)[i]?=some it):Kv it:=by
 obtain⟨c,v,h1,h2,rfl⟩:=agG h;exact(BL ht h1).elim .inr .inl
theorem aaa {X:Nat→Nat→Prop} {n:Nat} {m:List Mode} {cs:List TC} {u:Value} {eP:List It} (h:ZU w X n m cs u eP) (ht:tL m cs=true): ∀it∈eP,Kv it:=by
 obtain⟨_,us,_,_,_,_,_,rfl⟩:=h;intro it hi;rcases gj.1 hi with rfl|hi
 ·exact .inl rfl
 ·obtain⟨i,hi⟩:=List.mem_iff_getElem?.1 hi
  exact wj ht hi
theorem Rs {X:Nat→Nat→Prop}: ∀{vs:List (Nat×List TC)} {n:Nat} {ms:List (List Mode)} {us:List Value} {eP:List It},qD w X n ms vs us eP→UD ms vs=true→ ∀it∈eP,Kv it
 |[],n,ms,[],eP,h,_=>by
  have h:eP=[]:=by cases ms<;>exact h
  rw[h];intro it hi;cases hi
 |[],n,ms,_::_,eP,h,_=>by cases ms<;>exact h.elim
 |(_,_)::_,n,ms,[],eP,h,_=>by cases ms<;>exact h.elim
 |(a,cs)::r,n,ms,u::us,eP,h,ht=>by
  obtain⟨a0,b,rfl,h2,h3⟩:=h;simp only[UD] at ht
  split at ht
  ·rename_i hcs
   intro it hi;rcases List.mem_append.1 hi with hi|hi
   ·rcases h2 with⟨_,_,rfl⟩|⟨_,hb⟩
    ·obtain⟨i,hi⟩:=List.mem_iff_getElem?.1 hi
     exact wj hcs hi
    ·exact aaa hb hcs it hi
   ·exact Rs h3 ht it hi
  ·cases ht
theorem agQ {X:Nat→Nat→Prop} {ms:List (List Mode)} {r:TV} {v:Value} {eP:List It} (h:ZV w X ms r v eP) (ht:afH ms r=true): ∀it∈eP,Kv it:=by
 cases r with
 |c c=>obtain⟨_,rfl⟩:=h;intro it hi;obtain⟨i,hi⟩:=List.mem_iff_getElem?.1 hi;exact wj ht hi
 |ag cs=>obtain⟨_,rfl⟩:=h;intro it hi;obtain⟨i,hi⟩:=List.mem_iff_getElem?.1 hi;exact wj ht hi
 |bx cs=>exact aaa h ht
 |tu vs=>obtain⟨_,_,h⟩:=h;exact Rs h ht
 |_=>exact h.elim
theorem aab {cs:List TC}:tL (bms [] cs) cs=true:=by
 induction cs with
 |nil=>rfl
 |cons c r ih=>cases c<;>exact ih
theorem Kw {NB:Nat→Prop}: ∀{ps:List cz} {xs:List Value} {fs:List TV} {eP:List It},BI w NB ps xs fs eP→aaF ps=true→ ∀it∈eP,Kv it
 |[],[],fs,eP,h,_=>by rw[h.2];intro it hi;cases hi
 |[],_::_,_,_,h,_=>h.elim
 |_::_,[],_,_,h,_=>h.elim
 |p::ps,x::xs,fs,eP,h,ht=>by
  cases p with
  |inout ms=>
   cases ms with
   |cons m ms=>cases ht
   |nil=>
    cases fs with
    |nil=>exact h.elim
    |cons f fs=>
     obtain⟨a,b,rfl,h2,h3⟩:=h;intro it hi;rcases List.mem_append.1 hi with hi|hi
     ·cases f with
      |c c=>rw[h3.2] at hi;simp only[qw] at hi;rw[hi];exact .inl rfl
      |ag cs=>obtain⟨_,ys,_,_,rfl⟩:=h3;obtain⟨i,hi⟩:=List.mem_iff_getElem?.1 hi;exact wj aab hi
      |bx cs=>obtain⟨ad,us,_,_,_,_,rfl⟩:=h3;obtain⟨i,hi⟩:=List.mem_iff_getElem?.1 hi;exact wj aab hi
      |_=>exact h3.elim
     ·exact Kw h2 ht it hi
  |borrow=>exact Kw (ps:=ps) (xs:=xs) (fs:=fs) h ht
  |consume=>exact Kw (ps:=ps) (xs:=xs) (fs:=fs) h ht
theorem Rj.tight {F:Nat→Prop} {Rg BB:Nat→Prop} {g:Sig} {args:List Value} {r:TV} {fs:List TV} {v:Value} (h:Rj F (KY true Rg BB) w0 w g args r fs v) (ht:aeq g r=true):Rj F (KY g.shares Rg BB) w0 w g args r fs v:=by
 unfold aeq at ht
 cases hs:g.shares with
 |true=>exact h
 |false=>
  rw[hs] at ht;simp only at ht
  split at ht
  ·rename_i hps
   obtain⟨frm,I,X,ri,fi,hb,hr,hf⟩:=h;refine⟨frm,fun _=>False,X,ri,fi,⟨fun i it hi=> ?_,fun i k hi hk=>⟨(hb.rng i k hi hk).1,(hb.rng i k hi hk).2.1,id⟩,hb.apart,fun k hk=>hk.elim⟩,hr,hf.mono fun k hk=>⟨id,hk.2⟩⟩;have hc:=hb.ok i it hi;have:Kv it:=(List.mem_append.1 (iV hi)).elim (agQ hr ht it) (Kw hf hps it);obtain⟨m,c,u⟩:=it;rcases this with e|⟨y,e⟩
   ·have e:m= .deep:=e
    subst e;exact hc.I6 rfl
   ·have e:c= .sc y:=e
    subst e;have hc:aB w I m (X i) (.sc y) u:=hc
    cases hc with|sc _ _ _ h=>exact .sc _ _ _ h
  ·cases ht
theorem Rt (hC:COk C) (KR:Vs C cf) {a:Act} (h:bD F A w0 φ st a.tmps w) {o:Oper} {f:FuncId} {es:List TE} {xs:List Value} (hlen:es.length=xs.length) (Q8: ∀(i:Nat) (e:TE),es[i]?=some e→ ∃x,xs[i]?=some x∧dO st.ob w φ e x)
 (apY:(execOp a.eval o).run C.P w=(callFunc f xs.toArray).run C.P w) (hwr:writes C st o=vK st (C.sig f).ps es) {K:TS→Ev R} (hd: ∀d,o.dst=some d→d<a.tmps.size) (hk:(MT C o.dst f es st K).holds cf lp Q) {Kc:Act→World→Prop} {Qc:Exit→Act→World→Prop}
 (hK: ∀st' v w',Rel F A w0 st' (a.put o.dst v).tmps w'→(K st').holds cf lp Q→w.heap.size≤w'.heap.size→(∀k,k<w.heap.size→ ¬Wr st φ (writes C st o) k→w'.heap[k]?=w.heap[k]?)→Kc (a.put o.dst v) w'):o.wp C.P a w Kc Qc:=by
 unfold MT at hk
 split at hk
 ·rename_i own qt hgi
  split at hk
  ·rename_i hn hm h0
   obtain⟨vs,hk,hin⟩:=ak5 h hgi hn hm Q8 hk
   split at hk
   ·rename_i hsm
    obtain⟨r,fs,hc,hk⟩:=hk;have hin:=hin hsm;obtain⟨hbody,aoH⟩:=KR f vs r fs hc;have g:=DZ hgi;have hC':=aoH w xs _ _ _ _ hin (by rw[g.len,hlen]);unfold Oper.wp;rw[apY,aa8 hC hbody,Oper.upon_enter];refine hC'.mono fun e w' hpost=> ?_;obtain⟨v,rfl,hp⟩:=hpost;simp only;simp only at hk
    split at hk
    ·exact hk.elim
    rename_i aoI;have hp:=hp.tight aoI
    split at hk
    ·rename_i W B hpo
     obtain⟨φ3,ri,fi,X,posB,af⟩:=agP h hgi hn hm h0 Q8 hp hpo;rw[xF] at hk
     obtain⟨φ4,r4,β4,I4,free4⟩:=Rq (β:=φ.β) (XB:=fun b j=>X (posB b j)) (E:=fun k=> ∃i,i<ri.length∧X i k) B _ φ3 af.β af.rel af.ndB (fun b ms ts hm=>by
      obtain⟨b1,b2,b3,b4,b5,b6,us,b7,b8,b9⟩:=af.box b ms ts hm;refine⟨b1,b2,b4,b6,fun⟨i,hi,hx⟩=>b5 i (by rw[cM];omega) hx,fun b' ms' ts' j hm' hj hx=> ?_,us,b7,b8,fun j c hj=> ?_⟩
      ·obtain⟨_,_,_,_,_,_,us',_,_,c9⟩:=af.box b' ms' ts' hm'
       obtain⟨u,u1,u2,u3,u4⟩:=c9 j _ (cw hj);exact b5 _ (List.getElem?_eq_some_iff.1 u2).1 hx
      ·obtain⟨u,u1,u2,u3,u4⟩:=b9 j c hj
       refine⟨u,u1,af.item _ _ u2,fun k hk=>⟨u4 k hk,fun⟨i,hi,hx⟩=> ?_⟩⟩;have:=af.apart _ _ k (List.getElem?_eq_some_iff.1 u2).1 (by rw[cM];omega) hk hx
       omega)
      (fun b ms ts b' ms' ts' j j' k hm hm' hj hj' hx hx'=>by
        obtain⟨_,_,_,_,_,_,us,_,_,c9⟩:=af.box b ms ts hm;obtain⟨u,u1,u2,u3,u4⟩:=c9 j _ (cw hj);obtain⟨_,_,_,_,_,_,us',_,_,c9'⟩:=af.box b' ms' ts' hm';obtain⟨u',u1',u2',u3',u4'⟩:=c9' j' _ (cw hj')
        exact af.posI b ms ts b' ms' ts' j j' hm hm' hj hj' (af.apart _ _ k (List.getElem?_eq_some_iff.1 u2).1 (List.getElem?_eq_some_iff.1 u2').1 hx hx')) (fun k ⟨i,hi,hx⟩=>af.free i k hi hx)
     have hfr: ∀k,k<w.heap.size→ ¬Wr st φ (writes C st o) k→w'.heap[k]?=w.heap[k]?:=fun k hk hn=>hp.frm.block k hk fun hc=>hn (by rw[hwr];exact acS h hgi Q8 hc)
     cases nX:o.dst with
     |none=>
      rw[nX] at hk hK;exact hK _ v w' ⟨φ4,r4⟩ hk hp.frm.size hfr
     |some d=>
      rw[nX] at hk hK;simp only at hk
      split at hk
      ·rename_i st4 hres
       refine hK _ v w' ?_ hk hp.frm.size hfr
       exact aiW r4 af.res (fun n it hn=>by rw[I4];exact af.item n it (by rw[nw (List.getElem?_eq_some_iff.1 hn).1];exact hn)) (fun n x hn hx=>free4 x ⟨n,hn,hx⟩)
        (fun n n' x hn hn' hx hx'=>af.apart n n' x (by rw[cM];omega) (by rw[cM];omega) hx hx') (hd d nX) hres
      ·exact hk.elim
    ·exact hk.elim
   ·exact hk.elim
  ·exact hk.elim
 ·exact hk.elim
theorem Vt (hT:iY C) {a:Act} (h:bD F A w0 φ st a.tmps w): ∀(xs:List Operand) (ts:List TypeId),xs.length=ts.length→(OK C st xs ts).length=xs.length∧ ∀(i:Nat) (e:TE),(OK C st xs ts)[i]?=some e→ ∃x,(xs.map a.eval)[i]?=some x∧dO st.ob w φ e x
 |[],[],_=>⟨rfl,fun i e h=>by simp[OK] at h⟩
 |[],_::_,h=>by cases h
 |_::_,[],h=>by cases h
 |x::xs,t::ts,hl=>by
  obtain⟨h1,h2⟩:=Vt hT h xs ts (by simpa using hl);refine⟨by simp[OK,h1],fun i e he=> ?_⟩
  cases i with
  |zero=>simp only[OK,gT,aY] at he;subst he;exact⟨_,rfl,gv hT h t x⟩
  |succ i=>exact h2 i e (by simpa [OK] using he)
theorem acT (hC:COk C) (KR:Vs C cf) {a:Act} (h:bD F A w0 φ st a.tmps w) {o:Oper} {K:TS→Ev R} (hd: ∀d,o.dst=some d→d<a.tmps.size) (hk:(sV C st o K).holds cf lp Q) {Kc:Act→World→Prop} {Qc:Exit→Act→World→Prop}
 (hK: ∀st' v w',Rel F A w0 st' (a.put o.dst v).tmps w'→(K st').holds cf lp Q→w.heap.size≤w'.heap.size→(∀k,k<w.heap.size→ ¬Wr st φ (writes C st o) k→w'.heap[k]?=w.heap[k]?)→Kc (a.put o.dst v) w'):o.wp C.P a w Kc Qc:=by
 have hT:=hC.ty
 have did:Did C F A w0 φ st o a w K cf lp Q→o.wp C.P a w Kc Qc:=fun⟨nx,v,w',st',h1,h2,h3,h4,h5,h6⟩=>by
  unfold Oper.wp;rw[h1];rcases h2 with rfl|⟨rfl,rfl⟩
  ·exact hK st' v w' h3 h4 h5 h6
  ·exact hK st' undef w' h3 h4 h5 h6
 have OG:=hk;unfold sV at hk
 split at hk
 ·rename_i e;exact did (aiJ hT h e hd OG)
 ·rename_i e;exact did (anm hT h e hd OG)
 ·rename_i e;exact did (aiK hT h e OG)
 ·rename_i e;exact did (Xy hT h e hd OG)
 ·rename_i e;exact did (aa5 hT h e hd OG)
 ·rename_i e;exact did (aiM hT h e hd OG)
 ·rename_i e;exact did (agL hT h e hd OG)
 ·rename_i e;exact did (ak3 hT h e hd OG)
 ·rename_i f args ts e
  split at hk
  ·rename_i hl
   have hl:=kD hl;obtain⟨g1,g2⟩:=Vt hT h args.toList ts.toList hl;refine Rt hC KR h (xs:=args.toList.map a.eval) (by rw[g1];simp) g2 ?_ ?_ hd hk hK
   ·unfold execOp
    rw[e];simp only[resolve,Act.eval,Deferred.ofValue,Sem.run_bind,Sem.run_pure,Result.andThen,invoke]
    congr 2
    apply Array.ext'
    simp[Act.eval]
   ·unfold writes;rw[e]
  ·exact hk.elim
 ·rename_i i args ts e
  split at hk
  ·rename_i hl
   have hl:=kD hl
   split at hk
   ·rename_i f caps hf
    obtain⟨g1,g2⟩:=Vt hT h args.toList ts.toList hl;have hfv:=h.tmp i;rw[hf] at hfv;have hfv:a.tmps.getD i undef= .func (.func f) #[] (caps.map fun b=>Value.pointer (some (φ.β b))).toArray:=hfv;refine Rt hC KR h (xs:=args.toList.map a.eval++caps.map fun b=>Value.pointer (some (φ.β b))) (by rw[cM,cM,g1];simp) (fun j e' he=> ?_) ?_ ?_ hd hk hK
    ·by_cases hlt:j<(OK C st args.toList ts.toList).length
     ·rw[nw hlt] at he
      obtain⟨x,x1,x2⟩:=g2 j e' he;exact⟨x,by rw[nw (by rw[ct,←g1];exact hlt)];exact x1,x2⟩
     ·rw[pP an,mm] at he
      rw[pP (by rw[ct,←g1];omega),ct,←g1,mm]
      cases hb:caps[j-(OK C st args.toList ts.toList).length]? with
      |none=>rw[hb] at he;cases he
      |some b=>
       rw[hb] at he;simp only[pQ,aY] at he;subst he;exact⟨_,rfl,by show _=Value.pointer (some ((φ.β b).add 0));rw[Addr.add_zero']⟩
    ·unfold execOp
     rw[e];simp only[resolve,Sem.run_bind];have hev:a.eval (.tmp i)= .func (.func f) #[] (caps.map fun b=>Value.pointer (some (φ.β b))).toArray:=hfv;rw[hev];simp only[Deferred.ofValue,Sem.run_pure,Result.andThen,invoke]
     congr 2
     apply Array.ext'
     simp
    ·unfold writes;rw[e];simp only[hf]
   ·exact hk.elim
  ·exact hk.elim
 ·exact did (afX hT h hd hk)
end Go.T
namespace Go.T
variable {F : Nat → Prop} {A : Arg} {w0 w w' : World} {φ φ' φ1 : Fp} {st st' sta fR sK : TS} {tm Lo : Array Value} {C : pU}
variable {R : Type} {cf : Cf} {lp : Lp} {Q : R → Prop}
structure Inv (F:Nat→Prop) (A:Arg) (w0:World) (fx:List Nat) (g:Nat→Value) (n:Nat) (st:TS) (a:Act) (w:World):Prop where
 rel:Rel F A w0 st a.tmps w
 fix: ∀i∈fx,a.tmps.getD i undef=g i
 defers:a.defers=[]
 size:n≤a.tmps.size
variable {fx : List Nat} {g : Nat → Value} {n : Nat}
theorem Ni (a:Act) (d:Option Tmp) (v:Value):(a.put d v).tmps.size=a.tmps.size:=by cases d<;>simp[Act.put]
theorem put_defers (a:Act) (d:Option Tmp) (v:Value):(a.put d v).defers=a.defers:=by cases d<;>rfl
theorem aa9 {a:Act} {o:Oper} (ho:afI fx o=true) (hf: ∀i∈fx,a.tmps.getD i undef=g i) (v:Value): ∀i∈fx,(a.put o.dst v).tmps.getD i undef=g i:=fun i hi=>by
 cases hd:o.dst with
 |none=>exact hf i hi
 |some d=>
  have hne:i≠d:=fun e=>by
   subst e;unfold afI at ho;rw[hd] at ho;simp only[F0] at ho;exact fZ.1 ho hi
  show(a.tmps.setIfInBounds d v).getD i undef=g i;rw[getD_set_ne _ _ _ _ _ hne];exact hf i hi
theorem LD {ops:Array Oper} {a:Act} {j t:Nat} {oj:Oper} {b:Bool} (hj:ops[j]?=some oj) (ht:oj.dst=some t) (hv:a.tmps.getD t undef= .bool b):yielded ops a.tmps j=some b:=by
 unfold yielded;rw[hj];simp only[Option.bind_some,ht]
 have hlt:t<a.tmps.size:=by
  rcases Nat.lt_or_ge t a.tmps.size with h|h
  ·exact h
  ·rw[ze,Array.getElem?_eq_none h] at hv
   cases hv
 rw[zf hlt];rw[ze,zf hlt] at hv;simp only[Option.getD_some] at hv;rw[hv]
theorem Vu {ops:Array Oper} {a:Act} {j t:Nat} {oj:Oper} (hj:ops[j]?=some oj) (ht:oj.dst=some t) (hv:a.tmps.getD t undef=undef):yielded ops a.tmps j=none:=by
 unfold yielded;rw[hj];simp only[Option.bind_some,ht];rw[ze] at hv
 cases h:a.tmps[t]? with
 |none=>rfl
 |some v=>
  rw[h] at hv;simp only[Option.getD_some] at hv;rw[hv]
  rfl
theorem af4 {ob:List (Nat×OB)} {v:Value} (h:dO ob w φ (.v true []) v):v=undef:=by
 obtain⟨vs,rfl,h1,_⟩:=h;have:vs= #[]:=Array.eq_empty_of_size_eq_zero h1;rw[this];rfl
theorem aiX {ob:List (Nat×OB)}:dO ob w φ (.v true []) undef:=⟨#[],rfl,rfl,fun k c h=>by simp at h⟩
theorem bD.aqL {tm:Array Value} (h:bD F A w0 φ st tm w) {d:Nat}:bD F A w0 φ (st.set d (.v true [])) (tm.setIfInBounds d undef) w where
 tmp i:=by
  rw[aaJ]
  by_cases hi:i=d
  ·subst hi
   rw[aJ rfl]
   have:(tm.setIfInBounds i undef).getD i undef=undef:=by
    rw[ze,ZH];simp only[if_true]
    split<;>rfl
   rw[this];exact aiX
  ·rw[aF hi,getD_set_ne _ _ _ _ _ hi];exact h.tmp i
 box:=h.box
 obj:=h.obj
 sep:=h.sep
 frm:=h.frm
theorem Dq {fl:List Nat} {ops:Array Oper} {a:Act} (h:bD F A w0 φ st a.tmps w) {o:Oper} {K:TS→Ev R} (hk:(guarded C fx fl ops st o K).holds cf lp Q):
 afI fx o=true∧((Region.wanted o (yielded ops a.tmps)=true∧ ∃fR,bD F A w0 φ fR a.tmps w∧IW C ops fR o fl=true∧(sV C fR o K).holds cf lp Q)∨
  (Region.wanted o (yielded ops a.tmps)=false∧ ∃fR,bD F A w0 φ fR (a.put o.dst undef).tmps w∧(K fR).holds cf lp Q)):=by
 have fs: ∀{st:TS},(acj C fl ops st o K).holds cf lp Q→IW C ops st o fl=true∧(sV C st o K).holds cf lp Q:=fun {st} hk=>by
  unfold acj at hk
  split at hk
  ·exact⟨by assumption,hk⟩
  ·exact hk.elim
 have skip: ∀{st:TS},bD F A w0 φ st a.tmps w→(ack st o K).holds cf lp Q→ ∃fR,bD F A w0 φ fR (a.put o.dst undef).tmps w∧(K fR).holds cf lp Q:=fun {st} h hk=>by
  unfold ack at hk
  cases hd:o.dst with
  |none=>rw[hd] at hk;exact⟨st,h,hk⟩
  |some d=>
   rw[hd] at hk;exact⟨_,h.aqL,hk⟩
 have gg: ∀{st:TS} {b want:Bool} {j:Nat},bD F A w0 φ st a.tmps w→o.guard=some (j,want)→yielded ops a.tmps j=some b→(aer C fl ops st o b want K).holds cf lp Q→
  (Region.wanted o (yielded ops a.tmps)=true∧ ∃fR,bD F A w0 φ fR a.tmps w∧IW C ops fR o fl=true∧(sV C fR o K).holds cf lp Q)∨
  (Region.wanted o (yielded ops a.tmps)=false∧ ∃fR,bD F A w0 φ fR (a.put o.dst undef).tmps w∧(K fR).holds cf lp Q):=fun {st b want j} h hg hy hk=>by
  have akt:Region.wanted o (yielded ops a.tmps)=(b==want):=by
   unfold Region.wanted;rw[hg];simp only[hy]
   cases b<;>cases want<;>rfl
  have no:(b==want)=false→(ack st o K).holds cf lp Q→Region.wanted o (yielded ops a.tmps)=false∧ ∃fR,bD F A w0 φ fR (a.put o.dst undef).tmps w∧(K fR).holds cf lp Q:=fun hb hk=>by
   exact⟨by rw[akt];exact hb,skip h hk⟩
  cases b with
  |true=>
   cases want with
   |true=>exact .inl ⟨by rw[akt];rfl,st,h,fs hk⟩
   |false=>exact .inr (no rfl hk)
  |false=>
   cases want with
   |true=>exact .inr (no rfl hk)
   |false=>exact .inl ⟨by rw[akt];rfl,st,h,fs hk⟩
 unfold guarded at hk
 split at hk
 ·exact hk.elim
 ·rename_i hok
  refine⟨hok,?_⟩
  split at hk
  ·rename_i hg
   exact .inl ⟨by unfold Region.wanted;rw[hg],st,h,fs hk⟩
  ·rename_i j want hg
   split at hk
   ·rename_i oj hj
    split at hk
    ·rename_i t ht
     have htv:=h.tmp t
     split at hk
     ·rename_i b hb
      rw[hb] at htv;exact gg h hg (LD hj ht htv) hk
     ·rename_i b hb
      rw[hb] at htv;have hv:=sX htv;exact gg (h.akK (d:=t) (e:= .kb b) hv) hg (LD hj ht hv) hk
     ·rename_i hb
      rw[hb] at htv;refine .inr ⟨?_,skip h hk⟩;unfold Region.wanted;rw[hg];simp only[Vu hj ht (af4 htv)]
      rfl
     ·exact hk.elim
    ·exact hk.elim
   ·exact hk.elim
theorem aeV (hC:COk C) (KR:Vs C cf) {fl:List Nat} {ops:Array Oper} {a:Act} (hi:Inv F A w0 fx g n st a w) {o:Oper} (hdB:Vr n o=true) {K:TS→Ev R} (hk:(guarded C fx fl ops st o K).holds cf lp Q) {Kc:Act→World→Prop} {Qc:Exit→Act→World→Prop}
 (hK: ∀st' v w',Inv F A w0 fx g n st' (a.put o.dst v) w'→(K st').holds cf lp Q→Kc (a.put o.dst v) w'):if Region.wanted o (yielded ops a.tmps) then o.wp C.P a w Kc Qc else Kc (a.put o.dst undef) w:=by
 obtain⟨⟨φ,h⟩,aku,akv,hsz⟩:=hi;obtain⟨hok,hc⟩:=Dq h hk;have mk: ∀{st' v w'},Rel F A w0 st' (a.put o.dst v).tmps w'→Inv F A w0 fx g n st' (a.put o.dst v) w':=fun hr=>⟨hr,aa9 hok aku _,by rw[put_defers];exact akv,by rw[Ni];exact hsz⟩;rcases hc with⟨hw,fR,h1,_,Ki⟩|⟨hw,fR,h1,Ki⟩
 ·rw[aJ hw]
  exact acT hC KR h1 (fun d hd=>by
   unfold Vr at hdB;rw[hd] at hdB;have hdB:Nat.ble (d+1) n=true:=hdB
   exact mq (show d<n from wI hdB) hsz) Ki fun st' v w' hr hk' _ _=>hK st' v w' (mk hr) hk'
 ·rw[aF (by rw[hw];exact Bool.false_ne_true)]
  exact hK fR undef w (mk ⟨φ,h1⟩) Ki
theorem aac (hC:COk C) (KR:Vs C cf) {l:List Nat} {ops:Array Oper} {K:TS→Ev R} {Qc:Exit→Act→World→Prop} (hQ: ∀st a w,Inv F A w0 fx g n st a w→(K st).holds cf lp Q→Qc .normal a w):
 ∀(os:List Oper) (st:TS) (a:Act) (w:World),RP n os=true→Inv F A w0 fx g n st a w→(aaH C fx l ops os st K).holds cf lp Q→wpList C.P ops Qc os a w
 |[],st,a,w,_,hi,hk=>by
  simp only[aaH] at hk;rw[xF] at hk;obtain⟨⟨φ,h⟩,h2,h3,h4⟩:=hi;exact hQ _ a w ⟨⟨φ,h.keep l⟩,h2,h3,h4⟩ hk
 |o::r,st,a,w,hb,hi,hk=>by
  simp only[RP] at hb
  split at hb
  ·rename_i hd
   have:=aeV hC KR hi hd hk (Kc:=wpList C.P ops Qc r) (Qc:=Qc) fun st' v w' hi' hk'=>by
    rw[xF] at hk';exact aac hC KR hQ r st' _ w' hb hi' hk'
   unfold wpList
   split
   ·rename_i hw;rw[aJ hw] at this;exact .inl this
   ·rename_i hw;rw[aF hw] at this;exact this
  ·cases hb
end Go.T
