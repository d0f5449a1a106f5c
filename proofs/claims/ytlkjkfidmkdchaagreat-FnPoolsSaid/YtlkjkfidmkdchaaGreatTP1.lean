import Derived.Test.YtlkjkfidmkdchaaGreatTP0
set_option linter.all false
set_option maxRecDepth 100000
set_option maxHeartbeats 4000000
namespace Go.T.R
open Go Go.T
theorem Qf (p:bg) (s:ByteArray) (b n:Int) (hS:aQ p≤1048576) (hz:s.size≤1048576):ai C HO [dK p,vS s,vI b,vI n] (Xt (sq p s b n)) []:=by
 have Em:aQ p≤4194304:=by omega
 have hP:=eF Em;have Wa:=cv p Em;have hva:=gU p s az;have YA:=tJ p s b Em az;have Aj:=(uN n (lz n)).2 rfl;refine(VY _ _ _ _ _ _ _ _ _ _ ?_).run
 by_cases h1:mG p s b=0
 ·rw[h1] at YA
  obtain⟨v,hv,_⟩:=E9 h1
  have hrv:rowAt (p.aq.map cj) (dy p.aq s)=some [iS v.name,iI v.dJ,iI v.size,iB v.fx]:=by rw[aY,hv];rfl
  cases h2:lz n with
  |false=>
   rw[h2] at Aj
   have e:sq p s b n=(p,4):=by unfold sq;rw[aT h1,aK (by rw[h2];simp)]
   rw[e];exact eG
  |true=>
   rw[h2] at Aj;have tk:=tI p.cells n az;obtain⟨cs,i,ok,yt⟩: ∃cs i ok,jA p.cells n=(cs,i,ok):=⟨_,_,_,rfl⟩
   have hcl:cs.length=p.cells.length:=by have:=I1 p.cells n;rw[yt] at this;exact this
   have hX:aQ ⟨p.t,p.aU,cs,p.aq,p.next⟩≤2000000:=by unfold aQ at hS ⊢;simp only[];omega
   rw[yt] at tk
   cases ok with
   |false=>
    have e:sq p s b n=(p,6):=by unfold sq;rw[aT h1,aT h2,hv];simp only[];rw[yt];rfl
    have en:=jg p ⟨p.t,p.aU,cs,p.aq,p.next⟩ false Em az;rw[e];exact eG
   |true=>
    obtain⟨c,hc,aiC⟩:=Jo yt
    have hrc:rowAt (cs.map bR) i=some [iI c.g,iB c.u,iI c.n]:=by rw[aY,hc];rfl
    have pk:=rP ⟨p.t,p.aU,cs,p.aq,p.next⟩ az ⟨b,v.dJ,1,i,c.g⟩;have hpz:=xA ⟨p.t,p.aU,cs,p.aq,p.next⟩ ⟨b,v.dJ,1,i,c.g⟩
    have e:sq p s b n=Gu p (g6 ⟨p.t,p.aU,cs,p.aq,p.next⟩ ⟨b,v.dJ,1,i,c.g⟩).1 (g6 ⟨p.t,p.aU,cs,p.aq,p.next⟩ ⟨b,v.dJ,1,i,c.g⟩).2:=by
     unfold sq;rw[aT h1,aT h2,hv];simp only[];unfold Zv;rw[yt];simp only[];rw[aiC];rfl
    rw[e];generalize g6 ⟨p.t,p.aU,cs,p.aq,p.next⟩ ⟨b,v.dJ,1,i,c.g⟩=X at*;have en:=jg p X.1 X.2 Em az;exact eG
 ·have c1:c6 (mG p s b) 0=false:=by rw[bV];exact iZ h1
  have c2:(!c6 (mG p s b) 0)=true:=by rw[c1];rfl
  have e:sq p s b n=(p,mG p s b):=by unfold sq;rw[aK h1]
  rw[e];exact eG
theorem vY (p:bg) (hS:aQ p≤4194304) (i b:Int) (v:jU) (hv:eI p.aq i=some v):ai C rK [.bx (yN p),vI i,vI b] (vB (e8 p v.dJ b).2) [.bx (yN (e8 p v.dJ b).1)]:=by
 have hP:=eF hS
 have hrv:rowAt (p.aq.map cj) i=some [iS v.name,iI v.dJ,iI v.size,iB v.fx]:=by rw[aY,hv];rfl
 have sa:=xJ p.t p.aU b v.dJ az az;have ta:=vC p.t b v.dJ az;have pg:=rP p hS ⟨b,v.dJ,2,0,0⟩;have pn:=rP p hS ⟨b,v.dJ,0,0,0⟩;obtain⟨a,f,hA⟩: ∃a f,wV p.t p.aU b v.dJ=(a,f):=⟨_,_,rfl⟩;obtain⟨o,q,hO⟩: ∃o q,xu p.t b v.dJ=(o,q):=⟨_,_,rfl⟩
 have e:e8 p v.dJ b=if f=true∧a.k=1 then g6 p ⟨b,v.dJ,2,0,0⟩ else if q=true then g6 p ⟨b,v.dJ,0,0,0⟩ else(p,true):=by
  unfold e8;rw[hA,hO]
 rw[hA] at sa;rw[hO] at ta;rw[e];generalize g6 p ⟨b,v.dJ,2,0,0⟩=X at*;generalize g6 p ⟨b,v.dJ,0,0,0⟩=Y at*;refine(JK _ _ _ _ _ _ _ _ _ ?_).run
 by_cases h1:f=true∧a.k=1
 ·obtain⟨rfl,ha⟩:=h1
  have ce:c6 a.k 1=true:=by rw[bV];exact iK ha
  rw[aT ⟨rfl,ha⟩];exact eG
 ·rw[aK h1]
  have ce:f=true→c6 a.k 1=false:=fun hf=>by rw[bV];exact iZ fun ha=>h1 ⟨hf,ha⟩
  cases f with
  |false=>
   cases q with
   |false=>
    rw[aK cE];exact eG
   |true=>
    rw[aT rfl];exact eG
  |true=>
   have ce:=ce rfl
   cases q with
   |false=>
    rw[aK cE];exact eG
   |true=>
    rw[aT rfl];exact eG
theorem K5 (p:bg) (s:ByteArray) (b:Int) (hS:aQ p≤1048576) (hz:s.size≤1048576):ai C B8 [dK p,vS s,vI b] (Xt (qc p s b)) []:=by
 have Em:aQ p≤4194304:=by omega
 have hP:=eF Em;have Wa:=cv p Em;have hva:=gU p s az;have YA:=tJ p s b Em az;refine(Q8 _ _ _ _ _ _ _ _ _ ?_).run
 by_cases h1:mG p s b=0
 ·rw[h1] at YA
  obtain⟨v,hv,_⟩:=E9 h1;have di:=vY p Em (dy p.aq s) b v hv;have hdz:=I9 p v.dJ b
  have e:qc p s b=Gu p (e8 p v.dJ b).1 (e8 p v.dJ b).2:=by unfold qc;rw[aT h1,hv]
  rw[e];generalize e8 p v.dJ b=X at*;have en:=jg p X.1 X.2 Em az;exact eG
 ·have c1:c6 (mG p s b) 0=false:=by rw[bV];exact iZ h1
  have c2:(!c6 (mG p s b) 0)=true:=by rw[c1];rfl
  have e:qc p s b=(p,mG p s b):=by unfold qc;rw[aK h1]
  rw[e];exact eG
theorem MN (p:bg) (s:ByteArray) (n:Int) (hS:aQ p≤1048576) (hz:s.size≤1048576):ai C gf [dK p,vS s,vI n] (Xt (tw p s n)) []:=by
 have Em:aQ p≤4194304:=by omega
 have hP:=eF Em;have Wa:=cv p Em;have hva:=gU p s az;have YA:=tJ p s 0 Em az;have hin:=m6 n 1 12;obtain⟨Z,hZe⟩: ∃Z,Z=tw p s n:=⟨_,rfl⟩;rw[←hZe];refine(S1 _ _ _ _ _ _ _ _ _ ?_).run
 by_cases h1:mG p s 0=0
 ·rw[h1] at YA
  obtain⟨v,hv,hfm,_⟩:=E9 h1;have hvz:=L6 (u0 (by unfold uZ at hfm;simp only[dW] at hfm;exact hfm.1)) hv
  have hrv:rowAt (p.aq.map cj) (dy p.aq s)=some [iS v.name,iI v.dJ,iI v.size,iB v.fx]:=by rw[aY,hv];rfl
  cases h2:g8 n 1 12 with
  |false=>
   rw[h2] at hin
   have e:Z=(p,4):=by rw[hZe];unfold tw;rw[aT h1,aK (by rw[h2];simp)]
   rw[e];exact eG
  |true=>
  rw[h2] at hin
  have hn:1≤n∧n≤12:=by unfold g8 at h2;simpa using h2
  have hZ:Gu p (Ja (GQ v.dJ (v.size-n).toNat (v.size-1) p).1 (dy p.aq s) n) (GQ v.dJ (v.size-n).toNat (v.size-1) p).2=Z:=by
   rw[hZe];unfold tw;rw[aT h1,aT h2,hv]
  clear hZe;have hsb:dV v.size 1=v.size-1:=dL az
  have fin: ∀(ok:Bool) (X:bg),aQ X≤4000000→X.aq=p.aq→Gu p (Ja X (dy p.aq s) n) ok=Z→ ∀Q:QV,Q (Xt Z) []→ ∃(s62:ByteArray) (n63:Int) (n64:Int) (b65:Bool),rowAt (X.aq.map cj) (dy p.aq s)=some [iS s62,iI n63,iI n64,iB b65]∧(∃(s66:ByteArray) (n67:Int) (n68:Int) (b69:Bool),rowAt (X.aq.map cj) (dy p.aq s)=some [iS s66,iI n67,iI n68,iB b69]∧(∃(l70:RR) (l71:RR) (l72:RR) (l73:RR) (l74:RR) (n75:Int) (n76:Int),ai C gh ([dK p,TV.ag [TC.sub 1 (X.t.ax.map bI),TC.sub 1 (X.t.nodes.map aX),TC.sub 2 (X.aU.map bS),TC.sub 3 (X.cells.map bR),TC.sub 4 (setRow (X.aq.map cj) (dy p.aq s) 2 [iI n]),iI X.next],TV.c (iB ok)]) (TV.tu [(1,[TC.sub 1 l70,TC.sub 1 l71,TC.sub 2 l72,TC.sub 3 l73,TC.sub 4 l74,iI n75]),(0,[iI n76])]) []∧(Q (TV.tu [(1,[TC.sub 1 l70,TC.sub 1 l71,TC.sub 2 l72,TC.sub 3 l73,TC.sub 4 l74,iI n75]),(0,[iI n76])]) ([])))):=by
   intro ok X hX hXv hZ Q hQ
   have hrx:rowAt (X.aq.map cj) (dy p.aq s)=some [iS v.name,iI v.dJ,iI v.size,iB v.fx]:=by rw[hXv];exact hrv
   have en:=jg p (Ja X (dy p.aq s) n) ok Em (by rw[ad6];omega);have e1:setRow (X.aq.map cj) (dy p.aq s) 2 [iI n]=(Ja X (dy p.aq s) n).aq.map cj:=Xd;rw[hZ] at en;rw[e1];exact⟨_,_,_,_,hrx,_,_,_,_,hrx,_,_,_,_,_,_,_,en,hQ⟩
  have Q0:(fun r fs=>r=Xt Z∧fs=([]:List TV)) (Xt Z) []:=fG
  have bad:(p,(6:Int))=Z→ ∀(b:Int) (X:bg),aQ X≤4000000→X.aq=p.aq→ah C gf ir 4 0 (kV n (dy p.aq s) false b (p.t.ax.map bI) (p.t.nodes.map aX) (p.aU.map bS) (p.cells.map bR) (p.aq.map cj) p.next (X.t.ax.map bI) (X.t.nodes.map aX) X.next (X.aU.map bS) (X.cells.map bR) (X.aq.map cj)) (fun x st=>aD C gf ir x st fun r fs=>r=Xt Z∧fs=[]):=by
   intro hZ b X hX hXv
   by_cases h:n≤b
   ·exact r9 _ _ _ _ _ _ _ _ _ _ _ _ _ _ _ _ _ (aa (by rw[iA];exact iK h) (av rfl (N0 _ _ _ _ _ _ _ _ _ _ _ _ _ _ _ _ _ (fin false X hX hXv hZ (fun r fs=>r=Xt Z∧fs=[]) Q0))))
   ·exact r9 _ _ _ _ _ _ _ _ _ _ _ _ _ _ _ _ _ (av (by rw[iA];exact iZ h) (Ef _ _ _ _ _ _ _ _ _ _ _ _ _ _ _ _ _ (fin false X hX hXv hZ (fun r fs=>r=Xt Z∧fs=[]) Q0)))
  have key: ∀(k:Nat) (b:Int) (X:bg),k=(b+1-n).toNat→ -1≤b→b≤12→aQ X+300*k≤4000000→X.aq=p.aq→Gu p (Ja (GQ v.dJ k b X).1 (dy p.aq s) n) (GQ v.dJ k b X).2=Z→ah C gf ir 4 0 (kV n (dy p.aq s) true b (p.t.ax.map bI) (p.t.nodes.map aX) (p.aU.map bS) (p.cells.map bR) (p.aq.map cj) p.next (X.t.ax.map bI) (X.t.nodes.map aX) X.next (X.aU.map bS) (X.cells.map bR) (X.aq.map cj)) (fun x st=>aD C gf ir x st fun r fs=>r=Xt Z∧fs=[]):=by
   intro k
   induction k with
   |zero=>
    intro b X hk hb1 hb hX hXv hZ
    have h: ¬n≤b:=by omega
    have hZ:Gu p (Ja X (dy p.aq s) n) true=Z:=hZ;exact r9 _ _ _ _ _ _ _ _ _ _ _ _ _ _ _ _ _ (av (by rw[iA];exact iZ h) (Ef _ _ _ _ _ _ _ _ _ _ _ _ _ _ _ _ _ (fin true X az hXv hZ (fun r fs=>r=Xt Z∧fs=[]) Q0)))
   |succ k ih=>
    intro b X hk hb1 hb hX hXv hZ
    ·have h:n≤b:=by omega
     have hsub:dV b 1=b-1:=dL az;have hr:=(PL X v.dJ b).2.1;have hdz:=I9 X v.dJ b;have di:=vY X az (dy p.aq s) b v (by rw[hXv];exact hv);unfold GQ at hZ;rw[show(if(e8 X v.dJ b).2=true then GQ v.dJ k (b-1) (e8 X v.dJ b).1 else(X,false))=if(e8 X v.dJ b).2=true then GQ v.dJ k (b-1) (e8 X v.dJ b).1 else(X,false) from rfl] at hZ;refine r9 _ _ _ _ _ _ _ _ _ _ _ _ _ _ _ _ _ (aa (by rw[iA];exact iK h) (aa rfl ⟨_,_,_,_,_,_,_,di,?_⟩))
     rw[hsub]
     cases hd:(e8 X v.dJ b).2 with
     |false=>
      rw[hd] at hZ;exact bad hZ (b-1) (e8 X v.dJ b).1 az (by rw[hr];exact hXv)
     |true=>
      rw[hd] at hZ;exact ih (b-1) (e8 X v.dJ b).1 az az az az (by rw[hr];exact hXv) hZ
  have k0:=key (v.size-n).toNat (v.size-1) p az az az az rfl hZ;rw[←hsb] at k0;exact eG
 ·have c1:c6 (mG p s 0) 0=false:=by rw[bV];exact iZ h1
  have c2:(!c6 (mG p s 0) 0)=true:=by rw[c1];rfl
  have e:Z=(p,mG p s 0):=by rw[hZe];unfold tw;rw[aK h1]
  rw[e];exact eG
theorem Cx (p:bg) (hS:aQ p≤4194304) (i:Int):ai C iq [dK p,vI i] (AJ (pK p i)) []:=by
 have hP:=eF hS;have htl:=gZ p.t;refine(S8 _ _ _ _ _ _ _ _ ⟨_,jf p.t az,?_⟩).run
 have key:((ay p.t).drop 0).find? (xB i)=(ay p.t).find? (xB i)→ah C iq aj 4 0 (mO i ((0:Nat):Int) ((ay p.t).map bG)) (fun x st=>aD C iq aj x st fun r fs=>r=AJ (pK p i)∧fs=[]):=by
  refine bP (ay p.t) (fun j=>((ay p.t).drop j).find? (xB i)=(ay p.t).find? (xB i)→ah C iq aj 4 0 (mO i (j:Int) ((ay p.t).map bG)) (fun x st=>aD C iq aj x st fun r fs=>r=AJ (pK p i)∧fs=[])) ?_ ?_
  ·intro h0
   rw[fF] at h0;exact Ei _ _ _ _ (av cE (Oc _ _ _ _ _ ⟨by unfold pK;rw[←h0];rfl,rfl⟩))
  ·intro j a hj ha hd ht hn h0
   rw[hd,List.find?_cons] at h0
   have hr:rowAt ((ay p.t).map bG) (j:Int)=some [iI a.b,iI a.a,iI a.k,iI a.c,iI a.g]:=by rw[aY,aN,ha];rfl
   have Ak:aE (j:Int) 1=(j:Int)+1:=aO az;refine Ei _ _ _ _ (aa lu ⟨_,_,_,_,_,hr,_,_,_,_,_,hr,?_⟩);rw[Ak]
   by_cases h1:a.k=1
   ·refine aa (by rw[bV];exact iK h1) ⟨_,_,_,_,_,hr,_,_,_,_,_,hr,?_⟩
    by_cases h2:a.c=i
    ·have ho:xB i a=true:=by unfold xB;simp[h1,h2]
     rw[ho] at h0;exact aa (by rw[bV];exact iK h2) ⟨_,_,_,_,_,hr,_,_,_,_,_,hr,Ob _ _ _ _ _ _ _ ⟨by unfold pK;rw[←h0],rfl⟩⟩
    ·have ho:xB i a=false:=by unfold xB;simp[h2]
     rw[ho] at h0;exact av (by rw[bV];exact iZ h2) (hn h0)
   ·have ho:xB i a=false:=by unfold xB;simp[h1]
    rw[ho] at h0;exact av (by rw[bV];exact iZ h1) (hn h0)
 exact key rfl
theorem Fo {p:bg} {i:Int} {c:Cell} (hc:eI p.cells i=some c) (h: ¬(c.u=true∧0≤jG p.cells∧jG p.cells≤i)):jC p i=(p,false):=by
 unfold jC
 split
 ·rw[hc];exact aK h
 ·rfl
theorem Vx {p:bg} {i:Int} {c:Cell} (hp:cr p=true) (hc:eI p.cells i=some c) (h:c.u=true∧0≤jG p.cells∧jG p.cells≤i):jC p i=yU p (PM p i c.n):=by
 unfold jC;rw[aT hp,hc];exact aT h
theorem Vy {p:bg} {i:Int} (hc:eI p.cells i=none):jC p i=(p,false):=by
 unfold jC
 split
 ·rw[hc]
 ·rfl
theorem Vz {p:bg} {i:Int} (hp:cr p=false):jC p i=(p,false):=by
 unfold jC;rw[aK (by rw[hp];simp)]
theorem AS {p:bg} {x:bg×Bool} (h:x.2=false):yU p x=(p,false):=by
 unfold yU;rw[aK fun e=>by rw[h] at e;cases e.1]
theorem AT {p:bg} {x:bg×Bool} (h:cr x.1=false):yU p x=(p,false):=by
 unfold yU;rw[aK fun e=>by rw[h] at e;cases e.2]
theorem AU {p:bg} {x:bg×Bool} (h1:x.2=true) (h2:cr x.1=true):yU p x=(x.1,true):=by
 unfold yU;rw[aT ⟨h1,h2⟩]
theorem ZM {p:bg} {i:Int} {c:Cell} (hp:cr p=true) (hc:eI p.cells i=some c):lz c.n=true:=by
 have h:=wB hp;simp only[fE,dW] at h;have:=List.all_eq_true.1 h.1 c (uW hc);simp only[jv,dW] at this;exact this.2.1
theorem Jp (p:bg) (i:Int) (hS:aQ p≤1048576):ai C Aa [dK p,vI i] (tPB (jC p i)) []:=by
 have Z7:aQ p≤4194304:=by omega
 have hP:=eF Z7;have htl:=gZ p.t;have Wa:=cv p Z7;have hok:=fO p Z7;have hin:=m6 i 0 ((p.cells.length:Int)-1)
 have hsl:dV (Int.ofNat (p.cells.map bR).length) 1=(p.cells.length:Int)-1:=by rw[cn];exact dL lu
 rw[←hsl] at hin;refine(N7 _ _ _ _ _ _ _ _ ?_).run
 cases hg:cr p with
 |false=>
  rw[hg] at hok;rw[Vz hg];exact eG
 |true=>
 rw[hg] at hok
 cases hc:eI p.cells i with
 |none=>
  have h1:g8 i 0 (dV (Int.ofNat (p.cells.map bR).length) 1)=false:=by
   rw[hsl];unfold g8;refine iZ fun h=> ?_
   obtain⟨a,ha⟩:=gj (l:=p.cells) h.1 az;rw[hc] at ha;cases ha
  rw[h1] at hin;rw[Vy hc];exact eG
 |some c=>
  have hi:0≤i∧i<p.cells.length:=Classical.byContradiction fun hn=>by rw[jF hn] at hc;cases hc
  have h1:g8 i 0 (dV (Int.ofNat (p.cells.map bR).length) 1)=true:=by rw[hsl];unfold g8;exact iK az
  rw[h1] at hin
  have hrc:rowAt (p.cells.map bR) i=some [iI c.g,iB c.u,iI c.n]:=by rw[aY,hc];rfl
  cases hu:c.u with
  |false=>
   rw[hu] at hrc;rw[Fo hc fun h=>by rw[hu] at h;cases h.1];exact eG
  |true=>
  rw[hu] at hrc;have tk:=tI p.cells c.n az;have hk:=Cx p Z7 i
  by_cases hf:0≤jG p.cells
  ·have yt:=BV ⟨wB hg,ZM hg hc,hf⟩
   obtain⟨cs,hcs⟩: ∃cs,cs=p.cells.modify (jG p.cells).toNat (fun d=>⟨d.g,true,c.n⟩):=⟨_,rfl⟩;rw[←hcs] at yt
   have hcl:cs.length=p.cells.length:=by rw[hcs,Th]
   obtain⟨d,hd,aiC⟩:=Jo yt
   have hrd:rowAt (cs.map bR) (jG p.cells)=some [iI d.g,iB d.u,iI d.n]:=by rw[aY,hd];rfl
   clear hcs;rw[yt] at tk
   by_cases hle:jG p.cells≤i
   ·have cl:cN i (jG p.cells)=false:=by rw[jb];exact iZ az
    rw[Vx hg hc ⟨hu,hf,hle⟩];have tp:=qv p.t (yT p i c.n) az;have fc:=tH cs i az;have hk:=Cx p Z7 i
    have hmk:yT p i c.n=⟨(pK p i).b,(pK p i).a,(pK p i).k,jG p.cells,d.g⟩:=by unfold yT;rw[yt];simp only[];rw[aiC]
    have hX:PM p i c.n=(⟨(bB p.t (yT p i c.n)).1,p.aU,kZ cs i,p.aq,p.next⟩,(bB p.t (yT p i c.n)).2):=by unfold PM;rw[yt]
    have hsz:=xz p.t (yT p i c.n)
    have hXs:aQ (PM p i c.n).1≤4194304:=by
     have h1:=BU cs i;rw[hX];unfold aQ at hS ⊢;simp only[];omega
    have pk2:=fO (PM p i c.n).1 hXs;rw[hmk] at tp hX;obtain⟨T,b,hT⟩: ∃T b,bB p.t ⟨(pK p i).b,(pK p i).a,(pK p i).k,jG p.cells,d.g⟩=(T,b):=⟨_,_,rfl⟩;rw[hT] at tp hX
    cases b with
    |false=>
     rw[AS (by rw[hX])];exact eG
    |true=>
     cases hg:cr (PM p i c.n).1 with
     |false=>
      rw[AT hg];rw[hg,hX] at pk2;exact eG
     |true=>
      rw[AU (by rw[hX]) hg,hX];rw[hg,hX] at pk2;exact eG
   ·have cl:cN i (jG p.cells)=true:=by rw[jb];exact iK az
    rw[Fo hc fun h=>hle h.2.2];exact eG
  ·rw[uY fun h=>hf h.2.2] at tk
   rw[Fo hc fun h=>hf h.2.1];exact eG
theorem X7 {l:List mw} {id:Int} {a:mw} (h:gE l=true) (ha:eI l (fJ l id)=some a):ur l id=((B0 l id a.fr).take (fJ l id).toNat++(B0 l id a.fr).drop ((fJ l id).toNat+1),true):=by
 unfold ur;rw[aT h,ha]
theorem X8 {l:List mw} {id:Int} (ha:eI l (fJ l id)=none):ur l id=(l,false):=by
 unfold ur
 split
 ·rw[ha]
 ·rfl
theorem ZN {l:List mw} {id:Int} (h:gE l=false):ur l id=(l,false):=by
 unfold ur;rw[aK (by rw[h];simp)]
theorem ZO {l:List mw} {id fr:Int} {j:Nat} {x:mw} (h:l[j]?=some x):(B0 l id fr)[j]?=some (if x.fr=id then {x with fr:=fr} else x):=by
 unfold B0;rw[kg,h];rfl
theorem MO (l:List mw) (id:Int) (hl:l.length≤1073741800):ai C eO [lX l,vI id] (TV.tu [(0,[TC.sub 2 ((ur l id).1.map bS)]),(0,[iB (ur l id).2])]) []:=by
 have YC:=nO l id az;have hok:ai C c8 [lX l] (vB (gE l)) []:=vz l az
 have Wa:(bM (l.map bS)&&fits (Nat.add 0 (List.length (l.map bS))) 16)=true:=by rw[AK,cM lu];rfl
 refine(S7 _ _ _ ?_).run
 by_cases h1:fJ l id<0
 ·have cl:cN (fJ l id) 0=true:=by rw[jb];exact iK h1
  rw[X8 (jF az)];exact eG
 ·have cl:cN (fJ l id) 0=false:=by rw[jb];exact iZ h1
  cases hg:gE l with
  |false=>
   rw[hg] at hok;rw[ZN hg];exact eG
  |true=>
   rw[hg] at hok;obtain⟨a,ha,_⟩:=Kw l id h1;rw[X7 hg ha];have hlt:=adO l id;obtain⟨k,hk⟩: ∃k:Nat,fJ l id=k:=⟨(fJ l id).toNat,by omega⟩;rw[hk] at YC ha cl hlt ⊢;rw[pT]
   have hra:rowAt (l.map bS) (k:Int)=some [iI a.id,iI a.fr]:=by rw[aY,ha];rfl
   obtain⟨W,hW⟩: ∃W,W=B0 l id a.fr:=⟨_,rfl⟩
   have hWl:W.length=l.length:=by rw[hW];exact PN _ _ _
   rw[←hW];obtain⟨U,hU⟩: ∃U,U=W.take k++W.drop (k+1):=⟨_,rfl⟩
   have hUl:U.length≤l.length:=by rw[hU,cT,gz,lD];omega
   rw[←hU]
   have key: ∀acc:List mw,acc++(if 0≤k then(W.drop 0).take (k-0)++W.drop (k+1) else W.drop 0)=U→ah C eO dg 4 0 (gY (l.map bS) id (k:Int) ((0:Nat):Int) (acc.map bS)) (fun x st=>aD C eO dg x st fun r fs=>r=(TV.tu [(0,[TC.sub 2 (U.map bS)]),(0,[iB true])])∧fs=[]):=by
    refine bP l (fun j=> ∀acc:List mw,acc++(if j≤k then(W.drop j).take (k-j)++W.drop (k+1) else W.drop j)=U→ah C eO dg 4 0 (gY (l.map bS) id (k:Int) (j:Int) (acc.map bS)) (fun x st=>aD C eO dg x st fun r fs=>r=(TV.tu [(0,[TC.sub 2 (U.map bS)]),(0,[iB true])])∧fs=[])) ?_ ?_
    ·intro acc h0
     have hk2: ¬l.length≤k:=by omega
     rw[aK hk2,←hWl,fF,nG] at h0;exact Eh _ _ _ _ _ _ (av cE (Oa _ _ _ _ _ _ _ ⟨by rw[h0],rfl⟩))
    ·intro j x hj hx hd ht hn acc h0
     have hlen:=congrArg List.length h0;rw[cT] at hlen
     have hr:rowAt (l.map bS) (j:Int)=some [iI x.id,iI x.fr]:=by rw[aY,aN,hx];rfl
     have Ak:aE (j:Int) 1=(j:Int)+1:=aO az;have hw:=ZO (id:=id) (fr:=a.fr) hx;rw[←hW] at hw
     obtain⟨y,hy⟩: ∃y:mw,y=if x.fr=id then {x with fr:=a.fr} else x:=⟨_,rfl⟩
     rw[←hy] at hw;obtain⟨hjw,hwe⟩:=List.getElem?_eq_some_iff.1 hw
     have hdw:W.drop j=y::W.drop (j+1):=by rw[wZ hjw,hwe]
     have nx: ¬j=k→ah C eO dg 4 0 (gY (l.map bS) id (k:Int) ((j:Int)+1) ((acc++[y]).map bS)) (fun x st=>aD C eO dg x st fun r fs=>r=(TV.tu [(0,[TC.sub 2 (U.map bS)]),(0,[iB true])])∧fs=[]):=by
      intro hne;refine hn (acc++[y]) ?_;rw[←h0]
      by_cases h:j≤k
      ·rw[aT h,aT az,hdw,show k-j=(k-(j+1))+1 from by omega,List.take_succ_cons];simp
      ·rw[aK h,aK az,hdw];simp
     have sk:j=k→ah C eO dg 4 0 (gY (l.map bS) id (k:Int) ((j:Int)+1) (acc.map bS)) (fun x st=>aD C eO dg x st fun r fs=>r=(TV.tu [(0,[TC.sub 2 (U.map bS)]),(0,[iB true])])∧fs=[]):=by
      intro he;refine hn acc ?_;rw[←h0,he,aT (dj _),aK az,oF,List.take_zero,w4]
     refine Eh _ _ _ _ _ _ (aa lu ⟨_,_,hr,?_⟩);rw[Ak]
     have hfit: ∀u v:Int,(bM [[iI u,iI v]]&&fits (Nat.succ (List.length (acc.map bS))) 16)=true:=fun u v=>by rw[so,cM lu];rfl
     by_cases hf:x.fr=id
     ·rw[aT hf] at hy
      subst hy;refine aa (by rw[bV];exact iK hf) ⟨_,_,hra,?_⟩
      (try dsimp only)
      rw[wu]
      by_cases hjk:j=k
      ·exact av (by rw[bV,hjk];simp) (sk hjk)
      ·exact aa (by rw[bV];simp;omega) (aa (hfit _ _) (nx hjk))
     ·rw[aK hf] at hy
      subst hy;refine av (by rw[bV];exact iZ hf) ?_;rw[wu]
      by_cases hjk:j=k
      ·exact av (by rw[bV,hjk];simp) (sk hjk)
      ·exact aa (by rw[bV];simp;omega) (aa (hfit _ _) (nx hjk))
   have k0:=key [] (by rw[aT (dm _),w4,List.drop_zero,Nat.sub_zero,hU]);exact eG
theorem Qg (p:bg):gD p=(0,0)∨(∃i k,(gD p=(1,i)∨gD p=(2,i))∧eI (ay p.t) i=some k)∨
 (∃i k x,gD p=(3,i)∧eI (ay p.t) i=some k∧eI (fI p.aU k.a) 0=some x∧E3 p k.a=x)∨ ∃i a,gD p=(4,i)∧eI p.aU i=some a:=by
 unfold gD
 split
 ·split
  ·rename_i h
   obtain⟨k,hk,_⟩:=xq (wz p 1) (ay p.t) (by unfold pJ at h;omega);exact .inr (.inl ⟨_,k,.inl rfl,hk⟩)
  ·split
   ·rename_i h
    obtain⟨k,hk,_⟩:=xq (wz p 2) (ay p.t) (by unfold pJ at h;omega);exact .inr (.inl ⟨_,k,.inr rfl,hk⟩)
   ·split
    ·rename_i h
     obtain⟨k,hk,h3⟩:=xq (wz p 3) (ay p.t) (by unfold pJ at h;omega);have h3:Xn p k=true:=h3;unfold Xn at h3
     split at h3
     ·cases h3
     ·rename_i h0
      have hx: ∃x,eI (fI p.aU k.a) 0=some x∧E3 p k.a=x:=by
       unfold E3 at h0 ⊢
       split
       ·rename_i hh
        obtain⟨x,hx⟩:=gj (l:=fI p.aU k.a) (i:=0) az az;exact⟨x,hx,by rw[hx]⟩
       ·rename_i hh;rw[aK hh] at h0;exact absurd rfl h0
      obtain⟨x,hx1,Oz⟩:=hx;exact .inr (.inr (.inl ⟨_,k,x,rfl,hk,hx1,Oz⟩))
    ·split
     ·rename_i h
      obtain⟨a,ha,_⟩:=xq (Gf p) p.aU (by unfold PB at h;omega);exact .inr (.inr (.inr ⟨_,a,rfl,ha⟩))
     ·exact .inl rfl
 ·exact .inl rfl
theorem aeq (p:bg) (k:Key):aQ (Ma p k).1≤aQ p+520:=by
 have h1:=xz p.t (jy k);have h2:=xz (bB p.t (jy k)).1 (KC p k);unfold Ma aQ;simp only[];omega
theorem agh (p:bg) (id:Int):aQ (abG p id).1≤aQ p:=by
 have:=Zx p.aU id;unfold abG aQ;simp only[];omega
theorem wN {p:bg} {j i:Int} {X:bg×Bool} (h:gD p=(j,i)) (hj: ¬j=0) (hX:Mb p j i=X):kr p=yU p X:=by
 unfold kr;rw[h,aK hj,hX]
theorem Ui {p:bg} {j i:Int} {k:Key} (hj:j=1∨j=2) (hk:eI (ay p.t) i=some k):Mb p j i=g6 p (jy k):=by
 unfold Mb Oy;rw[aK az,aK az,hk]
theorem ZP {p:bg} {i:Int} {k:Key} (hk:eI (ay p.t) i=some k):Mb p 3 i=Ma p k:=by
 unfold Mb Oy;rw[aK az,aT rfl,hk]
theorem abW {p:bg} {i:Int} {a:mw} (ha:eI p.aU i=some a):Mb p 4 i=abG p a.id:=by
 unfold Mb;rw[aT rfl,ha]
theorem AV (p:bg) (hS:aQ p≤4194304) (k:Key):ai C wK [.bx (yN p),AJ k] (vB (g6 p (jy k)).2) [.bx (yN (g6 p (jy k)).1)]:=
 (Rc _ _ _ _ _ _ _ _ _ _ _ _ ⟨_,_,_,_,_,_,_,rP p hS (jy k),rfl,by trivial⟩).run
theorem HX (p:bg) (hS:aQ p≤1048576):ai C xH [dK p] (tPB (kr p)) []:=by
 have Z7:aQ p≤4194304:=by omega
 have hP:=eF Z7;have htl:=gZ p.t;have Wa:=cv p Z7;have hns:=Jk p Z7;have hkk:=jf p.t az;refine(LD _ _ _ _ _ _ _ ?_).run;rcases Qg p with h0|⟨i,k,hn,hk⟩|⟨i,k,x,hn,hk,hx,he⟩|⟨i,a,hn,ha⟩
 ·have hps:kr p=(p,false):=by unfold kr;rw[h0];rfl
  rw[h0] at hns;rw[hps];exact eG
 ·have hrk:rowAt ((ay p.t).map bG) i=some [iI k.b,iI k.a,iI k.k,iI k.c,iI k.g]:=by rw[aY,hk];rfl
  rcases hn with hn|hn
  ·rw[hn] at hns
   have hj:(1:Int)=1∨(1:Int)=2:= .inl rfl;have hps:=wN hn az rfl;rw[hps];have hsz:=xA p (jy k);have hrun:=AV p Z7 k;rw[Ui hj hk];generalize g6 p (jy k)=X at*;have pk:=fO X.1 az
   cases hb:X.2 with
   |false=>
    rw[hb] at hrun;rw[AS hb];exact eG
   |true=>
    rw[hb] at hrun
    cases hg:cr X.1 with
    |false=>
     rw[hg] at pk;rw[AT hg];exact eG
    |true=>
     rw[hg] at pk;rw[AU hb hg];exact eG
  ·rw[hn] at hns
   have hj:(2:Int)=1∨(2:Int)=2:= .inr rfl;have hps:=wN hn az rfl;rw[hps];have hsz:=xA p (jy k);have hrun:=AV p Z7 k;rw[Ui hj hk];generalize g6 p (jy k)=X at*;have pk:=fO X.1 az
   cases hb:X.2 with
   |false=>
    rw[hb] at hrun;rw[AS hb];exact eG
   |true=>
    rw[hb] at hrun
    cases hg:cr X.1 with
    |false=>
     rw[hg] at pk;rw[AT hg];exact eG
    |true=>
     rw[hg] at pk;rw[AU hb hg];exact eG
 ·have hrk:rowAt ((ay p.t).map bG) i=some [iI k.b,iI k.a,iI k.k,iI k.c,iI k.g]:=by rw[aY,hk];rfl
  rw[hn] at hns;have hps:=wN hn az (ZP hk);have hsz:=aeq p k;have h1:=xz p.t (jy k);have tp:=qv p.t (jy k) az;have tq:=qv (bB p.t (jy k)).1 (KC p k) az;have kd:=Cu p Z7 k.a;have pk:=fO (Ma p k).1 az;rw[hps];unfold KC at tq
  cases hb1:(bB p.t (jy k)).2 with
  |false=>
   rw[AS (by unfold Ma;simp only[];rw[hb1];rfl)];obtain⟨T,hT⟩: ∃T,bB p.t (jy k)=(T,false):=⟨(bB p.t (jy k)).1,by rw[←hb1]⟩;rw[hT] at tp tq;exact eG
  |true=>
   obtain⟨T,hT⟩: ∃T,bB p.t (jy k)=(T,true):=⟨(bB p.t (jy k)).1,by rw[←hb1]⟩;rw[hT] at tp tq;simp only[] at tq;obtain⟨U,c,hU⟩: ∃U c,bB T ⟨k.b,E3 p k.a,k.k,k.c,k.g⟩=(U,c):=⟨_,_,rfl⟩;rw[hU] at tq
   have hM:Ma p k=(⟨U,p.aU,p.cells,p.aq,p.next⟩,c):=by unfold Ma KC;rw[hT];simp only[];rw[hU];rfl
   rw[hM] at pk ⊢
   cases c with
   |false=>
    rw[AS rfl];exact eG
   |true=>
    cases hg:cr ⟨U,p.aU,p.cells,p.aq,p.next⟩ with
    |false=>
     rw[AT hg];rw[hg] at pk;exact eG
    |true=>
     rw[AU rfl hg];rw[hg] at pk;exact eG
 ·have hra:rowAt (p.aU.map bS) i=some [iI a.id,iI a.fr]:=by rw[aY,ha];rfl
  rw[hn] at hns;have hps:=wN hn az (abW ha);have hrun:=MO p.aU a.id az;have hsz:=agh p a.id;have pk:=fO (abG p a.id).1 az;rw[hps];unfold abG at pk ⊢;generalize ur p.aU a.id=Y at*;obtain⟨Y,b⟩:=Y
  cases b with
  |false=>
   rw[AS rfl];exact eG
  |true=>
   cases hg:cr ⟨p.t,Y,p.cells,p.aq,p.next⟩ with
   |false=>
    rw[AT hg];simp only[] at pk;rw[hg] at pk;exact eG
   |true=>
    rw[AU rfl hg];simp only[] at pk;rw[hg] at pk;exact eG
theorem qw {p:bg} {o:JW} (h:Xl o=true) (hp:cr p=true):pE p o=
 (if o.kind=1 then yR p o.name o.a else if o.kind=2 then L7 p o.name o.to (decide (o.b=1)) else if o.kind=3 then I2 p o.name
  else if o.kind=4 then sq p o.name o.a o.b else if o.kind=5 then qc p o.name o.a else if o.kind=6 then tw p o.name o.a
  else if o.kind=7 then vV (kr p) else if o.kind=8 then vV (qa p o.a) else vV (jC p o.a)):=by
 unfold pE;rw[aT ⟨h,hp⟩]
theorem Qh {p:bg} {o:JW} (h: ¬(Xl o=true∧cr p=true)):pE p o=(p,1):=by
 unfold pE;rw[aK h]
theorem abX {o:JW} (h:Xl o=true):o.kind=1∨o.kind=2∨o.kind=3∨o.kind=4∨o.kind=5∨o.kind=6∨o.kind=7∨o.kind=8∨o.kind=9:=by
 unfold Xl g8 at h;simp only[dW,decide_eq_true_eq] at h;omega
theorem uA (p:bg) (o:JW) (hS:aQ p≤1048576) (hk:o.kind=7∨o.kind=8∨o.kind=9):ai C B9 [dK p,.ag (Ku o)] (tPB (if o.kind=7 then kr p else if o.kind=8 then qa p o.a else jC p o.a)) []:=by
 have r1:=HX p hS;have r2:=Jn p o.a az;have r3:=Jp p o.a hS;obtain⟨k,s,t,a,b⟩:=o;refine(Q9 _ _ _ _ _ _ _ _ _ _ _ _ ?_).run;simp only[] at hk r1 r2 r3 ⊢;rcases hk with rfl|rfl|rfl
 ·rw[aT rfl]
  exact eG
 ·rw[aK (by decide),aT rfl]
  exact eG
 ·rw[aK (by decide),aK (by decide)]
  exact eG
theorem Qi (p:bg) (o:JW) (hS:aQ p≤1048576) (h1:o.name.size≤1048576) (h2:o.to.size≤1048576):ai C HN [dK p,.ag (Ku o)] (Xt (pE p o)) []:=by
 have Z7:aQ p≤4194304:=by omega
 have Wa:=cv p Z7;have hop:=R1 o az az;have hok:=fO p Z7
 cases h3:Xl o with
 |false=>
  rw[h3] at hop;rw[Qh fun h=>by rw[h3] at h;cases h.1];refine(Cj _ _ _ _ _ _ _ _ _ _ _ _ ?_).run;exact eG
 |true=>
 cases h4:cr p with
 |false=>
  rw[h3] at hop;rw[h4] at hok;rw[Qh fun h=>by rw[h4] at h;cases h.2];refine(Cj _ _ _ _ _ _ _ _ _ _ _ _ ?_).run;exact eG
 |true=>
 rw[h3] at hop;rw[h4] at hok;have hkd:=abX h3;obtain⟨k,s,t,a,b⟩:=o;simp only[] at hkd h1 h2;refine(Cj _ _ _ _ _ _ _ _ _ _ _ _ ?_).run;rcases hkd with rfl|rfl|rfl|rfl|rfl|rfl|rfl|rfl|rfl
 ·have e:pE p ⟨1,s,t,a,b⟩=yR p s a:=by rw[qw h3 h4,aT rfl]
  rw[e];have r:=ML p s a hS h1;exact eG
 ·have e:pE p ⟨2,s,t,a,b⟩=L7 p s t (decide (b=1)):=by rw[qw h3 h4,aK (show ¬((2:Int)=1) by decide),aT rfl]
  rw[e];have r:=R4 p s t (decide (b=1)) hS h1 h2;rw[←bV] at r ⊢;exact eG
 ·have e:pE p ⟨3,s,t,a,b⟩=I2 p s:=by rw[qw h3 h4,aK (show ¬((3:Int)=1) by decide),aK (show ¬((3:Int)=2) by decide),aT rfl]
  rw[e];have r:=R2 p s az az;exact eG
 ·have e:pE p ⟨4,s,t,a,b⟩=sq p s a b:=by rw[qw h3 h4,aK (show ¬((4:Int)=1) by decide),aK (show ¬((4:Int)=2) by decide),aK (show ¬((4:Int)=3) by decide),aT rfl]
  rw[e];have r:=Qf p s a b hS h1;exact eG
 ·have e:pE p ⟨5,s,t,a,b⟩=qc p s a:=by rw[qw h3 h4,aK (show ¬((5:Int)=1) by decide),aK (show ¬((5:Int)=2) by decide),aK (show ¬((5:Int)=3) by decide),aK (show ¬((5:Int)=4) by decide),aT rfl]
  rw[e];have r:=K5 p s a hS h1;exact eG
 ·have e:pE p ⟨6,s,t,a,b⟩=tw p s a:=by rw[qw h3 h4,aK (show ¬((6:Int)=1) by decide),aK (show ¬((6:Int)=2) by decide),aK (show ¬((6:Int)=3) by decide),aK (show ¬((6:Int)=4) by decide),aK (show ¬((6:Int)=5) by decide),aT rfl]
  rw[e];have r:=MN p s a hS h1;exact eG
 ·have e:pE p ⟨7,s,t,a,b⟩=vV (kr p):=by rw[qw h3 h4,aK (show ¬((7:Int)=1) by decide),aK (show ¬((7:Int)=2) by decide),aK (show ¬((7:Int)=3) by decide),aK (show ¬((7:Int)=4) by decide),aK (show ¬((7:Int)=5) by decide),aK (show ¬((7:Int)=6) by decide),aT rfl]
  rw[e];have r:=uA p ⟨7,s,t,a,b⟩ hS cE;rw[aT (show(7:Int)=7 from rfl)] at r;generalize kr p=Y at*;obtain⟨Y,c⟩:=Y;unfold vV
  cases c with
  |false=>
   rw[aK cE];exact eG
  |true=>
   rw[aT rfl];exact eG
 ·have e:pE p ⟨8,s,t,a,b⟩=vV (qa p a):=by rw[qw h3 h4,aK (show ¬((8:Int)=1) by decide),aK (show ¬((8:Int)=2) by decide),aK (show ¬((8:Int)=3) by decide),aK (show ¬((8:Int)=4) by decide),aK (show ¬((8:Int)=5) by decide),aK (show ¬((8:Int)=6) by decide),aK (show ¬((8:Int)=7) by decide),aT rfl]
  rw[e];have r:=uA p ⟨8,s,t,a,b⟩ hS cE;rw[aK (show ¬((8:Int)=7) by decide),aT (show(8:Int)=8 from rfl)] at r;generalize qa p a=Y at*;obtain⟨Y,c⟩:=Y;unfold vV
  cases c with
  |false=>
   rw[aK cE];exact eG
  |true=>
   rw[aT rfl];exact eG
 ·have e:pE p ⟨9,s,t,a,b⟩=vV (jC p a):=by rw[qw h3 h4,aK (show ¬((9:Int)=1) by decide),aK (show ¬((9:Int)=2) by decide),aK (show ¬((9:Int)=3) by decide),aK (show ¬((9:Int)=4) by decide),aK (show ¬((9:Int)=5) by decide),aK (show ¬((9:Int)=6) by decide),aK (show ¬((9:Int)=7) by decide),aK (show ¬((9:Int)=8) by decide)]
  rw[e];have r:=uA p ⟨9,s,t,a,b⟩ hS cE;rw[aK (show ¬((9:Int)=7) by decide),aK (show ¬((9:Int)=8) by decide)] at r;generalize jC p a=Y at*;obtain⟨Y,c⟩:=Y;unfold vV
  cases c with
  |false=>
   rw[aK cE];exact eG
  |true=>
   rw[aT rfl];exact eG
attribute [local semireducible] Ru in
theorem akn (l:List JW):au (l.map Ku) 0 (Ru (Int.ofNat (List.length (l.map Ku))) 200)=(l.take 200).map Ku∧ew 0 (Ru (Int.ofNat (List.length (l.map Ku))) 200) (Int.ofNat (List.length (l.map Ku)))=true:=by
 rw[cn]
 have hm:Ru (Int.ofNat l.length) 200=((min l.length 200:Nat):Int):=by
  unfold Ru;rw[oD]
  split<;>omega
 rw[hm,bZ,E0];refine⟨?_,iK (by simp only[oD];omega)⟩;rw[pT,show(0:Int).toNat=0 from rfl,List.drop_zero]
 by_cases h:l.length≤200
 ·rw[ack az,ack h]
 ·rw[show min l.length 200=200 from by omega]
theorem aa0 (b:List Int) (hb:b.length≤1048576):aZ C ia [th b] (fun r fs=>fs=[]∧ ∃h,r=kJ b 0 h):=by
 refine VO _ _ ?_
 have key: ∀(d i:Nat) (h:Int),i+d=4000→ah C ia aj 4 0 (tK (b.map jY) h (i:Int)) (fun x st=>aD C ia aj x st fun r fs=>fs=[]∧ ∃h,r=kJ b 0 h):=by
  intro d
  induction d with
  |zero=>
   intro i h hd;refine FR _ _ _ _ ?_
   by_cases h1:(i:Int)<(b.length:Int)
   ·exact aa lu (av lu (QF _ _ _ _ ⟨rfl,_,rfl⟩))
   ·exact av lu (FT _ _ _ _ ⟨rfl,_,rfl⟩)
  |succ d ih=>
   intro i h hd;refine FR _ _ _ _ ?_
   by_cases h1:(i:Int)<(b.length:Int)
   ·refine aa lu (aa lu ⟨b[i]'az,by rw[aY,aN,bH az];rfl,?_⟩)
    rw[aO (a:=(i:Int)) az];exact ih (i+1) _ az
   ·exact av lu (FT _ _ _ _ ⟨rfl,_,rfl⟩)
 exact key 4000 0 _ rfl
theorem Jq (b:List Int) (i h:Int) (hi:0≤i) (hb:b.length≤1048576):aZ C sL [kJ b i h] (Dr b fun r=> ∃x,r=vI x∧0≤x∧x≤255):=by
 refine SB _ _ _ _ ?_
 by_cases h1:i<(b.length:Int)
 ·obtain⟨x,hx⟩:=gj hi h1
  refine aa lu ⟨x,by rw[aY,hx];rfl,aE i 1,_,?_,rfl,_,rfl,adT _⟩;rw[aO az];omega
 ·exact av lu ⟨i,_,hi,rfl,_,rfl,adT _⟩
theorem cm (b:List Int) (i h:Int) (hi:0≤i) (hb:b.length≤1048576) (n:Int) (hn:n≤16777216):aZ C aP [kJ b i h,vI n] (Dr b fun r=> ∃x,r=vI x∧0≤x∧(0<n→x<n)):=by
 refine QG _ _ _ _ _ ?_
 by_cases h0:n≤0
 ·exact aa lu ⟨i,h,hi,rfl,0,rfl,Int.le_refl _,fun h=>by omega⟩
 refine av lu ?_
 by_cases h1:n≤256
 ·obtain⟨_,_,hr,i1,Bw,hi1,rfl,x,rfl,x0,x1⟩:=Jq b i h hi hb
  refine aa lu ⟨x,_,i1,Bw,hr,av lu ⟨i1,Bw,hi1,rfl,_,rfl,?_⟩⟩;rw[aaK];have:=Xu x0 (show 0<n by omega);exact⟨this.1,fun _=>this.2⟩
 ·obtain⟨_,_,hr,i1,Bw,hi1,rfl,x,rfl,x0,x1⟩:=Jq b i h hi hb
  obtain⟨_,_,Mg,i2,OA,hi2,rfl,y,rfl,y0,y1⟩:=Jq b i1 Bw hi1 hb;obtain⟨_,_,hr3,i3,ZZ,vL,rfl,z,rfl,z0,z1⟩:=Jq b i2 OA hi2 hb;refine av lu ⟨x,_,i1,Bw,hr,y,_,i2,OA,Mg,z,_,i3,ZZ,hr3,av lu ⟨i3,ZZ,vL,rfl,_,rfl,?_⟩⟩;have e1:Hy x 65536=x*65536:=U3 az;have e2:Hy y 256=y*256:=U3 az;rw[aaK,e1,e2,aO (a:=x*65536) az,aO az];have:=Xu (show 0≤x*65536+y*256+z by omega) (show 0<n by omega);exact⟨this.1,fun _=>this.2⟩
theorem X9 (b:List Int) (i h:Int) (hi:0≤i) (hb:b.length≤1048576) (n:Int) (hn:n≤16777216):aZ C yX [kJ b i h,vI n] (Dr b fun r=> ∃x,r=vB x):=by
 obtain⟨_,_,hr,i1,Bw,hi1,rfl,x,rfl,x0,x1⟩:=cm b i h hi hb n hn;exact Sg _ _ _ _ _ ⟨x,_,i1,Bw,hr,i1,Bw,hi1,rfl,_,rfl⟩
theorem iF (b:List Int) (i h:Int) (hi:0≤i) (hb:b.length≤1048576) (l:List Int) (h0:0<l.length) (hl:l.length≤1000):aZ C ck [kJ b i h,qP l] (Dr b fun r=> ∃x,r=vI x∧x∈l):=by
 obtain⟨_,_,hr,i1,Bw,hi1,rfl,x,rfl,x0,x1⟩:=cm b i h hi hb (l.length:Int) az;have:=x1 az;obtain⟨y,hy⟩:=gj x0 this;refine VS _ _ _ _ _ ⟨x,_,i1,Bw,by rw[cn];exact hr,y,by rw[aY,hy];rfl,i1,Bw,hi1,rfl,y,rfl,uW hy⟩
theorem HY:ai C uL [] (mE (List.replicate 24 (⟨0,false,0⟩:Cell))) []:=by
 refine(Ee _ ?_).run
 first
  |exact aa cE ⟨by simp[afH];rfl,rfl⟩
  |(simp;exact fG)
  |(simp;rfl)
theorem aer (b:List Int) (i h:Int) (hi:0≤i) (hb:b.length≤1048576):aZ C j6 [kJ b i h] (Dr b fun r=> ∃l,r=mE l∧l.length=24):=by
 obtain⟨_,_,hr,i1,Bw,hi1,rfl,x,rfl,x0,x1⟩:=cm b i h hi hb 30 az;refine S2 _ _ _ _ ⟨_,HY,x,_,i1,Bw,hr,?_⟩
 have key: ∀(d:Nat) (i h:Int) (l:List Cell),0≤i→d≤30→l.length=24→ah C j6 aj 4 0 (oT (d:Int) (b.map jY) i h (l.map bR)) (fun x st=>aD C j6 aj x st (Dr b fun r=> ∃l,r=mE l∧l.length=24)):=by
  intro d
  induction d with
  |zero=>
   intro i h l hi hd hl;exact Eg _ _ _ _ _ _ (av cE (N3 _ _ _ _ _ _ _ ⟨i,h,hi,rfl,l,rfl,hl⟩))
  |succ d ih=>
   intro i h l hi hd hl;obtain⟨_,_,hr,i1,Bw,hi1,rfl,x,rfl⟩:=X9 b i h hi hb 3 az;have e:dV ((d+1:Nat):Int) 1=(d:Int):=(dL az).trans az;refine Eg _ _ _ _ _ _ (aa lu ⟨x,_,i1,Bw,hr,?_⟩);rw[e]
   cases x with
   |true=>
    obtain⟨_,_,Mg,i2,OA,hi2,rfl,y,rfl,y0,y1⟩:=cm b i1 Bw hi1 hb 6 az;exact aa rfl ⟨y,_,i2,OA,Mg,_,tH l y az,ih _ _ _ hi2 az (by rw[BU];exact hl)⟩
   |false=>
    obtain⟨_,_,Mg,i2,OA,hi2,rfl,y,rfl,hy⟩:=iF b i1 Bw hi1 hb [0,5,65535] cE cE;exact av rfl ⟨y,_,i2,OA,Mg,_,_,_,tI l y az,ih _ _ _ hi2 az (by rw[I1];exact hl)⟩
 have:=x1 az;obtain⟨d,rfl⟩: ∃d:Nat,x=(d:Int):=⟨x.toNat,by omega⟩;exact key d _ _ _ hi1 az cE
theorem agi (b:List Int) (i h:Int) (hi:0≤i) (hb:b.length≤1048576):aZ C B7 [kJ b i h] (Dr b fun r=> ∃l,r=mE l∧l.length≤24):=by
 obtain⟨_,_,hr,i1,Bw,hi1,rfl,l,rfl,hl⟩:=aer b i h hi hb;obtain⟨_,_,Mg,i2,OA,hi2,rfl,x,rfl,x0,x1⟩:=cm b i1 Bw hi1 hb 10 az;obtain⟨_,_,hr3,i3,ZZ,vL,rfl,y,rfl,y0,y1⟩:=cm b i2 OA hi2 hb (l.length:Int) az;have hy:=y1 az;refine VX _ _ _ _ ⟨_,_,i1,Bw,hr,x,_,i2,OA,Mg,?_⟩
 (try dsimp only)
 rw[cn];refine bA (fun e0=> ?_) fun e0=>bA (fun e1=> ?_) fun e1=>bA (fun e2=> ?_) fun e2=>bA (fun e3=> ?_) fun e3=> ?_
 ·refine aa lu ⟨i2,OA,hi2,rfl,_,by rw[bZ],by simp<;>omega⟩
 ·obtain⟨_,_,hr4,i4,h4',Um,rfl,z,rfl,hz⟩:=iF b i3 ZZ vL hb [-1,999,1000] cE cE
  obtain⟨c,hc⟩:=gj y0 hy;refine⟨y,_,i3,ZZ,hr3,z,_,i4,h4',hr4,?_⟩;simp only[qp,hc,bq,eT];refine⟨i4,h4',Um,rfl,qo l y ⟨z,c.u,c.n⟩,?_,by rw[lE];omega⟩;rw[lF hc (a':=⟨z,c.u,c.n⟩) rfl]
 ·obtain⟨_,_,hr4,i4,h4',Um,rfl,z,rfl,hz⟩:=iF b i3 ZZ vL hb [-1,5,65536] cE cE
  obtain⟨c,hc⟩:=gj y0 hy;refine⟨y,_,i3,ZZ,hr3,z,_,i4,h4',hr4,?_⟩;simp only[qp,hc,bq,eT];refine⟨i4,h4',Um,rfl,qo l y ⟨c.g,c.u,z⟩,?_,by rw[lE];omega⟩;rw[lF hc (a':=⟨c.g,c.u,z⟩) rfl]
 ·obtain⟨c,hc⟩:=gj (l:=l) (i:=0) az az
  simp only[qp,hc,bq,eT];refine⟨i2,OA,hi2,rfl,qo l 0 ⟨999,c.u,c.n⟩,?_,by rw[lE];omega⟩;rw[lF hc (a':=⟨999,c.u,c.n⟩) rfl]
 ·exact⟨i2,OA,hi2,rfl,l,rfl,by omega⟩
theorem agj (b:List Int):ai C Jf [th b] (vB (decide (1048576<b.length))) []:=by
 refine(ZY _ _ ⟨?_,by trivial⟩).run;simp<;>omega
def ah8 (s:ByteArray):List TC:=[.sc (.string s)]
theorem agk {l:List ByteArray} {i:Int} {s:ByteArray} (h:eI l i=some s):rowAt (l.map ah8) i=some [.sc (.string s)]:=by rw[aY,h];rfl
theorem agl {l:List Int} {x lo hi:Int} (h:x∈l) (ha:l.all (fun y=>decide (lo≤y∧y≤hi))=true):lo≤x∧x≤hi:=qM (List.all_eq_true.1 ha x h)
theorem ah9 {l:List ByteArray} {x:ByteArray} (h:x∈l) (ha:l.all mF=true):mF x=true:=List.all_eq_true.1 ha x h
theorem eo {l:List ByteArray} {x:ByteArray} (h:x∈l) (ha:l.all (fun s=>decide (s.size≤7))=true):x.size≤7:=qM (List.all_eq_true.1 ha x h)
attribute [local semireducible] dU in
theorem ajA {a:Int} (h0:0≤a) (h1:a≤9223372036854775807):dU .i64 a 12=a/12:=by
 show IntKind.i64.wrap (a.tdiv 12)=_;rw[Int.tdiv_eq_ediv_of_nonneg h0];exact IntWalk.i64_in _ az
theorem VA (b:List Int) (i h:Int) (hi:0≤i) (hb:b.length≤1048576) (l:List ByteArray) (h0:0<l.length) (hl:l.length≤1000):aZ C qd [kJ b i h,.c (.sub 1 (l.map ah8))] (Dr b fun r=> ∃x,r=vS x∧x∈l):=by
 obtain⟨_,_,hr,i1,Bw,hi1,rfl,x,rfl,x0,x1⟩:=cm b i h hi hb (l.length:Int) az;have:=x1 az;obtain⟨y,hy⟩:=gj x0 this;exact VU _ _ _ _ _ ⟨x,_,i1,Bw,by rw[cn];exact hr,y,agk hy,i1,Bw,hi1,rfl,y,rfl,uW hy⟩
theorem Ya (b:List Int) (n:Int) (h3:3≤n) (hn:n≤1000) (hb:b.length≤1048576): ∃x,3≤x∧x≤n∧ai C oh [th b,vI n] (vI x) []:=by
 have e:aE 3 (dU .i64 (Int.ofNat (b.map jY).length) 12)=3+(b.length:Int)/12:=by
  rw[ajA lu lu,aO lu];simp
 by_cases h:n<3+(b.length:Int)/12
 ·refine⟨n,h3,Int.le_refl _,(G6 _ _ _ (av cE ?_)).run⟩
  rw[e];exact aa (by simpa using h) fG
 ·refine⟨3+(b.length:Int)/12,by omega,by omega,(G6 _ _ _ (av cE ?_)).run⟩
  rw[e];exact av (by simpa using h) fG
theorem Jr (b:List Int) (i h:Int) (hi:0≤i) (hb:b.length≤1048576):aZ C sK [kJ b i h] (Dr b fun r=> ∃x,r=vI x∧0≤x∧x≤65535):=by
 refine SK _ _ _ _ ?_;refine cJ (cm b _ _ hi hb _ (by first|omega|(simp<;>omega))) fun n3 i1 h1 hi1 hx1=> ?_;refine cJ (iF b _ _ hi1 hb [0,1,2,7,65535,(aE 1 n3)] cE cE) fun n7 i2 h2 hi2 Oz=> ?_
 exact bW hi2 ⟨_,rfl,by
  have g2:=hx1.2 az;have g1:=hx1.1;rw[aO az] at Oz;simp only[ef,List.not_mem_nil,or_false] at Oz
  omega⟩
theorem Fq (b:List Int) (i h:Int) (hi:0≤i) (hb:b.length≤1048576):aZ C om [kJ b i h] (Dr b fun r=> ∃x,r=vS x∧mF x=true):=by
 refine SR _ _ _ _ ?_;refine HL (VA b _ _ hi hb [⟨#[97]⟩,⟨#[98]⟩,⟨#[99]⟩,⟨#[100]⟩,⟨#[101,53]⟩] cE cE) fun s3 i1 h1 hi1 hx1=> ?_;exact bW hi1 ⟨_,rfl,ah9 hx1 (by decide+kernel)⟩
theorem xM (b:List Int) (i h:Int) (hi:0≤i) (hb:b.length≤1048576):aZ C lI [kJ b i h] (Dr b fun r=> ∃x,r=TV.ag (bG x)∧eU x=true):=by
 refine Sm _ _ _ _ ?_;refine cJ (cm b _ _ hi hb _ (by first|omega|(simp<;>omega))) fun n3 i1 h1 hi1 hx1=> ?_;refine cJ (cm b _ _ hi1 hb _ (by first|omega|(simp<;>omega))) fun n7 i2 h2 hi2 Oz=> ?_;refine cJ (iF b _ _ hi2 hb [0,1,1,1,2] cE cE) fun n11 i3 h3 vL hx3=> ?_;refine bA (fun e=> ?_) fun e=> ?_
 ·refine cJ (cm b _ _ vL hb _ (by first|omega|(simp<;>omega))) fun n15 i4 h4 Um hx4=> ?_
  refine cJ (iF b _ _ Um hb [0,1,256,999] cE cE) fun n19 i5 h5 hi5 hx5=> ?_;have p1:=hx1.2 az;have p2:=Oz.2 az;have p3:=agl hx3 (lo:=0) (hi:=2) rfl;have q1:=hx1.1;have q2:=Oz.1;have p4:=hx4.2 az;have q4:=hx4.1;have p5:=agl hx5 (lo:=0) (hi:=999) rfl;have e1:=qM ((bV _ _).symm.trans e);exact bW hi5 ⟨⟨n3,aE 1 n7,n11,n15,n19⟩,rfl,by rw[aO az];exact aed az az az (.inl ⟨e1,by omega⟩)⟩
 ·have p1:=hx1.2 az
  have p2:=Oz.2 az;have p3:=agl hx3 (lo:=0) (hi:=2) rfl;have q1:=hx1.1;have q2:=Oz.1;have e1:=of_decide_eq_false ((bV _ _).symm.trans e);exact bW vL ⟨⟨n3,aE 1 n7,n11,0,0⟩,rfl,by rw[aO az];exact aed az az az (.inr ⟨e1,rfl,rfl⟩)⟩
theorem agm (b:List Int) (i h:Int) (hi:0≤i) (hb:b.length≤1048576):aZ C HQ [kJ b i h] (Dr b fun r=> ∃x,r=TV.ag (bG x)∧True):=by
 refine VP _ _ _ _ ?_;refine Fc (xM b _ _ hi hb) fun k1 i1 h1 hi1 hx1=> ?_;refine cJ (cm b _ _ hi1 hb _ (by first|omega|(simp<;>omega))) fun n11 i2 h2 hi2 Oz=> ?_;refine bA (fun e=> ?_) fun e=> ?_
 ·refine cJ (iF b _ _ hi2 hb [(-1),15,16] cE cE) fun n15 i3 h3 vL hx3=> ?_
  exact bW vL ⟨⟨n15,k1.a,k1.k,k1.c,k1.g⟩,rfl,trivial⟩
 ·refine bA (fun e=> ?_) fun e=> ?_
  ·refine cJ (iF b _ _ hi2 hb [0,60,61] cE cE) fun n19 i4 h4 Um hx4=> ?_
   exact bW Um ⟨⟨k1.b,n19,k1.k,k1.c,k1.g⟩,rfl,trivial⟩
  ·refine bA (fun e=> ?_) fun e=> ?_
   ·refine cJ (iF b _ _ hi2 hb [(-1),3] cE cE) fun n23 i5 h5 hi5 hx5=> ?_
    exact bW hi5 ⟨⟨k1.b,k1.a,n23,k1.c,k1.g⟩,rfl,trivial⟩
   ·refine bA (fun e=> ?_) fun e=> ?_
    ·refine cJ (iF b _ _ hi2 hb [(-1),1,23,24] cE cE) fun n27 i6 h6 hi6 hx6=> ?_
     exact bW hi6 ⟨⟨k1.b,k1.a,k1.k,n27,k1.g⟩,rfl,trivial⟩
    ·refine bA (fun e=> ?_) fun e=> ?_
     ·refine cJ (iF b _ _ hi2 hb [(-1),1,999,1000] cE cE) fun n31 i7 h7 hi7 hx7=> ?_
      exact bW hi7 ⟨⟨k1.b,k1.a,k1.k,k1.c,n31⟩,rfl,trivial⟩
     ·exact bW hi2 ⟨⟨k1.b,k1.a,k1.k,k1.c,k1.g⟩,rfl,trivial⟩
theorem agn (b:List Int) (i h:Int) (hi:0≤i) (hb:b.length≤1048576):aZ C Ca [kJ b i h] (Dr b fun r=> ∃x,r=TV.ag (bG x)∧eU x=true):=by
 refine VN _ _ _ _ ?_;refine Fc (xM b _ _ hi hb) fun k1 i1 h1 hi1 hx1=> ?_;refine cJ (cm b _ _ hi1 hb _ (by first|omega|(simp<;>omega))) fun n11 i2 h2 hi2 Oz=> ?_;exact bW hi2 ⟨⟨_,_,_,_,_⟩,rfl,af1 hx1 ⟨Oz.1,by have:=Oz.2 az;omega⟩⟩
theorem aes (b:List Int) (i h:Int) (hi:0≤i) (hb:b.length≤1048576) (n:Int) (h0:0≤n) (hn:n≤100):aZ C lJ [kJ b i h,vI n] (Dr b fun r=> ∃l:List Key,r=TV.c (TC.sub 5 (l.map bG))∧(l.length:Int)≤n):=by
 refine Si _ _ _ _ _ ?_;rw[aO az];refine cJ (cm b _ _ hi hb _ az) fun x i1 h1 hi1 hx=> ?_;have hx1:=hx.2 az
 have key: ∀(d:Nat) (i h:Int) (l:List Key),0≤i→(l.length:Int)+d≤n→ah C lJ aj 4 0 (rU (d:Int) (b.map jY) i h (l.map bG)) (fun x st=>aD C lJ aj x st (Dr b fun r=> ∃l:List Key,r=TV.c (TC.sub 5 (l.map bG))∧(l.length:Int)≤n)):=by
  intro d
  induction d with
  |zero=>
   intro i h l hi hl;exact DI _ _ _ _ _ _ (av cE (M7 _ _ _ _ _ _ _ (bW hi ⟨l,rfl,by omega⟩)))
  |succ d ih=>
   intro i h l hi hl;have e:dV ((d+1:Nat):Int) 1=(d:Int):=(dL az).trans az;refine DI _ _ _ _ _ _ (aa lu (Fc (xM b _ _ hi hb) fun k i2 h2 hi2 _=>⟨_,kL l k az,?_⟩));rw[e];exact ih _ _ _ hi2 (by have:=lZ l k;omega)
 obtain⟨d,rfl⟩: ∃d:Nat,x=(d:Int):=⟨x.toNat,by omega⟩;exact key d _ _ [] hi1 ie
theorem ago (b:List Int) (i h:Int) (hi:0≤i) (hb:b.length≤1048576) (n:Int) (h0:0≤n) (hn:n≤100):aZ C HP [kJ b i h,vI n] (Dr b fun r=> ∃l:List Key,r=TV.c (TC.sub 5 (l.map bG))∧(l.length:Int)≤n+1):=by
 refine VQ _ _ _ _ _ (Jd (e:=bG) (aes b _ _ hi hb n h0 hn) fun l i1 h1 hi1 hl=>cJ (cm b _ _ hi1 hb _ az) fun x i2 h2 hi2 hx=>bA (fun e0=> ?_) fun e0=>bA (fun e1=>bA (fun e2=> ?_) fun e2=> ?_) fun e1=> ?_)
 ·refine Fc (agm b _ _ hi2 hb) fun k i3 h3 vL _=>aa ?_ (bW vL ⟨l++[k],by simp[bG],by simp;omega⟩)
  rw[cM lu];simp
 ·have FX:1<l.length:=by have:(1:Int)<l.length:=by simpa using e2
                         omega
  have g0:eI l 0=some l[0]:=by rw[show(0:Int)=((0:Nat):Int) from rfl,aN];exact bH az
  have g1:eI l 1=some l[1]:=by rw[show(1:Int)=((1:Nat):Int) from rfl,aN];exact bH FX
  have r0:rowAt (l.map bG) 0=some (bG l[0]):=by rw[aY,g0];rfl
  have r1:rowAt (l.map bG) 1=some (bG l[1]):=by rw[aY,g1];rfl
  have s0:setRow (l.map bG) 0 0 (bG l[1])=(qo l 0 l[1]).map bG:=lF g0 (a':=l[1]) rfl
  have g2:eI (qo l 0 l[1]) 1=some l[1]:=by
   rw[show(1:Int)=((1:Nat):Int) from rfl,aN];unfold qo;rw[List.getElem?_set_ne cE,bH FX]
  have r2:rowAt ((qo l 0 l[1]).map bG) 1=some (bG l[1]):=by rw[aY,g2];rfl
  have r3:rowAt (setRow (l.map bG) 0 0 (bG l[1])) 1=some (bG l[1]):=by rw[s0];exact r2
  have s1:setRow ((qo l 0 l[1]).map bG) 1 0 (bG l[0])=(qo (qo l 0 l[1]) 1 l[0]).map bG:=lF g2 (a':=l[0]) rfl;refine⟨_,_,_,_,_,r0,_,_,_,_,_,r0,_,_,_,_,_,r1,_,_,_,_,_,r1,_,_,_,_,_,r0,_,_,_,_,_,r0,_,_,_,_,_,r3,_,_,_,_,_,r3,bW hi2 ⟨qo (qo l 0 l[1]) 1 l[0],?_,by rw[lE,lE];omega⟩⟩;show TV.c (TC.sub 5 (setRow (setRow (l.map bG) 0 0 (bG l[1])) 1 0 (bG l[0])))=_;rw[s0,s1]
 ·exact bW hi2 ⟨l,rfl,by omega⟩
 ·exact bW hi2 ⟨l,rfl,by omega⟩
theorem aet (b:List Int) (i h:Int) (hi:0≤i) (hb:b.length≤1048576):aZ C iV [kJ b i h] (Dr b fun r=> ∃x:List (List Key),r=TV.ag [TC.sub 1 (x.map eP)]∧ff x=true):=by
 refine Sc _ _ _ _ (cJ (cm b _ _ hi hb _ az) fun x i1 h1 hi1 hx=> ?_);have hx1:=hx.2 az
 have key: ∀(d:Nat) (i h:Int) (n:List (List Key)),d≤100→0≤i→ff n=true→ah C iV aj 4 0 (rQ (d:Int) (b.map jY) i h (n.map eP)) (fun x st=>aD C iV aj x st (Dr b fun r=> ∃x:List (List Key),r=TV.ag [TC.sub 1 (x.map eP)]∧ff x=true)):=by
  intro d
  induction d with
  |zero=>
   intro i h n hd hi hn;exact DD _ _ _ _ _ _ (av cE (MY _ _ _ _ _ _ _ (bW hi ⟨n,rfl,hn⟩)))
  |succ d ih=>
   intro i h n hd hi hn;have hs:=nN hn;have e:dV ((d+1:Nat):Int) 1=(d:Int):=(dL az).trans az;refine DD _ _ _ _ _ _ (aa lu (Fc (xM b _ _ hi hb) fun k i2 h2 hi2 _=>⟨_,_,qu n k az az,?_⟩));rw[e];exact ih _ _ _ az hi2 (Md hn k)
 obtain⟨d,rfl⟩: ∃d:Nat,x=(d:Int):=⟨x.toNat,by omega⟩
 cases d with
 |zero=>exact DC _ _ _ _ _ (av cE (MX _ _ _ _ _ _ (bW hi1 ⟨[],rfl,by decide+kernel⟩)))
 |succ d=>
  have e:dV ((d+1:Nat):Int) 1=(d:Int):=(dL az).trans az;refine DC _ _ _ _ _ (aa lu (Fc (xM b _ _ hi1 hb) fun k i2 h2 hi2 _=>⟨_,_,qu [] k (dm _) (dm _),?_⟩));rw[e];exact key d _ _ _ az hi2 (Md (by decide+kernel) k)
theorem Qj (n m:List (List Key)):aV (n++m)=aV n+aV m:=by
 unfold aV;rw[cT,wC];omega
theorem agp (b:List Int) (i h:Int) (hi:0≤i) (hb:b.length≤1048576):aZ C xG [kJ b i h] (Dr b fun r=> ∃x:List (List Key),r=TV.ag [TC.sub 1 (x.map eP)]∧aV x≤40):=by
 refine VK _ _ _ _ (Vn (aet b _ _ hi hb) fun n i1 h1 hi1 hn=>cJ (cm b _ _ hi1 hb _ az) fun x i2 h2 hi2 hx=> ?_);have hs:=nN hn;have hz:=ZE hn;refine bA (fun e0=> ?_) fun e0=>bA (fun e1=> ?_) fun e1=>bW hi2 ⟨n,rfl,by omega⟩
 ·refine Jd (e:=bG) (ago b _ _ hi2 hb 6 az az) fun l i3 h3 vL hl=>aa (cM lu) (bW vL ⟨n++[l],by simp[eP],?_⟩)
  rw[Qj]
  have:aV [l]=1+l.length:=by simp[aV,tot,cw]
  omega
 ·refine Fc (xM b _ _ hi2 hb) fun k i3 h3 vL _=> ?_
  obtain⟨_,_,hr,i4,h4,Um,rfl,k2,rfl,_⟩:=xM b i3 h3 vL hb;have hfit:fits (Nat.succ (Nat.succ (List.length (n.map eP)))) 24=true:=cM lu;refine⟨(TV.ag [TC.sub 1 ((n++[[k],[k2]]).map eP)],[kJ b i4 h4]),?_,?_,bW Um ⟨_,rfl,?_⟩⟩
  ·refine⟨k2.b,k2.a,k2.k,k2.c,k2.g,_,i4,h4,hr,?_⟩
   exact aa hfit (by simp[eP,bG])
  ·refine⟨k2.b,k2.a,k2.k,k2.c,k2.g,_,i4,h4,hr,(TV.ag [TC.sub 1 ((n++[[k],[k2]]).map eP)],[kJ b i4 h4]),?_,?_,rfl⟩
   ·exact aa hfit (by simp[eP,bG])
   ·exact aa hfit (by simp[eP,bG])
  ·rw[Qj]
   have:aV [[k],[k2]]=4:=by simp[aV,tot,cw]
   omega
theorem HZ:ai CA tE [] (eD ⟨[0],[[]]⟩) []:=(Oh _ fG).run
theorem Ch (b:List Int) (i h:Int) (hi:0≤i) (hb:b.length≤1048576) (n:Int) (hn:n≤16777216):aZ CA aP [kJ b i h,vI n] (Dr b fun r=> ∃x,r=vI x∧0≤x∧(0<n→x<n)):=agF (cm b i h hi hb n hn)
theorem aeu (b:List Int) (i h:Int) (hi:0≤i) (hb:b.length≤1048576):aZ CA Ca [kJ b i h] (Dr b fun r=> ∃x,r=TV.ag (bG x)∧eU x=true):=agF (agn b i h hi hb)
theorem K6 (t:Tree) (hl:t.ax.length≤1073741824∧t.nodes.length≤1073741824) (hs: ∀n∈t.nodes,n.length≤1073741824∧ ∀s∈n,s.length≤1073741824):ai CA cL [eD t] (eD t) []:=upA (rM t hl hs)
theorem AW (t:Tree) (hl:dx t≤1073741824):ai CA aJ [eD t] (vB (cP t)) []:=upA (rL t hl)
theorem R5 (b a k c g:Int) (q:Bool):ai CA sr [.ag [iI b,iI a,iI k,iI c,iI g]] (vB q) []↔q=eU ⟨b,a,k,c,g⟩:=⟨fun h=>(wM b a k c g q).1 (down zYr h),fun h=>upA ((wM b a k c g q).2 h)⟩
theorem Js (t:Tree) (b a:Int) (hl:t.ax.length≤1073741824):ai CA eJ [eD t,vI b,vI a] (vI (jx t b a)) []:=upA (uy t b a hl)
theorem AX (t:Tree) (hn:t.nodes.length≤1073741824) (hz:tot aV t.nodes≤1073740000):ai CA gv [eD t] (vI (GZ (mg t))) []:=upA (rO t hn hz)
theorem nP (n:List (List Key)) (hb:n.length≤1073741824) (hl:tot cw n≤1073741824) (q:RR):ai CA aR [.ag [.sub 1 (n.map eP)]] (.c (.sub 5 q)) []↔q=(aB n).map bG:=⟨fun h=>(eA n hb hl q).1 (down zYr h),fun h=>upA ((eA n hb hl q).2 h)⟩
theorem su (l:List Key) (hl:l.length≤1073741824):ai CA aF [dR l] (mW (cG l)) []:=upA (jh l hl)
theorem K7 (t0:Tree) (hw0:t0.ax.length=t0.nodes.length) (Rl:tot aV t0.nodes+t0.nodes.length≤1073700000):ai CA aG [eD t0] (eD (jV t0.nodes.length t0)) []:=by
 refine(Rh _ _ _ ⟨_,AX t0 az az,?_⟩).run
 have key: ∀(m:Nat) (t:Tree),t.nodes.length=m→t.ax.length=t.nodes.length→tot aV t.nodes+t.nodes.length≤1073700000→jV m t=jV t0.nodes.length t0→ah CA aG an 4 0 (nW (GZ (mg t)) (t.ax.map bI) (t.nodes.map aX)) (fun x st=>aD CA aG an x st fun r fs=>r=eD (jV t0.nodes.length t0)∧fs=[]):=by
  intro m
  induction m with
  |zero=>
   intro t hm hw hz he
   have hp:mg t=none:=by unfold mg;rw[hm];rfl
   rw[hp];exact uE _ _ _ _ (av (by simp[GZ]) (Bv _ _ _ _ _ ⟨by rw[←he];rfl,rfl⟩))
  |succ m ih=>
   intro t hm hw hz he;rw[uu] at he
   cases hp:mg t with
   |none=>
    rw[hp] at he;have he:t=jV t0.nodes.length t0:=he;exact uE _ _ _ _ (av (by simp[GZ]) (Bv _ _ _ _ _ ⟨by rw[←he],rfl⟩))
   |some i=>
   rw[hp] at he;have he:jV m (cC t i)=jV t0.nodes.length t0:=he;have hlt:=wW hp;show ah CA aG an 4 0 (nW (i:Int) (t.ax.map bI) (t.nodes.map aX)) _;obtain⟨a,ha⟩: ∃a,t.nodes[i]?=some a:=⟨_,bH az⟩;obtain⟨b,hb⟩: ∃b,t.nodes[i+1]?=some b:=⟨_,bH hlt.1⟩;have za:a.length+tot cw a≤tot aV t.nodes:=mX (w:=aV) ha;have zb:b.length+tot cw b≤tot aV t.nodes:=mX (w:=aV) hb;have la:=cR a;have lb:=cR b;have h6:=hlt.2
   rw[gl ha,gl hb] at h6
   have ea:aE (i:Int) 1=((i+1:Nat):Int):=by rw[aO az];omega
   have eb:aE (i:Int) 2=((i+2:Nat):Int):=by rw[aO az];omega
   have ra:rowAt (t.nodes.map aX) (i:Int)=some [TC.sub 1 (a.map eP)]:=by rw[aY,aN,ha];rfl
   have rb:rowAt (t.nodes.map aX) ((i+1:Nat):Int)=some [TC.sub 1 (b.map eP)]:=by rw[aY,aN,hb];rfl
   have c1:au (t.ax.map bI) 0 ((i+1:Nat):Int)=(t.ax.take (i+1)).map bI:=by rw[bZ];rfl
   have c2:au (t.ax.map bI) ((i+2:Nat):Int) (Int.ofNat (t.ax.map bI).length)=(t.ax.drop (i+2)).map bI:=by
    rw[bZ,cn,pT,show(Int.ofNat t.ax.length).toNat=t.ax.length from rfl,sQ]
   have c3:au (t.nodes.map aX) 0 (i:Int)=(t.nodes.take i).map aX:=by rw[bZ];rfl
   have c4:au (t.nodes.map aX) ((i+2:Nat):Int) (Int.ofNat (t.nodes.map aX).length)=(t.nodes.drop (i+2)).map aX:=by
    rw[bZ,cn,pT,show(Int.ofNat t.nodes.length).toNat=t.nodes.length from rfl,sQ]
   have hlo:i<t.ax.length:=by omega
   have eL:List.append ((t.ax.take (i+1)).map bI) ((t.ax.drop (i+2)).map bI)=(cC t i).ax.map bI:=by
    rw[jZ];unfold cC mD;simp only[];rw[List.take_add_one,qK,bH hlo];simp
   have eN:List.append (List.append ((t.nodes.take i).map aX) [[TC.sub 1 ((cG (aB a++aB b)).map eP)]]) ((t.nodes.drop (i+2)).map aX)=(cC t i).nodes.map aX:=by
    rw[AL,jZ];unfold cC mD;simp only[];rw[gl ha,gl hb]
   have hsz:=yV hlt.1;have hjl:=tj hlt.1
   have hjw:(cC t i).ax.length+1=t.ax.length:=by
    have:=xy t i 2 [t.ax.getD i 0] [cG (iY t i++iY t (i+1))] az;unfold cC;simp only[fY] at this;omega
   have k1:(t.ax.take (i+1)).length≤t.ax.length:=by rw[gz];omega
   have k2:(t.ax.drop (i+2)).length≤t.ax.length:=by rw[lD];omega
   have k3:(t.nodes.take i).length≤t.nodes.length:=by rw[gz];omega
   have k4:(t.nodes.drop (i+2)).length≤t.nodes.length:=by rw[lD];omega
   refine uE _ _ _ _ (aa cE ?_);rw[ea,eb];refine⟨_,ra,_,ra,_,rb,_,rb,_,(nP a az az _).2 rfl,_,(nP b az az _).2 rfl,?_⟩
   (try dsimp only)
   rw[jZ,c1,c2,c3,c4]
   refine aa (by rw[lM,cM (by simp only[cn,pU];omega)];rfl) (aa lu (aa lu (aa (by rw[kk,cM (by simp only[cn,pU];omega)];rfl) (aa (by rw[kk,cM (by simp only[cn,pU];omega)];rfl)
    (aa lu (aa lu (aa (cM (by simp only[cn,pU];omega)) ⟨_,su (aB a++aB b) (by rw[cT];omega),aa (cM (by simp only[cn,Nat.succ_eq_add_one];omega)) ?_⟩)))))))
   rw[eL,eN];refine aa (cM (by rw[AL];simp only[cn,cT,fY,pU];omega)) ⟨_,AX (cC t i) az az,?_⟩;exact ih (cC t i) az az az he
 exact key t0.nodes.length t0 rfl hw0 Rl rfl
theorem Jt (n:List (List Key)) (k:Key) (hb:n.length≤1073740000) (hl:tot cw n≤1073740000):ai CA oA [mW n,AJ k] (tNB (cH n k)) []:=upA (qu n k hb hl)
theorem vE (t:Tree) (i:Nat) (lw:List Int) (nd:List (List (List Key))) (h1:i+1≤t.ax.length) (h2:i+1≤t.nodes.length) (hl:t.ax.length≤1073741824) (hn:t.nodes.length≤1073741824) (hlw:lw.length≤1073741824) (Wb:nd.length≤1073741824):ai CA bn [eD t,vI (i:Int),qP lw,adK nd] (eD (mD t i 1 lw nd)) []:=by
 have e1:au (t.ax.map bI) 0 (i:Int)=(t.ax.take i).map bI:=by rw[bZ];rfl
 have e2:au (t.ax.map bI) ((i:Int)+1) (Int.ofNat (t.ax.map bI).length)=(t.ax.drop (i+1)).map bI:=by
  rw[bZ,cn,show((i:Int)+1).toNat=i+1 from by omega,show(Int.ofNat t.ax.length).toNat=t.ax.length from rfl,sQ]
 have e3:au (t.nodes.map aX) 0 (i:Int)=(t.nodes.take i).map aX:=by rw[bZ];rfl
 have ea:aE (i:Int) 1=(i:Int)+1:=aO az
 have k1:(t.ax.take i).length≤t.ax.length:=by rw[gz];omega
 have k2:(t.ax.drop (i+1)).length≤t.ax.length:=by rw[lD];omega
 have k3:(t.nodes.take i).length≤t.nodes.length:=by rw[gz];omega
 have k4:(t.nodes.drop (i+1)).length≤t.nodes.length:=by rw[lD];omega
 have e4:au (t.nodes.map aX) ((i:Int)+1) (Int.ofNat (t.nodes.map aX).length)=(t.nodes.drop (i+1)).map aX:=by
  rw[bZ,cn,show((i:Int)+1).toNat=i+1 from by omega,show(Int.ofNat t.nodes.length).toNat=t.nodes.length from rfl,sQ]
 refine(Td _ _ _ _ _ _ ?_).run;rw[ea,e1,e2,e3,e4,jZ,jZ,jZ,jZ]
 refine aa lu (aa lu (aa (by rw[kk,cM lu];rfl) (aa (by rw[kk,cM (by simp only[cn,pU];omega)];rfl) (aa (by rw[kk,cM (by simp only[cn,cT,pU];omega)];rfl)
  (aa lu (aa lu (aa (cM lu) (aa (cM (by simp only[cn,pU];omega)) (aa (cM (by simp only[cn,cT,pU];omega)) ?_)))))))))
 exact fG
theorem Qk (l:List Key) (hl:l.length≤1073741824):ai CA cZ [dR l] (dR (ko l)) []:=upA (uM l hl)
theorem K8 (l:List Key) (x:Key) (hl:l.length≤1073741824):ai CA bJ [dR l,AJ x] (dR (eE l x)) []:=upA (kL l x hl)
theorem Ql (b a k c g q:Int):ai CA ij [.ag [iI b,iI a,iI k,iI c,iI g]] (vI q) []↔q=c7 b a:=⟨fun h=>(uO b a k c g q).1 (down zYr h),fun h=>upA ((uO b a k c g q).2 h)⟩
theorem Ju (t:Tree) (k:Key) (hz:dx t≤4194304) (hroom:cP t=true→eU k=true→(ko (eE (ay t) k)).length≤60):ai CA jd [eD t,AJ k] (Ex (bB t k)) []:=by
 have hN:=y7 hz;have Wa:ai CA cL [eD t] (eD t) []:=K6 t hN.1 hN.2;refine(Oi _ _ _ _ _ _ _ _ ⟨_,_,Wa,_,AW t az,?_⟩).run
 cases h1:cP t with
 |false=>exact aa rfl ⟨by unfold bB;rw[aK (by rw[h1];simp)],rfl⟩
 |true=>
 refine av rfl ⟨_,(R5 _ _ _ _ _ _).2 rfl,?_⟩;change aC (!eU k) _ _
 cases h2:eU k with
 |false=>exact aa rfl ⟨by unfold bB;rw[aK (by rw[h2];simp)],rfl⟩
 |true=>
 obtain⟨i,hi,Z3⟩:=PS h1 h2;have hlen:=nu h1
 have hw:ai CA eJ [eD t,vI k.b,vI k.a] (vI (i:Int)) []:=by rw[←hi];exact Js t k.b k.a az
 have hrow:rowAt (t.nodes.map aX) (i:Int)=some [TC.sub 1 (t.nodes[i].map eP)]:=by rw[aY,aN,bH Z3];rfl
 have Wd:rowAt (t.ax.map bI) (i:Int)=some [iI (t.ax.getD i 0)]:=by
  rw[aY,aN,qK,bH az];rfl
 have hg:t.nodes.getD i []=t.nodes[i]:=by rw[qK,bH Z3];rfl
 have hok:=qb h1 (tT Z3);have hsz:=nN hok;have hps:=E5 t.nodes[i] k;have hpt:=E6 t.nodes[i] k;have hkl:=qt t.nodes[i] k;have hnk:=cR t.nodes[i];obtain⟨hp1,V9,hp3⟩:=XG (k:=k) h1 Z3
 have hR:bB t k=if cP (jV (jB t i k).nodes.length (jB t i k))=true then(jV (jB t i k).nodes.length (jB t i k),true) else(t,false):=by
  unfold bB;rw[aT ⟨h1,h2⟩,hi,pT]
 have fin: ∀Q:QV,Q (Ex (bB t k)) []→ ∃(l39 l40:RR),ai CA aG [eD (jB t i k)] (.ag [.sub 1 l39,.sub 1 l40]) []∧(∃b:Bool,ai CA aJ [.ag [.sub 1 l39,.sub 1 l40]] (vB b) []∧(aC (!b) (False) (Q (.tu [(1,[.sub 1 l39,.sub 1 l40]),(0,[iB true])]) []))):=by
  intro Q hQ;have h3:=(PX h1 h2).2.2 (hroom h1 h2);rw[hi,pT] at h3;refine⟨_,_,K7 (jB t i k) V9 az,_,AW _ az,?_⟩;rw[hR,aT h3] at hQ;exact av (by rw[h3];rfl) hQ
 have np:=Jt t.nodes[i] k az az;have hx:=vE t i [t.ax.getD i 0] [(cH t.nodes[i] k).1] az az az az cE cE;refine av rfl ⟨_,hw,_,hrow,?_⟩
 cases hp:(cH t.nodes[i] k).2 with
 |false=>
  have hno:=(HG hok h2 hp).1
  have cno:(!(cH t.nodes[i] k).2)=true:=by rw[hp];rfl
  obtain⟨ks,hks⟩: ∃ks,ks=cW t.nodes[i] k:=⟨_,rfl⟩;rw[←hks] at hno hkl;have hh:=Ve hno;obtain⟨h,hhe⟩: ∃h,h=(ks.length+1)/2:=⟨_,rfl⟩
  have hq:dU .i64 (aE (Int.ofNat (List.length (ks.map bG))) 1) 2=(h:Int):=by rw[cn,ajz az,hhe]
  have hkk:rowAt (ks.map bG) (h:Int)=some [iI (ks.getD h eX).b,iI (ks.getD h eX).a,iI (ks.getD h eX).k,iI (ks.getD h eX).c,iI (ks.getD h eX).g]:=by
   rw[aY,aN,qK,bH az];rfl
  have ep:jB t i k=mD t i 1 [t.ax.getD i 0,c7 (ks.getD h eX).b (ks.getD h eX).a] [cG (ks.take h),cG (ks.drop h)]:=by
   unfold jB;rw[hg,aK (by rw[hp];simp),←hks,←hhe]
  have rp:=vE t i [t.ax.getD i 0,c7 (ks.getD h eX).b (ks.getD h eX).a] [cG (ks.take h),cG (ks.drop h)] az az az az cE cE;rw[←ep] at rp
  have e1:au (ks.map bG) 0 (h:Int)=(ks.take h).map bG:=by rw[bZ];rfl
  have e2:au (ks.map bG) (h:Int) (Int.ofNat (List.length (ks.map bG)))=(ks.drop h).map bG:=by
   rw[bZ,cn,pT,show(Int.ofNat ks.length).toNat=ks.length from rfl,sQ]
  have nn1:ai CA aF [.c (.sub 5 (au (ks.map bG) 0 (h:Int)))] (mW (cG (ks.take h))) []:=by rw[e1];exact su _ (by rw[gz];omega)
  have nn2:ai CA aF [.c (.sub 5 (au (ks.map bG) (h:Int) (Int.ofNat (List.length (ks.map bG)))))] (mW (cG (ks.drop h))) []:=by rw[e2];exact su _ (by rw[lD];omega)
  have c1:ew 0 (h:Int) (Int.ofNat (List.length (ks.map bG)))=true:=by rw[E0];simp;omega
  have c2:ew (h:Int) (Int.ofNat (List.length (ks.map bG))) (Int.ofNat (List.length (ks.map bG)))=true:=by rw[E0];simp;omega
  have kw:ai CA cZ [dR (eE (aB t.nodes[i]) k)] (dR ks) []:=by
   rw[hks];exact Qk (eE (aB t.nodes[i]) k) (by have:=lZ (aB t.nodes[i]) k;omega)
  clear hks hhe hR
  repeat' first
   |refine⟨_,hrow,?_⟩
   |refine⟨_,Wd,?_⟩
   |refine⟨_,_,np,?_⟩
   |refine⟨_,_,hx,?_⟩
   |refine aa cno ?_
   |refine⟨_,kw,?_⟩
   |refine⟨_,(nP t.nodes[i] az az _).2 rfl,?_⟩
   |refine⟨_,K8 (aB t.nodes[i]) k az,?_⟩
   |refine av (by rw[bV];rfl) ?_
   |rw[hq]
   |refine⟨_,_,_,_,_,hkk,?_⟩
   |refine aa c1 ?_
   |refine aa c2 ?_
   |refine⟨_,(Ql _ _ _ _ _ _).2 rfl,?_⟩
   |refine⟨_,nn1,?_⟩
   |refine⟨_,nn2,?_⟩
   |refine⟨_,_,rp,?_⟩
   |refine⟨(Ex (bB t k),([]:List TV)),?_,?_,rfl⟩
   |refine⟨(Ex (bB t k),([]:List TV)),?_,?_,fG⟩
   |exact fin (fun a b=>(a,b)=(Ex (bB t k),([]:List TV))) rfl
   |exact fin (fun r fs=>r=Ex (bB t k)∧fs=[]) fG
 |true=>
  have cno:(!(cH t.nodes[i] k).2)=false:=by rw[hp];rfl
  by_cases hc:0<i∧(aB (cH t.nodes[i] k).1).length=0
  ·have ci:cN 0 (i:Int)=true:=by rw[jb];simp;omega
   have nk:=(nP (cH t.nodes[i] k).1 az az _).2 rfl
   have cl:c6 (Int.ofNat (List.length ((aB (cH t.nodes[i] k).1).map bG))) 0=true:=by rw[bV,cn,hc.2];rfl
   have ep:jB t i k=mD t i 1 [] []:=by unfold jB;rw[hg,aT hp,aT hc]
   have rp:=vE t i [] [] az az az az cE cE;rw[←ep] at rp;clear hR
   repeat' first
   |refine⟨_,hrow,?_⟩
   |refine⟨_,Wd,?_⟩
   |refine⟨_,_,np,?_⟩
   |refine⟨_,_,hx,?_⟩
   |refine av cno ?_
   |refine aa ci ?_
   |refine⟨_,nk,?_⟩
   |refine aa cl ?_
   |refine⟨_,_,rp,?_⟩
   |refine⟨(Ex (bB t k),([]:List TV)),?_,?_,rfl⟩
   |refine⟨(Ex (bB t k),([]:List TV)),?_,?_,fG⟩
   |exact fin (fun a b=>(a,b)=(Ex (bB t k),([]:List TV))) rfl
   |exact fin (fun r fs=>r=Ex (bB t k)∧fs=[]) fG
  ·have ep:mD t i 1 [t.ax.getD i 0] [(cH t.nodes[i] k).1]=jB t i k:=by
    unfold jB;rw[hg,aT hp,aK hc]
   rw[ep] at hx;clear hR
   by_cases hi0:0<i
   ·have ci:cN 0 (i:Int)=true:=by rw[jb];simp;omega
    have nk:=(nP (cH t.nodes[i] k).1 az az _).2 rfl
    have cl:c6 (Int.ofNat (List.length ((aB (cH t.nodes[i] k).1).map bG))) 0=false:=by
     rw[bV,cn];exact iZ fun e=>hc ⟨hi0,by have e:((aB (cH t.nodes[i] k).1).length:Int)=0:=e;omega⟩
    repeat' first
   |refine⟨_,hrow,?_⟩
   |refine⟨_,Wd,?_⟩
   |refine⟨_,_,np,?_⟩
   |refine⟨_,_,hx,?_⟩
   |refine av cno ?_
   |refine aa ci ?_
   |refine⟨_,nk,?_⟩
   |refine av cl ?_
   |refine⟨(Ex (bB t k),([]:List TV)),?_,?_,rfl⟩
   |refine⟨(Ex (bB t k),([]:List TV)),?_,?_,fG⟩
   |exact fin (fun a b=>(a,b)=(Ex (bB t k),([]:List TV))) rfl
   |exact fin (fun r fs=>r=Ex (bB t k)∧fs=[]) fG
   ·have ci:cN 0 (i:Int)=false:=by rw[jb];simp;omega
    repeat' first
   |refine⟨_,hrow,?_⟩
   |refine⟨_,Wd,?_⟩
   |refine⟨_,_,np,?_⟩
   |refine⟨_,_,hx,?_⟩
   |refine av cno ?_
   |refine av ci ?_
   |refine⟨(Ex (bB t k),([]:List TV)),?_,?_,rfl⟩
   |refine⟨(Ex (bB t k),([]:List TV)),?_,?_,fG⟩
   |exact fin (fun a b=>(a,b)=(Ex (bB t k),([]:List TV))) rfl
   |exact fin (fun r fs=>r=Ex (bB t k)∧fs=[]) fG
theorem abY (b:List Int) (i h:Int) (hi:0≤i) (hb:b.length≤1048576) (n:Int) (h0:0≤n) (hn:n≤55):aZ CA lH [kJ b i h,vI n] (Dr b fun r=> ∃t:Tree,r=eD t∧cP t=true∧((ay t).length:Int)≤n):=by
 refine Rf _ _ _ _ _ ⟨_,_,HZ,?_⟩;rw[aO az];refine cJ (Ch b _ _ hi hb _ az) fun x i1 h1 hi1 hx=> ?_;have hx1:=hx.2 az
 have key: ∀(d:Nat) (i h:Int) (t:Tree),0≤i→cP t=true→((ay t).length:Int)+d≤n→ah CA lH aj 4 0 (qH (d:Int) (b.map jY) i h (t.ax.map bI) (t.nodes.map aX)) (fun x st=>aD CA lH aj x st (Dr b fun r=> ∃t:Tree,r=eD t∧cP t=true∧((ay t).length:Int)≤n)):=by
  intro d
  induction d with
  |zero=>
   intro i h t hi ht hl;exact Bt _ _ _ _ _ _ _ (av cE (LG _ _ _ _ _ _ _ _ (bW hi ⟨t,rfl,ht,by omega⟩)))
  |succ d ih=>
   intro i h t hi ht hl;have hz:=Gj ht;have e:dV ((d+1:Nat):Int) 1=(d:Int):=(dL az).trans az
   refine Bt _ _ _ _ _ _ _ (aa lu (Fc (aeu b _ _ hi hb) fun k i2 h2 hi2 hk=>⟨_,_,_,Ju t k az (fun _ _=>by
    have h3:(ko (eE (ay t) k)).length≤(eE (ay t) k).length:=LN _ _;have h4:=lZ (ay t) k
    omega),?_⟩))
   rw[e];exact ih _ _ _ hi2 (XX ht k) (by have:=Vm ht hk;omega)
 obtain⟨d,rfl⟩: ∃d:Nat,x=(d:Int):=⟨x.toNat,by omega⟩;exact key d _ _ ⟨[0],[[]]⟩ hi1 ZD (by rw[show ay ⟨[0],[[]]⟩=[] from rfl];simp;omega)
theorem aev (b:List Int) (i h:Int) (hi:0≤i) (hb:b.length≤1048576) (l:List Int) (h0:0<l.length) (hl:l.length≤1000):aZ CA ck [kJ b i h,qP l] (Dr b fun r=> ∃x,r=vI x∧x∈l):=agF (iF b i h hi hb l h0 hl)
theorem Yb (b:List Int) (i h:Int) (hi:0≤i) (hb:b.length≤1048576):aZ CA xG [kJ b i h] (Dr b fun r=> ∃x:List (List Key),r=TV.ag [TC.sub 1 (x.map eP)]∧aV x≤40):=agF (agp b i h hi hb)
theorem aew (l:List (List (List Key))) (i:Nat) (m:List (List Key)):tot aV (l.set i m)≤tot aV l+aV m:=by
 induction l generalizing i with
 |nil=>simp[tot]
 |cons a r ih=>
  cases i with
  |zero=>simp only[List.set_cons_zero,tot];omega
  |succ i=>have:=ih i;simp only[List.set_cons_succ,tot];omega
theorem Yc: ∀(l:List (List (List Key))) (i:Nat) (m:List (List Key)),((l.set i m).flatMap aB).length≤(l.flatMap aB).length+(aB m).length
 |[],i,m=>by simp
 |a::r,0,m=>by simp only[List.set_cons_zero,List.flatMap_cons,cT];omega
 |a::r,i+1,m=>by have:=Yc r i m;simp only[List.set_cons_succ,List.flatMap_cons,cT];omega
theorem aex (b:List Int) (i h:Int) (hi:0≤i) (hb:b.length≤1048576) (n:Int) (h0:0≤n) (hn:n≤55):aZ CA B6 [kJ b i h,vI n] (Dr b fun r=> ∃t:Tree,r=eD t∧dx t≤400∧(cP t=true→((ay t).length:Int)≤n+8)):=by
 refine Tc _ _ _ _ _ (aaX (abY b _ _ hi hb n h0 hn) fun t i1 h1 hi1 ht=>cJ (Ch b _ _ hi1 hb _ az) fun x i2 h2 hi2 hx=> ?_);obtain⟨ht,hl⟩:=ht;have hz:=Gj ht;have htl:=nu ht;have htt:=HH ht;have e1:dx t=t.ax.length+(t.nodes.length+tot aV t.nodes):=rfl;refine bA (fun e0=> ?_) fun e0=>bA (fun e1=> ?_) fun e1=>bA (fun e2=> ?_) fun e2=>bA (fun e3=> ?_) fun e3=> ?_
 ·obtain⟨_,_,hr3,i3,h3,vL,rfl,z,rfl,z0,z1⟩:=Ch b i2 h2 hi2 hb (t.ax.length:Int) az
  obtain⟨_,_,hr4,i4,h4,Um,rfl,v,rfl,_⟩:=aev b i3 h3 vL hb [0,-1,1,300] cE cE;obtain⟨u,hu⟩:=gj z0 (z1 az)
  have hrow:rowAt (t.ax.map bI) z=some [iI u]:=by rw[aY,hu];rfl
  have tQ:setRow (t.ax.map bI) z 0 [iI v]=(qo t.ax z v).map bI:=lF hu (a':=v) rfl;rw[show Int.ofNat (List.length (t.ax.map bI))=(t.ax.length:Int) from by simp]
  have A: ∀Q:QV,Q (eD ⟨qo t.ax z v,t.nodes⟩) [kJ b i4 h4]→ ∃(n13:Int) (l14:RR) (n15 n16:Int),ai CA aP [kJ b i2 h2,vI (t.ax.length:Int)] (vI n13) [TV.bx [TC.sub 1 l14,iI n15,iI n16]]∧ ∃(n17:Int) (l18:RR) (n19 n20:Int),ai CA ck [TV.bx [TC.sub 1 l14,iI n15,iI n16],TV.c (TC.sub 1 [[iI 0],[iI (-1)],[iI 1],[iI 300]])] (vI n17) [TV.bx [TC.sub 1 l18,iI n19,iI n20]]∧ ∃n21:Int,rowAt (t.ax.map bI) n13=some [iI n21]∧ ∃n22:Int,rowAt (t.ax.map bI) n13=some [iI n22]∧Q (TV.ag [TC.sub 1 (setRow (t.ax.map bI) n13 0 [iI n17]),TC.sub 1 (t.nodes.map aX)]) [TV.bx [TC.sub 1 l18,iI n19,iI n20]]:=fun Q hQ=>
   ⟨z,_,i3,h3,hr3,v,_,i4,h4,hr4,u,hrow,u,hrow,by rw[tQ];exact hQ⟩
  refine⟨(eD ⟨qo t.ax z v,t.nodes⟩,[kJ b i4 h4]),A (fun u w=>(u,w)=(eD ⟨qo t.ax z v,t.nodes⟩,[kJ b i4 h4])) rfl,A (fun u w=>(u,w)=(eD ⟨qo t.ax z v,t.nodes⟩,[kJ b i4 h4])) rfl,bW Um ⟨_,rfl,?_,fun _=> ?_⟩⟩
  ·show(qo t.ax z v).length+(t.nodes.length+tot aV t.nodes)≤400
   rw[lE];omega
  ·show((ay t).length:Int)≤n+8
   omega
 ·refine Vn (Yb b _ _ hi2 hb) fun m i3 h3 vL hm=>aa (cM lu) (bW vL ⟨⟨t.ax,t.nodes++[m]⟩,by simp[aX],?_,fun hk=> ?_⟩)
  ·show t.ax.length+((t.nodes++[m]).length+tot aV (t.nodes++[m]))≤400
   rw[wC,cT];simp[tot];omega
  ·have hm8:=nN (qb hk (n:=m) cE)
   have:=cR m;show(((t.nodes++[m]).flatMap aB).length:Int)≤n+8;have e5:(ay t).length=(t.nodes.flatMap aB).length:=rfl;rw[List.flatMap_append,cT];simp only[List.flatMap_cons,List.flatMap_nil,nG];omega
 ·refine cJ (Ch b _ _ hi2 hb _ lu) fun z i3 h3 vL hz3=>Vn (Yb b _ _ vL hb) fun m i4 h4 Um hm=> ?_
  obtain⟨u,hu⟩:=gj (l:=t.nodes) hz3.1 (by have:=hz3.2 lu;simpa using this)
  have hrow:rowAt (t.nodes.map aX) z=some [TC.sub 1 (u.map eP)]:=by rw[aY,hu];rfl
  have tQ:setRow (t.nodes.map aX) z 0 [TC.sub 1 (m.map eP)]=(qo t.nodes z m).map aX:=lF hu (a':=m) rfl;refine⟨_,hrow,_,hrow,?_⟩;rw[tQ];refine bW Um ⟨⟨t.ax,qo t.nodes z m⟩,rfl,?_,fun hk=> ?_⟩
  ·show t.ax.length+((qo t.nodes z m).length+tot aV (qo t.nodes z m))≤400
   have:=aew t.nodes z.toNat m;rw[lE];unfold qo;omega
  ·have hzl:=(PC hu)
   have hm8:=nN (qb hk (n:=m) (by show m∈t.nodes.set z.toNat m;exact List.mem_set az m));have:=cR m;have h6:=Yc t.nodes z.toNat m;show(((t.nodes.set z.toNat m).flatMap aB).length:Int)≤n+8;have e5:(ay t).length=(t.nodes.flatMap aB).length:=rfl;omega
 ·exact bW hi2 ⟨⟨[],[]⟩,rfl,by simp[dx,wq,tot],fun _=>by rw[show ay ⟨[],[]⟩=[] from rfl];simp;omega⟩
 ·exact bW hi2 ⟨t,rfl,by omega,fun _=>by omega⟩
theorem aey (b:List Int) (i h:Int) (hi:0≤i) (hb:b.length≤1048576):aZ C ig [kJ b i h] (Dr b fun r=> ∃l:List mw,r=TV.c (TC.sub 2 (l.map bS))∧gE l=true):=by
 refine SG _ _ _ _ (cJ (cm b _ _ hi hb _ az) fun x i1 h1 hi1 hx=> ?_);have hx1:=hx.2 az
 have key: ∀(d:Nat) (i h:Int) (l:List mw),d≤100→0≤i→gE l=true→ah C ig aj 4 0 (kQ (d:Int) (b.map jY) i h (l.map bS)) (fun x st=>aD C ig aj x st (Dr b fun r=> ∃l:List mw,r=TV.c (TC.sub 2 (l.map bS))∧gE l=true)):=by
  intro d
  induction d with
  |zero=>
   intro i h l hd hi hl;exact D2 _ _ _ _ _ _ (av cE (ND _ _ _ _ _ _ _ (bW hi ⟨l,rfl,hl⟩)))
  |succ d ih=>
   intro i h l hd hi hl;have hlen:=PZ hl;have e:dV ((d+1:Nat):Int) 1=(d:Int):=(dL az).trans az
   have tail: ∀(i h fr:Int),0≤i→ ∃(n24:Int) (l25:RR) (n26 n27:Int),ai C aP [kJ b i h,vI 8] (vI n24) [TV.bx [TC.sub 1 l25,iI n26,iI n27]]∧ ∃(l28:RR) (b29:Bool),ai C fy [lX l,vI (aE 1 n24),vI fr] (TV.tu [(0,[TC.sub 2 l28]),(0,[iB b29])]) []∧ah C ig aj 4 0 (kQ (d:Int) l25 n26 n27 l28) (fun x st=>aD C ig aj x st (Dr b fun r=> ∃l:List mw,r=TV.c (TC.sub 2 (l.map bS))∧gE l=true)):=fun i h fr hi=>
    cJ (cm b _ _ hi hb _ az) fun z i2 h2 hi2 hz=>⟨_,_,rN l (aE 1 z) fr az,ih _ _ _ az hi2 (abP hl _ _)⟩
   refine D2 _ _ _ _ _ _ (aa lu ?_);rw[e];refine bA (fun e1=>af2 (X9 b _ _ hi hb 4 az) fun y i2 h2 hi2=>bA (fun e2=> ?_) fun e2=>tail _ _ _ hi2) fun e1=>tail _ _ _ hi
   have e1':0<l.length:=by simpa using e1
   refine cJ (cm b _ _ hi2 hb _ lu) fun z i3 h3 vL hz=> ?_;obtain⟨a,ha⟩:=gj (l:=l) hz.1 (by have:=hz.2 lu;simpa using this)
   have hrow:rowAt (l.map bS) z=some [iI a.id,iI a.fr]:=by rw[aY,ha];rfl
   exact⟨_,_,hrow,_,_,hrow,tail _ _ _ vL⟩
 obtain⟨d,rfl⟩: ∃d:Nat,x=(d:Int):=⟨x.toNat,by omega⟩;exact key d _ _ [] az hi1 (by decide+kernel)
theorem agq (b:List Int) (i h:Int) (hi:0≤i) (hb:b.length≤1048576):aZ C mh [kJ b i h] (Dr b fun r=> ∃l:List mw,r=TV.c (TC.sub 2 (l.map bS))∧l.length≤40):=by
 refine VT _ _ _ _ (Jd (e:=bS) (aey b _ _ hi hb) fun l i1 h1 hi1 hl=>cJ (cm b _ _ hi1 hb _ az) fun x i2 h2 hi2 hx=> ?_);have hlen:=PZ hl;refine bA (fun e0=> ?_) fun e0=>bA (fun e1=>bA (fun e2=> ?_) fun e2=>bW hi2 ⟨l,rfl,by omega⟩) fun e1=>bA (fun e2=> ?_) fun e2=>bW hi2 ⟨l,rfl,by omega⟩
 ·refine cJ (iF b _ _ hi2 hb [0,3,60,61] cE cE) fun z i3 h3 vL _=>cJ (iF b _ _ vL hb [0,1,9,-1] cE cE) fun y i4 h4 Um _=>aa ?_ (bW Um ⟨l++[⟨z,y⟩],by simp[bS],by simp;omega⟩)
  rw[cM lu];simp
 ·have e2':0<l.length:=by simpa using e2
  refine cJ (iF b _ _ hi2 hb [1,2,3] cE cE) fun z i3 h3 vL _=> ?_
  have h0:eI l 0=some l[0]:=by rw[show(0:Int)=((0:Nat):Int) from rfl,aN];exact bH e2'
  have hrow:rowAt (l.map bS) 0=some [iI l[0].id,iI l[0].fr]:=by rw[aY,h0];rfl
  have tQ:setRow (l.map bS) 0 1 [iI z]=(qo l 0 ⟨l[0].id,z⟩).map bS:=lF h0 (a':=⟨l[0].id,z⟩) rfl;refine⟨_,_,hrow,_,_,hrow,?_⟩;rw[tQ];exact bW vL ⟨_,rfl,by rw[lE];omega⟩
 ·have key: ∀(d k:Nat) (m:List mw),k+d=14→m.length+d≤40→ah C mh mj 4 1 (tL (k:Int) (b.map jY) i2 h2 (m.map bS)) (fun x st=>aD C mh mj x st (Dr b fun r=> ∃l:List mw,r=TV.c (TC.sub 2 (l.map bS))∧l.length≤40)):=by
   intro d
   induction d with
   |zero=>
    intro k m hk hm;exact FU _ _ _ _ _ _ (av lu (QJ _ _ _ _ _ _ (bW hi2 ⟨m,rfl,by omega⟩)))
   |succ d ih=>
    intro k m hk hm;refine FU _ _ _ _ _ _ (aa lu (aa ?_ ?_))
    ·rw[cM lu];simp
    ·rw[aO (a:=(k:Int)) az,wu]
     exact ih (k+1) _ az ie
  exact key 14 0 l rfl az
theorem Uj (b:List Int) (i h:Int) (hi:0≤i) (hb:b.length≤1048576):aZ C wG [kJ b i h] (Dr b fun r=> ∃x,r=TV.ag (Ku x)∧x.name.size≤7∧x.to.size≤7):=by
 refine QL _ _ _ _ ?_;refine cJ (iF b _ _ hi hb [1,1,1,2,2,3,4,4,4,4,4,4,5,6,7,7,8,9] cE cE) fun n3 i1 h1 hi1 hx1=> ?_;refine bA (fun e=> ?_) fun e=> ?_
 ·refine HL (VA b _ _ hi1 hb [⟨#[97]⟩,⟨#[97]⟩,⟨#[98]⟩,⟨#[99]⟩,⟨#[100]⟩] cE cE) fun s7 i2 h2 hi2 Oz=> ?_
  refine bA (fun e=> ?_) fun e=> ?_
  ·refine bA (fun e=> ?_) fun e=> ?_
   ·refine cJ (iF b _ _ hi2 hb [1,3,4,12,5] cE cE) fun n11 i3 h3 vL hx3=> ?_
    exact bW vL ⟨⟨n3,s7,(lS),n11,0⟩,rfl,by first|exact dm _|assumption|exact eo ic (by decide+kernel)|exact cU (bh ic).2 (by decide),by first|exact dm _|assumption|exact eo ic (by decide+kernel)|exact cU (bh ic).2 (by decide)⟩
   ·refine bA (fun e=> ?_) fun e=> ?_
    ·refine HL (Fq b _ _ hi2 hb) fun s15 i4 h4 Um hx4=> ?_
     refine cJ (iF b _ _ Um hb [0,0,0,1] cE cE) fun n19 i5 h5 hi5 hx5=> ?_;exact bW hi5 ⟨⟨n3,s7,s15,0,n19⟩,rfl,by first|exact dm _|assumption|exact eo ic (by decide+kernel)|exact cU (bh ic).2 (by decide),by first|exact dm _|assumption|exact eo ic (by decide+kernel)|exact cU (bh ic).2 (by decide)⟩
    ·refine bA (fun e=> ?_) fun e=> ?_
     ·refine cJ (cm b _ _ hi2 hb _ (by first|omega|(simp<;>omega))) fun n23 i6 h6 hi6 hx6=> ?_
      refine cJ (Jr b _ _ hi6 hb) fun n27 i7 h7 hi7 hx7=> ?_;exact bW hi7 ⟨⟨n3,s7,(lS),n23,n27⟩,rfl,by first|exact dm _|assumption|exact eo ic (by decide+kernel)|exact cU (bh ic).2 (by decide),by first|exact dm _|assumption|exact eo ic (by decide+kernel)|exact cU (bh ic).2 (by decide)⟩
     ·refine bA (fun e=> ?_) fun e=> ?_
      ·refine cJ (cm b _ _ hi2 hb _ (by first|omega|(simp<;>omega))) fun n31 i8 h8 hi8 hx8=> ?_
       exact bW hi8 ⟨⟨n3,s7,(lS),n31,0⟩,rfl,by first|exact dm _|assumption|exact eo ic (by decide+kernel)|exact cU (bh ic).2 (by decide),by first|exact dm _|assumption|exact eo ic (by decide+kernel)|exact cU (bh ic).2 (by decide)⟩
      ·refine bA (fun e=> ?_) fun e=> ?_
       ·refine bA (fun e=> ?_) fun e=> ?_
        ·refine cJ (cm b _ _ hi2 hb _ (by first|omega|(simp<;>omega))) fun n35 i9 h9 hi9 hx9=> ?_
         exact bW hi9 ⟨⟨n3,s7,(lS),n35,0⟩,rfl,by first|exact dm _|assumption|exact eo ic (by decide+kernel)|exact cU (bh ic).2 (by decide),by first|exact dm _|assumption|exact eo ic (by decide+kernel)|exact cU (bh ic).2 (by decide)⟩
        ·exact bW hi2 ⟨⟨n3,s7,(lS),0,0⟩,rfl,by first|exact dm _|assumption|exact eo ic (by decide+kernel)|exact cU (bh ic).2 (by decide),by first|exact dm _|assumption|exact eo ic (by decide+kernel)|exact cU (bh ic).2 (by decide)⟩
       ·refine bA (fun e=> ?_) fun e=> ?_
        ·refine cJ (cm b _ _ hi2 hb _ (by first|omega|(simp<;>omega))) fun n39 i10 h10 alX aof=> ?_
         exact bW alX ⟨⟨n3,s7,(lS),n39,0⟩,rfl,by first|exact dm _|assumption|exact eo ic (by decide+kernel)|exact cU (bh ic).2 (by decide),by first|exact dm _|assumption|exact eo ic (by decide+kernel)|exact cU (bh ic).2 (by decide)⟩
        ·exact bW hi2 ⟨⟨n3,s7,(lS),0,0⟩,rfl,by first|exact dm _|assumption|exact eo ic (by decide+kernel)|exact cU (bh ic).2 (by decide),by first|exact dm _|assumption|exact eo ic (by decide+kernel)|exact cU (bh ic).2 (by decide)⟩
  ·refine bA (fun e=> ?_) fun e=> ?_
   ·refine cJ (iF b _ _ hi2 hb [1,3,4,12,5] cE cE) fun n43 i11 h11 alY aog=> ?_
    exact bW alY ⟨⟨n3,s7,(lS),n43,0⟩,rfl,by first|exact dm _|assumption|exact eo ic (by decide+kernel)|exact cU (bh ic).2 (by decide),by first|exact dm _|assumption|exact eo ic (by decide+kernel)|exact cU (bh ic).2 (by decide)⟩
   ·refine bA (fun e=> ?_) fun e=> ?_
    ·refine HL (Fq b _ _ hi2 hb) fun s47 i12 h12 alZ aoh=> ?_
     refine cJ (iF b _ _ alZ hb [0,0,0,1] cE cE) fun n51 i13 h13 al0 aoi=> ?_;exact bW al0 ⟨⟨n3,s7,s47,0,n51⟩,rfl,by first|exact dm _|assumption|exact eo ic (by decide+kernel)|exact cU (bh ic).2 (by decide),by first|exact dm _|assumption|exact eo ic (by decide+kernel)|exact cU (bh ic).2 (by decide)⟩
    ·refine bA (fun e=> ?_) fun e=> ?_
     ·refine cJ (cm b _ _ hi2 hb _ (by first|omega|(simp<;>omega))) fun n55 i14 h14 al1 aoj=> ?_
      refine cJ (Jr b _ _ al1 hb) fun n59 i15 h15 al2 aok=> ?_;exact bW al2 ⟨⟨n3,s7,(lS),n55,n59⟩,rfl,by first|exact dm _|assumption|exact eo ic (by decide+kernel)|exact cU (bh ic).2 (by decide),by first|exact dm _|assumption|exact eo ic (by decide+kernel)|exact cU (bh ic).2 (by decide)⟩
     ·refine bA (fun e=> ?_) fun e=> ?_
      ·refine cJ (cm b _ _ hi2 hb _ (by first|omega|(simp<;>omega))) fun n63 i16 h16 al3 aol=> ?_
       exact bW al3 ⟨⟨n3,s7,(lS),n63,0⟩,rfl,by first|exact dm _|assumption|exact eo ic (by decide+kernel)|exact cU (bh ic).2 (by decide),by first|exact dm _|assumption|exact eo ic (by decide+kernel)|exact cU (bh ic).2 (by decide)⟩
      ·refine bA (fun e=> ?_) fun e=> ?_
       ·refine bA (fun e=> ?_) fun e=> ?_
        ·refine cJ (cm b _ _ hi2 hb _ (by first|omega|(simp<;>omega))) fun n67 i17 h17 al4 aom=> ?_
         exact bW al4 ⟨⟨n3,s7,(lS),n67,0⟩,rfl,by first|exact dm _|assumption|exact eo ic (by decide+kernel)|exact cU (bh ic).2 (by decide),by first|exact dm _|assumption|exact eo ic (by decide+kernel)|exact cU (bh ic).2 (by decide)⟩
        ·exact bW hi2 ⟨⟨n3,s7,(lS),0,0⟩,rfl,by first|exact dm _|assumption|exact eo ic (by decide+kernel)|exact cU (bh ic).2 (by decide),by first|exact dm _|assumption|exact eo ic (by decide+kernel)|exact cU (bh ic).2 (by decide)⟩
       ·refine bA (fun e=> ?_) fun e=> ?_
        ·refine cJ (cm b _ _ hi2 hb _ (by first|omega|(simp<;>omega))) fun n71 i18 h18 al5 aon=> ?_
         exact bW al5 ⟨⟨n3,s7,(lS),n71,0⟩,rfl,by first|exact dm _|assumption|exact eo ic (by decide+kernel)|exact cU (bh ic).2 (by decide),by first|exact dm _|assumption|exact eo ic (by decide+kernel)|exact cU (bh ic).2 (by decide)⟩
        ·exact bW hi2 ⟨⟨n3,s7,(lS),0,0⟩,rfl,by first|exact dm _|assumption|exact eo ic (by decide+kernel)|exact cU (bh ic).2 (by decide),by first|exact dm _|assumption|exact eo ic (by decide+kernel)|exact cU (bh ic).2 (by decide)⟩
 ·refine bA (fun e=> ?_) fun e=> ?_
  ·refine bA (fun e=> ?_) fun e=> ?_
   ·refine cJ (iF b _ _ hi1 hb [1,3,4,12,5] cE cE) fun n75 i19 h19 al6 aoo=> ?_
    exact bW al6 ⟨⟨n3,(lS),(lS),n75,0⟩,rfl,by first|exact dm _|assumption|exact eo ic (by decide+kernel)|exact cU (bh ic).2 (by decide),by first|exact dm _|assumption|exact eo ic (by decide+kernel)|exact cU (bh ic).2 (by decide)⟩
   ·refine bA (fun e=> ?_) fun e=> ?_
    ·refine HL (Fq b _ _ hi1 hb) fun s79 i20 h20 al7 aop=> ?_
     refine cJ (iF b _ _ al7 hb [0,0,0,1] cE cE) fun n83 i21 h21 al8 aoq=> ?_;exact bW al8 ⟨⟨n3,(lS),s79,0,n83⟩,rfl,by first|exact dm _|assumption|exact eo ic (by decide+kernel)|exact cU (bh ic).2 (by decide),by first|exact dm _|assumption|exact eo ic (by decide+kernel)|exact cU (bh ic).2 (by decide)⟩
    ·refine bA (fun e=> ?_) fun e=> ?_
     ·refine cJ (cm b _ _ hi1 hb _ (by first|omega|(simp<;>omega))) fun n87 i22 h22 al9 aor=> ?_
      refine cJ (Jr b _ _ al9 hb) fun n91 i23 h23 ama aos=> ?_;exact bW ama ⟨⟨n3,(lS),(lS),n87,n91⟩,rfl,by first|exact dm _|assumption|exact eo ic (by decide+kernel)|exact cU (bh ic).2 (by decide),by first|exact dm _|assumption|exact eo ic (by decide+kernel)|exact cU (bh ic).2 (by decide)⟩
     ·refine bA (fun e=> ?_) fun e=> ?_
      ·refine cJ (cm b _ _ hi1 hb _ (by first|omega|(simp<;>omega))) fun n95 i24 h24 amb aot=> ?_
       exact bW amb ⟨⟨n3,(lS),(lS),n95,0⟩,rfl,by first|exact dm _|assumption|exact eo ic (by decide+kernel)|exact cU (bh ic).2 (by decide),by first|exact dm _|assumption|exact eo ic (by decide+kernel)|exact cU (bh ic).2 (by decide)⟩
      ·refine bA (fun e=> ?_) fun e=> ?_
       ·refine bA (fun e=> ?_) fun e=> ?_
        ·refine cJ (cm b _ _ hi1 hb _ (by first|omega|(simp<;>omega))) fun n99 i25 h25 amc aou=> ?_
         exact bW amc ⟨⟨n3,(lS),(lS),n99,0⟩,rfl,by first|exact dm _|assumption|exact eo ic (by decide+kernel)|exact cU (bh ic).2 (by decide),by first|exact dm _|assumption|exact eo ic (by decide+kernel)|exact cU (bh ic).2 (by decide)⟩
        ·exact bW hi1 ⟨⟨n3,(lS),(lS),0,0⟩,rfl,by first|exact dm _|assumption|exact eo ic (by decide+kernel)|exact cU (bh ic).2 (by decide),by first|exact dm _|assumption|exact eo ic (by decide+kernel)|exact cU (bh ic).2 (by decide)⟩
       ·refine bA (fun e=> ?_) fun e=> ?_
        ·refine cJ (cm b _ _ hi1 hb _ (by first|omega|(simp<;>omega))) fun n103 i26 h26 amd aov=> ?_
         exact bW amd ⟨⟨n3,(lS),(lS),n103,0⟩,rfl,by first|exact dm _|assumption|exact eo ic (by decide+kernel)|exact cU (bh ic).2 (by decide),by first|exact dm _|assumption|exact eo ic (by decide+kernel)|exact cU (bh ic).2 (by decide)⟩
        ·exact bW hi1 ⟨⟨n3,(lS),(lS),0,0⟩,rfl,by first|exact dm _|assumption|exact eo ic (by decide+kernel)|exact cU (bh ic).2 (by decide),by first|exact dm _|assumption|exact eo ic (by decide+kernel)|exact cU (bh ic).2 (by decide)⟩
  ·refine bA (fun e=> ?_) fun e=> ?_
   ·refine cJ (iF b _ _ hi1 hb [1,3,4,12,5] cE cE) fun n107 i27 h27 ame aow=> ?_
    exact bW ame ⟨⟨n3,(lS),(lS),n107,0⟩,rfl,by first|exact dm _|assumption|exact eo ic (by decide+kernel)|exact cU (bh ic).2 (by decide),by first|exact dm _|assumption|exact eo ic (by decide+kernel)|exact cU (bh ic).2 (by decide)⟩
   ·refine bA (fun e=> ?_) fun e=> ?_
    ·refine HL (Fq b _ _ hi1 hb) fun s111 i28 h28 amf aox=> ?_
     refine cJ (iF b _ _ amf hb [0,0,0,1] cE cE) fun n115 i29 h29 amg aoy=> ?_;exact bW amg ⟨⟨n3,(lS),s111,0,n115⟩,rfl,by first|exact dm _|assumption|exact eo ic (by decide+kernel)|exact cU (bh ic).2 (by decide),by first|exact dm _|assumption|exact eo ic (by decide+kernel)|exact cU (bh ic).2 (by decide)⟩
    ·refine bA (fun e=> ?_) fun e=> ?_
     ·refine cJ (cm b _ _ hi1 hb _ (by first|omega|(simp<;>omega))) fun n119 i30 h30 amh aoz=> ?_
      refine cJ (Jr b _ _ amh hb) fun n123 i31 h31 ami aoA=> ?_;exact bW ami ⟨⟨n3,(lS),(lS),n119,n123⟩,rfl,by first|exact dm _|assumption|exact eo ic (by decide+kernel)|exact cU (bh ic).2 (by decide),by first|exact dm _|assumption|exact eo ic (by decide+kernel)|exact cU (bh ic).2 (by decide)⟩
     ·refine bA (fun e=> ?_) fun e=> ?_
      ·refine cJ (cm b _ _ hi1 hb _ (by first|omega|(simp<;>omega))) fun n127 i32 h32 amj aoB=> ?_
       exact bW amj ⟨⟨n3,(lS),(lS),n127,0⟩,rfl,by first|exact dm _|assumption|exact eo ic (by decide+kernel)|exact cU (bh ic).2 (by decide),by first|exact dm _|assumption|exact eo ic (by decide+kernel)|exact cU (bh ic).2 (by decide)⟩
      ·refine bA (fun e=> ?_) fun e=> ?_
       ·refine bA (fun e=> ?_) fun e=> ?_
        ·refine cJ (cm b _ _ hi1 hb _ (by first|omega|(simp<;>omega))) fun n131 i33 h33 amk aoC=> ?_
         exact bW amk ⟨⟨n3,(lS),(lS),n131,0⟩,rfl,by first|exact dm _|assumption|exact eo ic (by decide+kernel)|exact cU (bh ic).2 (by decide),by first|exact dm _|assumption|exact eo ic (by decide+kernel)|exact cU (bh ic).2 (by decide)⟩
        ·exact bW hi1 ⟨⟨n3,(lS),(lS),0,0⟩,rfl,by first|exact dm _|assumption|exact eo ic (by decide+kernel)|exact cU (bh ic).2 (by decide),by first|exact dm _|assumption|exact eo ic (by decide+kernel)|exact cU (bh ic).2 (by decide)⟩
       ·refine bA (fun e=> ?_) fun e=> ?_
        ·refine cJ (cm b _ _ hi1 hb _ (by first|omega|(simp<;>omega))) fun n135 i34 h34 aml aoD=> ?_
         exact bW aml ⟨⟨n3,(lS),(lS),n135,0⟩,rfl,by first|exact dm _|assumption|exact eo ic (by decide+kernel)|exact cU (bh ic).2 (by decide),by first|exact dm _|assumption|exact eo ic (by decide+kernel)|exact cU (bh ic).2 (by decide)⟩
        ·exact bW hi1 ⟨⟨n3,(lS),(lS),0,0⟩,rfl,by first|exact dm _|assumption|exact eo ic (by decide+kernel)|exact cU (bh ic).2 (by decide),by first|exact dm _|assumption|exact eo ic (by decide+kernel)|exact cU (bh ic).2 (by decide)⟩
theorem Uk (b:List Int) (i h:Int) (hi:0≤i) (hb:b.length≤1048576) (n:Int) (h0:0≤n) (hn:n≤1000):aZ C iD [kJ b i h,vI n] (Dr b fun r=> ∃p:bg,r=dK p∧cr p=true∧aQ p≤500):=by
 refine Q2 _ _ _ _ _ ⟨_,_,_,_,_,_,KX,?_⟩;rw[aO az];refine cJ (cm b _ _ hi hb _ az) fun x i1 h1 hi1 hx=> ?_
 have key: ∀(d:Nat) (i h:Int) (p:bg),0≤i→d≤2000→cr p=true→aQ p≤500→ah C iD aj 4 0 (qz (d:Int) (p.t.ax.map bI) (p.t.nodes.map aX) p.next (b.map jY) i h (p.aU.map bS) (p.cells.map bR) (p.aq.map cj)) (fun x st=>aD C iD aj x st (Dr b fun r=> ∃p:bg,r=dK p∧cr p=true∧aQ p≤500)):=by
  intro d
  induction d with
  |zero=>
   intro i h p hi hd hp hz;exact Bm _ _ _ _ _ _ _ _ _ _ _ (av cE (Ln _ _ _ _ _ _ _ _ _ _ _ _ (bW hi ⟨p,rfl,hp,hz⟩)))
  |succ d ih=>
   intro i h p hi hd hp hz;have e:dV ((d+1:Nat):Int) 1=(d:Int):=(dL az).trans az;refine Bm _ _ _ _ _ _ _ _ _ _ _ (aa lu (ag9 (Uj b _ _ hi hb) fun o i2 h2 hi2 ho=>⟨_,_,_,_,_,_,_,Qi p o az az az,?_⟩));rw[e];exact ih _ _ _ hi2 az (abN hp o) (by have:=abJ p o;omega)
 have:=hx.2 az;have:=hx.1;obtain⟨d,rfl⟩: ∃d:Nat,x=(d:Int):=⟨x.toNat,by omega⟩;exact key d _ _ pI hi1 az PY (by decide+kernel)
theorem ZQ (b:List Int) (hb:b.length≤1048576):aZ C uK [th b] (fun r fs=>fs=[]∧ ∃(p:bg) (o:JW),r= .tu [(1,yN p),(1,Ku o)]∧cr p=true∧aQ p≤500):=by
 obtain⟨z,Rl,hz1,hz⟩:=Ya b 30 az az hb;refine NW _ _ (P0 (aa0 b hb) fun h1=>⟨_,hz,?_⟩)
 try dsimp only
 rw[aO az];exact Gn (Uk b _ _ (Int.le_refl 0) hb _ az az) fun p i2 h2 hi2 hp=>ag9 (Uj b _ _ hi2 hb) fun o i3 h3 vL ho=>⟨rfl,p,o,rfl,hp.1,hp.2⟩
theorem Jv (p:bg) (hS:aQ p≤4194304) (hz: ∀v∈p.aq,0≤v.size∧v.size≤13) (i b:Int):ai C tD [dK p,vI i,vI b] (vI (jc p i b)) []:=by
 have hP:=eF hS
 cases hv:eI p.aq i with
 |none=>
  have hq:jc p i b=0:=by unfold jc;rw[hv]
  have hi: ¬(0≤i∧i<p.aq.length):=fun⟨h0,h1⟩=>by
   obtain⟨a,ha⟩:=gj h0 h1;rw[ha] at hv;cases hv
  have inF:g8 i 0 (dV (Int.ofNat (p.aq.map cj).length) 1)=false:=by
   rw[dL ie];simp[g8];omega
  rw[hq];refine(yd _ _ _ _ _ _ _ _ _ ⟨_,m6 _ _ _,?_⟩).run;exact aa (by rw[inF];rfl) fG
 |some v=>
  have hvz:=hz v (uW hv)
  by_cases hb:0≤b∧b<v.size
  ·exact K0 p hS i b v hv hb az
  ·have hq:jc p i b=0:=by unfold jc;rw[hv];exact aK hb
   have hi:=PC hv
   have inT:g8 i 0 (dV (Int.ofNat (p.aq.map cj).length) 1)=true:=by
    rw[dL ie];simp[g8];omega
   have hr:rowAt (p.aq.map cj) i=some [iS v.name,iI v.dJ,iI v.size,iB v.fx]:=by rw[aY,hv];rfl
   rw[hq];refine(yd _ _ _ _ _ _ _ _ _ ⟨_,m6 _ _ _,?_⟩).run;refine av (by rw[inT];rfl) ?_
   by_cases hb0:b<0
   ·exact aa (by simp[hb0]) fG
   ·refine av (by simp[hb0]) ⟨_,_,_,_,hr,aa lu fG⟩
theorem Jw (p:bg) (hS:aQ p≤4194304) (hz: ∀v∈p.aq,0≤v.size∧v.size≤13) (i b:Int):ai C mZ [dK p,vI i,vI b] (vI (jc p i b)) []:=by
 have hP:=eF hS
 cases hv:eI p.aq i with
 |none=>
  have hq:jc p i b=0:=by unfold jc;rw[hv]
  have hi: ¬(0≤i∧i<p.aq.length):=fun⟨h0,h1⟩=>by
   obtain⟨a,ha⟩:=gj h0 h1;rw[ha] at hv;cases hv
  have inF:g8 i 0 (dV (Int.ofNat (p.aq.map cj).length) 1)=false:=by
   rw[dL ie];simp[g8];omega
  rw[hq];refine(yc _ _ _ _ _ _ _ _ _ ⟨_,qe _ _ _,?_⟩).run;exact aa (by rw[inF];rfl) fG
 |some v=>
  have hvz:=hz v (uW hv)
  by_cases hb:0≤b∧b<v.size
  ·exact AR p hS i b v hv hb az
  ·have hq:jc p i b=0:=by unfold jc;rw[hv];exact aK hb
   have hi:=PC hv
   have inT:g8 i 0 (dV (Int.ofNat (p.aq.map cj).length) 1)=true:=by
    rw[dL ie];simp[g8];omega
   have hr:rowAt (p.aq.map cj) i=some [iS v.name,iI v.dJ,iI v.size,iB v.fx]:=by rw[aY,hv];rfl
   rw[hq];refine(yc _ _ _ _ _ _ _ _ _ ⟨_,qe _ _ _,?_⟩).run;refine av (by rw[inT];rfl) ⟨_,_,_,_,hr,_,qe _ _ _,?_⟩
   have inF2:g8 b 0 (dV v.size 1)=false:=by rw[dL az];simp[g8];omega
   exact aa (by rw[inF2];rfl) fG
theorem aez (b:List Int) (i h:Int) (hi:0≤i) (hb:b.length≤1048576) (n:Int) (h0:0≤n) (hn:n≤55):aZ CD B6 [kJ b i h,vI n] (Dr b fun r=> ∃t:Tree,r=eD t∧dx t≤400∧(cP t=true→((ay t).length:Int)≤n+8)):=ak7 (aex b i h hi hb n h0 hn)
theorem aeA (b:List Int):ai CD Jf [th b] (vB (decide (1048576<b.length))) []:=upD (agj b)
theorem Yd (b:List Int) (hb:b.length≤1048576):aZ CD uK [th b] (fun r fs=>fs=[]∧ ∃(p:bg) (o:JW),r= .tu [(1,yN p),(1,Ku o)]∧cr p=true∧aQ p≤500):=V2 (ZQ b hb)
theorem Gr (b:List Int) (n:Int) (h3:3≤n) (hn:n≤1000) (hb:b.length≤1048576): ∃x,3≤x∧x≤n∧ai CD oh [th b,vI n] (vI x) []:=let ⟨x,q0,q1,q2⟩:=Ya b n h3 hn hb;⟨x,q0,q1,upD q2⟩
theorem Jx (b:List Int) (hb:b.length≤1048576):aZ CD ia [th b] (fun r fs=>fs=[]∧ ∃h,r=kJ b 0 h):=V2 (aa0 b hb)
theorem ZR (b:List Int) (i h:Int) (hi:0≤i) (hb:b.length≤1048576) (n:Int) (h0:0≤n) (hn:n≤1000):aZ CD iD [kJ b i h,vI n] (Dr b fun r=> ∃p:bg,r=dK p∧cr p=true∧aQ p≤500):=V2 (Uk b i h hi hb n h0 hn)
theorem xN (b:List Int) (i h:Int) (hi:0≤i) (hb:b.length≤1048576) (n:Int) (hn:n≤16777216):aZ CD aP [kJ b i h,vI n] (Dr b fun r=> ∃x,r=vI x∧0≤x∧(0<n→x<n)):=V2 (cm b i h hi hb n hn)
theorem aeB (b:List Int) (i h:Int) (hi:0≤i) (hb:b.length≤1048576):aZ CD mh [kJ b i h] (Dr b fun r=> ∃l:List mw,r=TV.c (TC.sub 2 (l.map bS))∧l.length≤40):=V2 (agq b i h hi hb)
theorem aeC (b:List Int) (i h:Int) (hi:0≤i) (hb:b.length≤1048576):aZ CD B7 [kJ b i h] (Dr b fun r=> ∃l,r=mE l∧l.length≤24):=V2 (agi b i h hi hb)
theorem aeD (b:List Int) (i h:Int) (hi:0≤i) (hb:b.length≤1048576) (l:List ByteArray) (h0:0<l.length) (hl:l.length≤1000):aZ CD qd [kJ b i h,.c (.sub 1 (l.map ah8))] (Dr b fun r=> ∃x,r=vS x∧x∈l):=V2 (VA b i h hi hb l h0 hl)
theorem Jy (b:List Int) (i h:Int) (hi:0≤i) (hb:b.length≤1048576) (l:List Int) (h0:0<l.length) (hl:l.length≤1000):aZ CD ck [kJ b i h,qP l] (Dr b fun r=> ∃x,r=vI x∧x∈l):=V2 (iF b i h hi hb l h0 hl)
theorem Gs (b:List Int) (i h:Int) (hi:0≤i) (hb:b.length≤1048576) (n:Int) (h0:0≤n) (hn:n≤1000):aZ CD sG [kJ b i h,vI n] (Dr b fun r=> ∃p:bg,r=dK p∧aQ p≤2000∧ ∀v∈p.aq,0≤v.size∧v.size≤13):=by
 refine Ri _ _ _ _ _ (Gn (ZR b _ _ hi hb n h0 hn) fun p i1 h1 hi1 hp=>cJ (xN b _ _ hi1 hb _ az) fun x i2 h2 hi2 hx=> ?_);obtain⟨hok,hz⟩:=hp
 have hv: ∀v∈p.aq,0≤v.size∧v.size≤13:=fun v hv=>by have:=XW hok hv;omega
 have hc:p.cells.length=24:=by have:=wB hok;unfold fE at this;simp only[dW,decide_eq_true_eq] at this;exact this.2
 have Rl:aQ p≤2000:=by omega
 have hvl:p.aq.length≤500:=by unfold aQ p8 at hz;omega
 refine bA (fun e0=> ?_) fun e0=>bA (fun e1=> ?_) fun e1=>bA (fun e2=> ?_) fun e2=>bA (fun e3=> ?_) fun e3=>bA (fun e4=> ?_) fun e4=>bA (fun e5=> ?_) fun e5=>bA (fun e6=>bA (fun e7=> ?_) fun e7=> ?_) fun e6=> ?_
 ·exact aaX (aez b _ _ hi2 hb 6 az az) fun t i3 h3 vL ht=>bW vL ⟨⟨t,p.aU,p.cells,p.aq,p.next⟩,rfl,by have:=ht.1;unfold aQ p8 at hz ⊢;simp only[] at*;omega,hv⟩
 ·exact Jd (e:=bS) (aeB b _ _ hi2 hb) fun l i3 h3 vL hl=>bW vL ⟨⟨p.t,l,p.cells,p.aq,p.next⟩,rfl,by unfold aQ p8 at hz ⊢;simp only[] at*;omega,hv⟩
 ·exact Jd (e:=bR) (aeC b _ _ hi2 hb) fun l i3 h3 vL hl=>bW vL ⟨⟨p.t,p.aU,l,p.aq,p.next⟩,rfl,by unfold aQ p8 at hz ⊢;simp only[] at*;omega,hv⟩
 ·obtain⟨_,_,rS,i3,h3,vL,rfl,s,rfl,hs⟩:=aeD b i2 h2 hi2 hb [⟨#[97]⟩,⟨#[122,122]⟩,⟨#[65]⟩] cE cE
  obtain⟨_,_,rA,i4,h4,Um,rfl,a,rfl,ha⟩:=xN b i3 h3 vL hb 4 az;obtain⟨_,_,rZ,i5,h5,hi5,rfl,m,rfl,hm⟩:=Jy b i4 h4 Um hb [0,1,13] cE cE;have hm2:=agl hm (lo:=0) (hi:=13) rfl
  have hfit:(bM [[iS s,iI (aE 1 a),iI m,iB false]]&&fits (Nat.succ (List.length (p.aq.map cj))) 40)=true:=by
   rw[cM lu];simp
  have hs7:=eo hs (by decide+kernel);obtain⟨q,hq⟩: ∃q:bg,q=⟨p.t,p.aU,p.cells,p.aq++[⟨s,aE 1 a,m,false⟩],p.next⟩:=⟨_,rfl⟩
  have fin:TV.ag [TC.sub 1 (p.t.ax.map bI),TC.sub 1 (p.t.nodes.map aX),TC.sub 2 (p.aU.map bS),TC.sub 3 (p.cells.map bR),TC.sub 4 (List.append (p.aq.map cj) [[iS s,iI (aE 1 a),iI m,iB false]]),iI p.next]=dK q:=by rw[hq];simp[cj]
  refine⟨(dK q,[kJ b i5 h5]),?_,?_,bW hi5 ⟨q,rfl,?_,?_⟩⟩
  ·repeat' first
    |refine⟨_,_,_,_,rS,?_⟩
    |refine⟨_,_,_,_,rA,?_⟩
    |refine⟨_,_,_,_,rZ,?_⟩
    |refine aa hfit ?_
    |(rw[fin])
    |exact(by rw[fin])
    |refine⟨(dK q,[kJ b i5 h5]),?_,?_,rfl⟩
  ·repeat' first
    |refine⟨_,_,_,_,rS,?_⟩
    |refine⟨_,_,_,_,rA,?_⟩
    |refine⟨_,_,_,_,rZ,?_⟩
    |refine aa hfit ?_
    |(rw[fin])
    |exact(by rw[fin])
    |refine⟨(dK q,[kJ b i5 h5]),?_,?_,rfl⟩
  ·subst hq
   unfold aQ p8 at hz ⊢;rw[wC,cT];simp only[tot,tX,fY];omega
  ·subst hq
   intro v hv2;rcases List.mem_append.1 hv2 with h|h
   ·exact hv v h
   ·rw[jS.1 h];exact hm2
 ·exact cJ (Jy b _ _ hi2 hb [0,1,60,61,62] cE cE) fun z i3 h3 vL _=>bW vL ⟨⟨p.t,p.aU,p.cells,p.aq,z⟩,rfl,Rl,hv⟩
 ·refine cJ (xN b _ _ hi2 hb _ lu) fun z i3 h3 vL FZ=> ?_
  obtain⟨c,hcc⟩:=gj (l:=p.cells) FZ.1 (by have:=FZ.2 lu;simpa using this)
  have hrow:rowAt (p.cells.map bR) z=some [iI c.g,iB c.u,iI c.n]:=by rw[aY,hcc];rfl
  have tQ:setRow (p.cells.map bR) z 1 [iB true]=(qo p.cells z ⟨c.g,true,c.n⟩).map bR:=lF hcc (a':=⟨c.g,true,c.n⟩) rfl;refine⟨_,_,_,hrow,_,_,_,hrow,?_⟩;rw[tQ];exact bW vL ⟨⟨p.t,p.aU,qo p.cells z ⟨c.g,true,c.n⟩,p.aq,p.next⟩,rfl,by unfold aQ p8 at hz ⊢;simp only[lE] at*;omega,hv⟩
 ·have e7':0<p.aq.length:=by simpa using e7
  refine cJ (xN b _ _ hi2 hb _ az) fun z i3 h3 vL FZ=> ?_;obtain⟨v,hvv⟩:=gj (l:=p.aq) (i:=0) az az
  have hrow:rowAt (p.aq.map cj) 0=some [iS v.name,iI v.dJ,iI v.size,iB v.fx]:=by rw[aY,hvv];rfl
  have tQ:setRow (p.aq.map cj) 0 1 [iI (aE 1 z)]=(qo p.aq 0 ⟨v.name,aE 1 z,v.size,v.fx⟩).map cj:=lF hvv (a':=⟨v.name,aE 1 z,v.size,v.fx⟩) rfl;have hvm:=hv v (uW hvv);refine⟨_,_,_,_,hrow,_,_,_,_,hrow,?_⟩;rw[tQ];refine bW vL ⟨⟨p.t,p.aU,p.cells,qo p.aq 0 ⟨v.name,aE 1 z,v.size,v.fx⟩,p.next⟩,rfl,?_,fun u hu=> ?_⟩
  ·have h6:p.aq[0]?=some v:=by rw[←aN];exact hvv
   have h7:=PE tX 0 p.aq 0 v ⟨v.name,aE 1 z,v.size,v.fx⟩ h6 (dj _);have h8:tot tX (qo p.aq 0 ⟨v.name,aE 1 z,v.size,v.fx⟩)≤tot tX p.aq+0:=h7;unfold aQ p8 at hz ⊢;simp only[lE] at*;omega
  ·unfold qo at hu
   rcases List.mem_or_eq_of_mem_set hu with hu|hu
   ·exact hv u hu
   ·rw[hu];exact hvm
 ·exact bW hi2 ⟨p,rfl,Rl,hv⟩
 ·exact bW hi2 ⟨p,rfl,Rl,hv⟩
theorem R6 (b:List Int) (hb:b.length≤1048576):aZ CD vr [th b] (fun r fs=>fs=[]∧ ∃p:bg,r=dK p∧aQ p≤2000∧ ∀v∈p.aq,0≤v.size∧v.size≤13):=by
 obtain⟨z,Rl,hz1,hz⟩:=Gr b 16 az az hb;refine Ik _ _ ?_;refine P0 (Jx b hb) fun h1=> ?_;refine⟨_,hz,?_⟩;refine Gn (Gs b _ _ (Int.le_refl 0) hb z az az) fun v2 i2 h2 hi2 Oz=> ?_;exact⟨rfl,v2,rfl,Oz⟩
theorem abZ (b:List Int) (i h:Int) (hi:0≤i) (hb:b.length≤1048576):aZ CD om [kJ b i h] (Dr b fun r=> ∃x,r=vS x∧mF x=true):=V2 (Fq b i h hi hb)
theorem VB (b:List Int) (hb:b.length≤1048576):aZ CD xE [th b] (fun r fs=>fs=[]∧ ∃(p:bg) (s:ByteArray),r= .tu [(1,yN p),(0,[iS s])]∧aQ p≤2000∧ ∀v∈p.aq,0≤v.size∧v.size≤13):=by
 obtain⟨z,Rl,hz1,hz⟩:=Gr b 8 az az hb;refine JR _ _ ?_;refine P0 (Jx b hb) fun h1=> ?_;refine⟨_,hz,?_⟩;refine Gn (Gs b _ _ (Int.le_refl 0) hb z az az) fun v2 i2 h2 hi2 Oz=> ?_;refine HL (abZ b _ _ hi2 hb) fun s14 i3 h3 vL hx3=> ?_;exact⟨rfl,v2,_,rfl,Oz⟩
theorem Ye (b:List Int) (hb:b.length≤1048576):aZ CD z7 [th b] (fun r fs=>fs=[]∧ ∃(p:bg) (x:Int),r= .tu [(1,yN p),(0,[iI x])]∧aQ p≤2000∧ ∀v∈p.aq,0≤v.size∧v.size≤13):=by
 obtain⟨z,Rl,hz1,hz⟩:=Gr b 10 az az hb;refine LH _ _ ?_;refine P0 (Jx b hb) fun h1=> ?_;refine⟨_,hz,?_⟩;refine Gn (Gs b _ _ (Int.le_refl 0) hb z az az) fun v2 i2 h2 hi2 Oz=> ?_;refine cJ (xN b _ _ hi2 hb _ az) fun n14 i3 h3 vL hx3=> ?_;exact⟨rfl,v2,_,rfl,Oz⟩
theorem Qm (b:List Int) (hb:b.length≤1048576):aZ CD ux [th b] (fun r fs=>fs=[]∧ ∃(p:bg) (x y:Int),r= .tu [(1,yN p),(0,[iI x]),(0,[iI y])]∧aQ p≤2000∧ ∀v∈p.aq,0≤v.size∧v.size≤13):=by
 obtain⟨z,Rl,hz1,hz⟩:=Gr b 16 az az hb;refine GB _ _ ?_;refine P0 (Jx b hb) fun h1=> ?_;refine⟨_,hz,?_⟩;refine Gn (Gs b _ _ (Int.le_refl 0) hb z az az) fun v2 i2 h2 hi2 Oz=> ?_;refine cJ (Jy b _ _ hi2 hb [0,0,1,2,(-1),6] cE cE) fun n14 i3 h3 vL hx3=> ?_;refine cJ (Jy b _ _ vL hb [0,1,2,3,11,(-1),12] cE cE) fun n18 i4 h4 Um hx4=> ?_;exact⟨rfl,v2,_,_,rfl,Oz⟩
theorem Jz:ai CD wF [] (dK pI) []:=upD (KY)
theorem uB (p:bg) (hS:aQ p≤4194304):ai CD gr [dK p] (vB (cr p)) []:=upD (MG p hS)
theorem K9 (p:bg) (hS:aQ p≤4194304) (hz: ∀v∈p.aq,v.size≤9223372036854775807):ai CD cD [dK p] (TT (zY p)) []:=upD (MH p hS hz)
theorem La (p:bg) (hS:aQ p≤4194304):ai CD cc [dK p] (vB (cr p)) []:=upD (fO p hS)
theorem Cy (p:bg) (s:ByteArray) (hl:p.aq.length≤1073741824):ai CD xF [dK p,vS s] (vI (dy p.aq s)) []:=upD (Qb p s hl)
theorem MP (p:bg) (s:ByteArray) (hl:p.aq.length≤1073741824):ai CD dh [dK p,vS s] (vI (dy p.aq s)) []:=upD (gU p s hl)
theorem Fs (p:bg) (id:Int) (hl:p.aq.length≤1073741824):ai CD AP [dK p,vI id] (vB (og p.aq id)) []:=upD (RW p id hl)
theorem Qn (p:bg) (id:Int) (hl:p.aq.length≤1073741824):ai CD jH [dK p,vI id] (vB (og p.aq id)) []:=upD (Ag p id hl)
theorem H6 (p:bg) (hS:aQ p≤4194304) (hz: ∀v∈p.aq,0≤v.size∧v.size≤13) (i b:Int):ai CD mZ [dK p,vI i,vI b] (vI (jc p i b)) []:=upD (Jw p hS hz i b)
theorem H7 (p:bg) (hS:aQ p≤4194304) (hz: ∀v∈p.aq,0≤v.size∧v.size≤13) (i b:Int):ai CD tD [dK p,vI i,vI b] (vI (jc p i b)) []:=upD (Jv p hS hz i b)
theorem aia {x y:Int} (h:x=y):vB (c6 x y)=vB true:=by subst h;simp
theorem VC (b:List Int):ai CD lB [th b] (vB true) []:=by
 refine(Oj _ _ ⟨_,aeA b,?_⟩).run
 by_cases hb:1048576<b.length
 ·exact aa lu fG
 have hb:b.length≤1048576:=by omega
 obtain⟨_,_,e1,rfl,p,o,rfl,hpk,hpz⟩:=Yd b hb;obtain⟨_,_,e2,rfl,a,rfl,haz,hav⟩:=R6 b hb;obtain⟨_,_,e3,rfl,q,s,rfl,hqz,hqv⟩:=VB b hb;obtain⟨_,_,e4,rfl,c,z,rfl,hcz,hcv⟩:=Ye b hb;obtain⟨_,_,e5,rfl,d,x,y,rfl,hdz,hdv⟩:=Qm b hb
 have V5:p.aq.length≤aQ p:=by unfold aQ p8;omega
 have hql:q.aq.length≤aQ q:=by unfold aQ p8;omega
 have hcl:c.aq.length≤aQ c:=by unfold aQ p8;omega
 refine av lu ⟨_,_,_,_,_,_,_,_,_,_,_,e1,_,_,_,_,_,_,Jz,_,_,_,_,_,_,e2,_,_,_,_,_,_,_,e3,_,_,_,_,_,_,_,e4,_,_,_,_,_,_,_,_,e5,?_⟩;refine bP p.aq (fun i=>ah CD lB qI 4 0 (pN s z x y (i:Int) (p.t.ax.map bI) (p.t.nodes.map aX) p.next pI.next (a.t.ax.map bI) (a.t.nodes.map aX) a.next (q.t.ax.map bI) (q.t.nodes.map aX) q.next (c.t.ax.map bI) (c.t.nodes.map aX) c.next (d.t.ax.map bI) (d.t.nodes.map aX) d.next (p.aU.map bS) (p.cells.map bR) (p.aq.map cj) (pI.t.ax.map bI) (pI.t.nodes.map aX) (pI.aU.map bS) (pI.cells.map bR) (pI.aq.map cj) (a.aU.map bS) (a.cells.map bR) (a.aq.map cj) (q.aU.map bS) (q.cells.map bR) (q.aq.map cj) (c.aU.map bS) (c.cells.map bR) (c.aq.map cj) (d.aU.map bS) (d.cells.map bR) (d.aq.map cj)) _) ?_ ?_
 ·refine zL _ _ _ _ _ _ _ _ _ _ _ _ _ _ _ _ _ _ _ _ _ _ _ _ _ _ _ _ _ _ _ _ _ _ _ _ _ _ _ _ _ _ (av cE (JS _ _ _ _ _ _ _ _ _ _ _ _ _ _ _ _ _ _ _ _ _ _ _ _ _ _ _ _ _ _ _ _ _ _ _ _ _ _ _ _ _ _ _ ?_))
  have k1:=uB p az;rw[hpk] at k1;have k2:=uB pI (by decide+kernel);rw[PY] at k2;have k3:=K9 pI (by decide+kernel) (fun v hv=>by cases hv);have k4:=uB a az;have k5:=La a az;have k6:=Cy q s az;have k7:=MP q s az;have k8:=Fs c z az;have k9:=Qn c z az;exact⟨_,k1,aa rfl ⟨_,k2,aa rfl ⟨_,k3,aa (by simp[zY,q9,pI]) ⟨_,k4,_,k5,aa cE ⟨_,k6,_,k7,aa cE ⟨_,k8,_,k9,aa cE ⟨_,H6 d az hdv x y,_,H7 d az hdv x y,aia rfl,by trivial⟩⟩⟩⟩⟩⟩⟩
 ·intro i v hi hv _ _ hgo
  have hr:rowAt (p.aq.map cj) (i:Int)=some [iS v.name,iI v.dJ,iI v.size,iB v.fx]:=by rw[aY,aN,hv];rfl
  have w1:=Fs p v.dJ az;rw[aec hv] at w1;have w2:=Cy p v.name az;rw[abO hpk hv] at w2;refine zL _ _ _ _ _ _ _ _ _ _ _ _ _ _ _ _ _ _ _ _ _ _ _ _ _ _ _ _ _ _ _ _ _ _ _ _ _ _ _ _ _ _ (aa lu ⟨_,_,_,_,hr,_,_,_,_,hr,_,w1,av rfl ⟨_,_,_,_,hr,_,_,_,_,hr,_,w2,av cE ?_⟩⟩);rw[aO az];exact hgo
theorem aib {n z:Nat} (h:n*z≤reachBytes) (hz:1≤z):n≤140737488355328:=by
 have:reachBytes≤140737488355328:=by decide
 have h2:n*1≤n*z:=Nat.mul_le_mul_left n hz;omega
theorem agr {r:List TC} (h:Kq C.tt aaZ r): ∃n:Int,r=jY n∧(0≤n∧n≤255):=by
 obtain⟨n,rfl,h1⟩:=h.afK (k:= .u8) zYk;exact⟨n,rfl,ajh h1⟩
theorem ZS {r:List TC} (h:Kq C.tt AQ r): ∃l:List (Int),r=[.sub 1 (l.map jY)]∧l.length≤140737488355328∧ ∀x∈l,0≤x∧x≤255:=by
 obtain⟨w,rfl,y,z⟩:=h.abB (e:=aaZ) zYk;obtain⟨l,rfl,hl⟩:=Pu fun r hr=>agr (y r hr);rw[cn] at z;exact⟨l,rfl,aib z (by decide+kernel),hl⟩
theorem ags {v:TV} (h:WfV C.tt AQ v): ∃l:List Int,v=th l∧l.length≤140737488355328∧ ∀x∈l,0≤x∧x≤255:=by
 have ht:(C.tt AQ).ti= .slice 5:=by kernel_rfl
 cases h with
 |c _ hw=>
  obtain⟨l,h1,h2,h3⟩:=ZS hw
  cases h1
  exact⟨l,rfl,h2,h3⟩
 |ag h1 _=>rw[ht] at h1;cases h1
theorem Yf (vs:List TV) (h:W6 CD.tt [AQ] vs): ∃k,jT CD k lB vs (vB true) []:=by
 cases h with
 |cons h0 h=>
  cases h
  obtain⟨b,rfl,_,hB⟩:=ags h0;exact VC b
end Go.T.R
