/- What the functions answer. -/
import Derived.Test.YtiinnfilgnhjfaaGreatTP0
set_option linter.unusedVariables false
set_option linter.unusedSimpArgs false
set_option maxRecDepth 100000
set_option maxHeartbeats 4000000
namespace Go.T.R
open Go Go.T
theorem Ov (t:Tree) (i:Int) (hl:cH t≤4194304):ai C DX [dX t,vI i] (dX (AI t i)) []:=by
 have hN:=wG hl;have e2:cH t=t.aE.length+(t.nodes.length+tot aP t.nodes):=rfl;refine(U7 _ _ _ _ ⟨_,_,xm t hN.1 hN.2,_,nL _ _ _,?_⟩).run;unfold AI;rw[bY,show cO (Int.ofNat t.nodes.length) 1=(t.nodes.length:Int)-1 from dh eJ]
 by_cases h1:0≤i∧i<t.nodes.length
 ·obtain⟨n,hn⟩:=mm h1.1 h1.2
  have hz:aP n≤tot aP t.nodes:=oE (w:=aP) (Ew hn);have e1:aP n=n.length+tot bZ n:=rfl;refine ah (by simp[iC];omega) ?_;simp only[tT,hn,aY,dw];refine⟨_,Ou n ay ay,?_⟩;simp only[aci]
  first|exact⟨rfl,by trivial⟩|exact⟨trivial,trivial⟩|trivial|simp
 ·rw[gE h1]
  exact an (by simp[iC];omega) ⟨rfl,by trivial⟩
theorem Ow (p:Pool) (i:Int) (hS:aJ p≤4194304):ai C DV [c6 p,vI i] (tPB (qf p i)) []:=by
 have hP:=cD hS;have e2:cH p.t=p.t.aE.length+(p.t.nodes.length+tot aP p.t.nodes):=rfl;refine(Up _ _ _ _ _ _ _ _ ⟨_,_,_,_,_,_,bK p hS,_,e9 p hS,?_⟩).run;unfold qf
 cases h0:c7 p with
 |false=>exact ah rfl ⟨by simp,by trivial⟩
 |true=>
  refine an rfl ⟨_,nL _ _ _,?_⟩;rw[bY,show cO (Int.ofNat p.t.nodes.length) 1=(p.t.nodes.length:Int)-1 from dh eJ]
  by_cases h1:0≤i∧i<p.t.nodes.length
  ·refine an (by simp[iC];omega) ⟨_,_,Ov p.t i hP.1,?_⟩
   exact⟨by rw[aI ⟨rfl,h1⟩],by trivial⟩
  ·exact ah (by simp[iC];omega) ⟨by rw[aF (fun h=>h1 h.2)],by trivial⟩
theorem GK (p x:Pool) (hS:aJ p≤4194304) (hX:aJ x≤4194304):ai C gC [c6 p,c6 x,vB true] (P7 (ack p x)) []:=by
 refine(L4 _ _ _ _ _ _ _ _ _ _ _ _ _ _ ?_).run;refine an rfl ⟨_,gM x hX,?_⟩;unfold ack
 cases h1:c7 x with
 |false=>exact ah rfl ⟨_,_,_,_,_,_,cA p hS,⟨rfl,by trivial⟩⟩
 |true=>exact an rfl ⟨rfl,by trivial⟩
theorem ED (p x:Pool) (hS:aJ p≤4194304) (hX:aJ x≤4194304):ai C jn [c6 p,c6 x,vB true] (P7 (ack p x)) []:=by
 refine(KM _ _ _ _ _ _ _ _ _ _ _ _ _ _ ?_).run;refine an rfl ⟨_,e9 x hX,?_⟩;unfold ack
 cases h1:c7 x with
 |false=>exact ah rfl ⟨_,_,_,_,_,_,bK p hS,⟨rfl,by trivial⟩⟩
 |true=>exact an rfl ⟨rfl,by trivial⟩
theorem Gi {l:List Vol} {s:ByteArray} (h: ¬cc l s<0): ∃v,fh l (cc l s)=some v:=by
 obtain⟨m,h1,_⟩:=w4 _ l h;exact⟨m,h1⟩
theorem yc (p:Pool) (s:ByteArray) (hS:aJ p≤4194304) (hz:s.size≤140737488355328):ai C xd [c6 p,vS s] (vI (if uE p s=true then 0 else 1)) []:=by
 refine(XY _ _ _ _ _ _ _ _ ⟨_,gM p hS,?_⟩).run;unfold uE
 cases h1:c7 p with
 |false=>exact ah rfl ⟨rfl,by trivial⟩
 |true=>
  refine an rfl ⟨_,(uZ s hz (jT s)).2 rfl,?_⟩
  cases h2:jT s with
  |false=>exact ah rfl ⟨rfl,by trivial⟩
  |true=>exact an rfl ⟨rfl,by trivial⟩
theorem GL (p:Pool) (s:ByteArray) (hS:aJ p≤4194304) (hz:s.size≤140737488355328):ai C Ci [c6 p,vS s] (vI (if uE p s=true then(if cc p.au s<0 then 2 else 0) else 1)) []:=by
 have hP:=cD hS;refine(ZI _ _ _ _ _ _ _ _ ⟨_,yc p s hS hz,?_⟩).run
 cases h1:uE p s with
 |false=>exact an cY ⟨rfl,by trivial⟩
 |true=>
  refine ah cY ⟨_,jk p s ay,?_⟩
  by_cases h2:cc p.au s<0
  ·exact ah (by simp[h2]) ⟨by simp[h2],by trivial⟩
  ·exact an eJ ⟨by simp[h2],by trivial⟩
theorem Y5 (p:Pool) (s:ByteArray) (hS:aJ p≤4194304) (hz:s.size≤140737488355328):ai C Qk [c6 p,vS s] (P7 (JM p s)) []:=by
 have hP:=cD hS;refine(afh _ _ _ _ _ _ _ _ ⟨_,_,_,_,_,_,cA p hS,_,GL p s hS hz,?_⟩).run;unfold JM
 cases h0:uE p s with
 |false=>exact ah cY ⟨rfl,by trivial⟩
 |true=>
  simp only[if_true]
  by_cases hn:cc p.au s<0
  ·simp only[aI hn]
   exact ah cY (by first|exact⟨rfl,by trivial⟩|exact⟨trivial,trivial⟩|simp)
  ·simp only[aF hn]
   obtain⟨v,hv⟩:=Gi hn
   have h1:aC (p.au.map cj) 0 (cc p.au s)=(p.au.take (cc p.au s).toNat).map cj:=by rw[cK];rfl
   have h2:aC (p.au.map cj) (cc p.au s+1) (Int.ofNat p.au.length)=(p.au.drop ((cc p.au s).toNat+1)).map cj:=by
    rw[cK,show(cc p.au s+1).toNat=(cc p.au s).toNat+1 by omega,show(Int.ofNat p.au.length).toNat=p.au.length from rfl,wh]
   have h3:List.append ((p.au.take (cc p.au s).toNat).map cj) ((p.au.drop ((cc p.au s).toNat+1)).map cj)=(FZ p (cc p.au s)).au.map cj:=(uA (f:=cj) (l₁:=p.au.take (cc p.au s).toNat) (l₂:=p.au.drop ((cc p.au s).toNat+1))).symm;have hX:aJ (FZ p (cc p.au s))≤4194304:=uQ (P8 p _) hS
   have R1:(p.au.take (cc p.au s).toNat).length≤p.au.length:=by rw[eP];omega
   have Ea:(p.au.drop ((cc p.au s).toNat+1)).length≤p.au.length:=by rw[iT];omega
   have hi:0≤cc p.au s∧cc p.au s<p.au.length:=Classical.byContradiction fun hn=>by rw[gE hn] at hv;cases hv
   refine an cY ⟨_,jk p s ay,?_⟩;rw[bY,aG ay,h1,h2,h3];refine ah eJ (ah eJ (ah (by rw[wu,cP eJ];rfl) (ah (by rw[wu,cP eJ];rfl) ?_)));exact⟨_,_,_,_,_,_,_,GK p (FZ p (cc p.au s)) hS hX,⟨rfl,by trivial⟩⟩
theorem Y6 (p:Pool) (s:ByteArray) (hS:aJ p≤4194304) (hz:s.size≤140737488355328):ai C Qn [c6 p,vS s] (P7 (JM p s)) []:=by
 have hP:=cD hS;refine(afc _ _ _ _ _ _ _ _ ⟨_,lS p s ay,_,e9 p hS,?_⟩).run;unfold JM uE
 cases ha:c7 p with
 |false=>exact ah rfl ⟨_,_,_,_,_,_,bK p hS,⟨rfl,by trivial⟩⟩
 |true=>
 refine an rfl ⟨_,(nc s hz (jT s)).2 rfl,?_⟩
 cases hb:jT s with
 |false=>exact ah rfl ⟨_,_,_,_,_,_,bK p hS,⟨rfl,by trivial⟩⟩
 |true=>
  refine an rfl ?_;simp only[Bool.and_self,if_true]
  by_cases hn:cc p.au s<0
  ·simp only[aI hn]
   exact ah (by simp[hn]) ⟨_,_,_,_,_,_,bK p hS,⟨rfl,by trivial⟩⟩
  ·simp only[aF hn]
   obtain⟨v,hv⟩:=Gi hn
   have h1:aC (p.au.map cj) 0 (cc p.au s)=(p.au.take (cc p.au s).toNat).map cj:=by rw[cK];rfl
   have h2:aC (p.au.map cj) (cc p.au s+1) (Int.ofNat p.au.length)=(p.au.drop ((cc p.au s).toNat+1)).map cj:=by
    rw[cK,show(cc p.au s+1).toNat=(cc p.au s).toNat+1 by omega,show(Int.ofNat p.au.length).toNat=p.au.length from rfl,wh]
   have h3:List.append ((p.au.take (cc p.au s).toNat).map cj) ((p.au.drop ((cc p.au s).toNat+1)).map cj)=(FZ p (cc p.au s)).au.map cj:=(uA (f:=cj) (l₁:=p.au.take (cc p.au s).toNat) (l₂:=p.au.drop ((cc p.au s).toNat+1))).symm;have hX:aJ (FZ p (cc p.au s))≤4194304:=uQ (P8 p _) hS
   have R1:(p.au.take (cc p.au s).toNat).length≤p.au.length:=by rw[eP];omega
   have Ea:(p.au.drop ((cc p.au s).toNat+1)).length≤p.au.length:=by rw[iT];omega
   have hi:0≤cc p.au s∧cc p.au s<p.au.length:=Classical.byContradiction fun hn=>by rw[gE hn] at hv;cases hv
   refine an eJ ⟨_,_,_,_,_,_,bK p hS,?_⟩;rw[bY,aG ay,h1,h2,h3];refine ah eJ (ah eJ (ah (by rw[wu,cP eJ];rfl) ?_));exact⟨_,_,_,_,_,_,_,ED p (FZ p (cc p.au s)) hS hX,⟨rfl,by trivial⟩⟩
theorem W4 (l:List Age) (id fr:Int) (k:Nat) (hk:k≤l.length) (hl:l.length≤1073741824):ai C so [gy l,vI (k:Int),.c (.sub 2 [[iI id,iI fr]])] (gy (l.take k++⟨id,fr⟩::l.drop k)) []:=by
 refine ai.ext (p:=akK 2 16) rfl ?_;unfold akK;simp only[];rw[aI ⟨trivial,trivial,by omega,by simp<;>omega,cP rV⟩,lY];unfold gy;rw[uA,List.map_cons,Jj,Ed]
 rfl
theorem zh (l:List Age) (id fr:Int) (hl:l.length≤1073741800):ai C iX [gy l,vI id,vI fr] (TV.tu [(0,[TC.sub 2 ((iH l id fr).1.map bR)]),(0,[iB (iH l id fr).2])]) []:=by
 refine(ZK _ _ _ _ ?_).run
 have key:(l.take 0).all (leA id)=true→aa C iX OH 4 0 (rA (l.map bR) id fr ((0:Nat):Int)) (fun x st=>ax C iX OH x st fun r fs=>r=(TV.tu [(0,[TC.sub 2 ((iH l id fr).1.map bR)]),(0,[iB (iH l id fr).2])])∧fs=[]):=by
  have fin: ∀k:Nat,k≤l.length→(l.takeWhile (leA id)).length=k→ ∀Q:QV,Q (TV.tu [(0,[TC.sub 2 ((iH l id fr).1.map bR)]),(0,[iB (iH l id fr).2])]) []→
   ∃(l7:RR),ai C fR ([TV.c (TC.sub 2 (l.map bR))]) (TV.c (TC.sub 2 l7)) []∧(∃(l8:RR),ai C so ([TV.c (TC.sub 2 l7),TV.c (iI (k:Int)),TV.c (TC.sub 2 [[iI id,iI fr]])]) (TV.c (TC.sub 2 l8)) []∧(∃(n9:Int),ai C iQ ([TV.c (TC.sub 2 (l.map bR)),TV.c (iI id)]) (TV.c (iI n9)) []∧(aq (ng 0 n9) (∃(l10:RR),ai C fR ([TV.c (TC.sub 2 (l.map bR))]) (TV.c (TC.sub 2 l10)) []∧(Q (TV.tu [(0,[TC.sub 2 l10]),(0,[iB false])]) ([]))) (∃(b11:Bool),ai C dI ([TV.c (TC.sub 2 l8)]) (TV.c (iB b11)) []∧(aq (!b11) (∃(l12:RR),ai C fR ([TV.c (TC.sub 2 (l.map bR))]) (TV.c (TC.sub 2 l12)) []∧(Q (TV.tu [(0,[TC.sub 2 l12]),(0,[iB false])]) ([]))) (Q (TV.tu [(0,[TC.sub 2 l8]),(0,[iB true])]) ([]))))))):=by
   intro k hk he Q hQ;have hi:=WB (leA id) (⟨id,fr⟩:Age) l he
   have hln:(r5 l id fr).length≤1073741824:=by unfold r5;rw[Al];omega
   refine⟨_,oV l ay,_,W4 l id fr k hk ay,_,xj l id ay,?_⟩;unfold iH at hQ;rw[hi]
   by_cases h1:0≤fm l id
   ·rw[aI h1] at hQ
    exact ah (by simpa using h1) ⟨_,oV l ay,hQ⟩
   ·rw[aF h1] at hQ
    have hok:ai C dI [gy (r5 l id fr)] (vB (gV (r5 l id fr))) []:=y8 (r5 l id fr) hln;refine an rV ⟨_,hok,?_⟩
    by_cases h2:gV (r5 l id fr)=true
    ·rw[aI h2] at hQ
     rw[h2];exact an rfl hQ
    ·rw[aF h2] at hQ
     have h2:gV (r5 l id fr)=false:=by simpa using h2
     rw[h2];exact ah rfl ⟨_,oV l ay,hQ⟩
  refine aZ l (fun i=>(l.take i).all (leA id)=true→aa C iX OH 4 0 (rA (l.map bR) id fr (i:Int)) _) ?_ ?_
  ·intro h0
   refine Iq _ _ _ _ _ (an cY (T8 _ _ _ _ _ (fin l.length (cX _) (agh _ l _ (cX _) h0 fun a ha=> ?_) (fun r fs=>r=(TV.tu [(0,[TC.sub 2 ((iH l id fr).1.map bR)]),(0,[iB (iH l id fr).2])])∧fs=[]) ⟨rfl,by trivial⟩)));rw[VJ (cX _)] at ha;cases ha
  ·intro i a hi ha hd ht hn h0
   refine Iq _ _ _ _ _ (ah rV ⟨a.id,a.fr,by rw[aR,aH,ha];rfl,?_⟩)
   by_cases hle:a.id≤id
   ·refine ah (by simpa using hle) ?_
    rw[aG ay];exact hn (by rw[ht,List.all_append,h0];simp[leA,hle])
   ·refine an (by simpa using hle) (T7 _ _ _ _ _ _ (fin i ay (agh _ l i ay h0 fun b hb=> ?_) (fun r fs=>r=(TV.tu [(0,[TC.sub 2 ((iH l id fr).1.map bR)]),(0,[iB (iH l id fr).2])])∧fs=[]) ⟨rfl,by trivial⟩))
    rw[ha] at hb;cases hb;simp[leA];omega
 exact key rfl
theorem zi (l:List Age) (id fr:Int) (hl:l.length≤1073741800):ai C iq [gy l,vI id,vI fr] (TV.tu [(0,[TC.sub 2 ((iH l id fr).1.map bR)]),(0,[iB (iH l id fr).2])]) []:=by
 refine(aap _ _ _ _ ⟨_,qg l id ay,?_⟩).run
 obtain⟨T,hT⟩: ∃T,T=if 0≤fm l id then l else r5 l id fr:=⟨_,rfl⟩
 have hTl:T.length≤l.length+1:=by
  rw[hT];split
  ·omega
  ·unfold r5;rw[Al];omega
 have key: ∀(b:Bool) (acc:List Age),acc++(if b=true then l.drop 0 else r5 (l.drop 0) id fr)=T→aa C iq av 4 0 (mN (l.map bR) id fr b ((0:Nat):Int) (acc.map bR)) (fun x st=>ax C iq av x st fun r fs=>r=(TV.tu [(0,[TC.sub 2 ((iH l id fr).1.map bR)]),(0,[iB (iH l id fr).2])])∧fs=[]):=by
  have fin: ∀Q:QV,Q (TV.tu [(0,[TC.sub 2 ((iH l id fr).1.map bR)]),(0,[iB (iH l id fr).2])]) []→
   ∃(n17:Int),ai C ef ([TV.c (TC.sub 2 (l.map bR)),TV.c (iI id)]) (TV.c (iI n17)) []∧(aq (ng 0 n17) (aq (bS (l.map bR)&&fits (Nat.add 0 (List.length (l.map bR))) 16) (Q (TV.tu [(0,[TC.sub 2 (l.map bR)]),(0,[iB false])]) ([])) (False)) (∃(b18:Bool),ai C dG ([TV.c (TC.sub 2 (T.map bR))]) (TV.c (iB b18)) []∧(aq (!b18) (aq (bS (l.map bR)&&fits (Nat.add 0 (List.length (l.map bR))) 16) (Q (TV.tu [(0,[TC.sub 2 (l.map bR)]),(0,[iB false])]) ([])) (False)) (Q (TV.tu [(0,[TC.sub 2 (T.map bR)]),(0,[iB true])]) ([]))))):=by
   intro Q hQ
   have Jh:(bS (l.map bR)&&fits (Nat.add 0 (List.length (l.map bR))) 16)=true:=by rw[Ah,cP rV];rfl
   refine⟨_,qg l id ay,?_⟩;unfold iH at hQ
   by_cases h1:0≤fm l id
   ·rw[aI h1] at hQ
    exact ah (by simpa using h1) (ah Jh hQ)
   ·rw[aF h1] at hQ hT
    have hok:ai C dG [gy T] (vB (gV T)) []:=y6 T ay;refine an rV ⟨_,hok,?_⟩;subst hT
    by_cases h2:gV (r5 l id fr)=true
    ·rw[aI h2] at hQ
     rw[h2];exact an rfl hQ
    ·rw[aF h2] at hQ
     have h2:gV (r5 l id fr)=false:=by simpa using h2
     rw[h2];exact ah rfl (ah Jh hQ)
  refine aZ l (fun i=> ∀(b:Bool) (acc:List Age),acc++(if b=true then l.drop i else r5 (l.drop i) id fr)=T→aa C iq av 4 0 (mN (l.map bR) id fr b (i:Int) (acc.map bR)) _) ?_ ?_
  ·intro b acc h0
   have hlen:=congrArg List.length h0;rw[cG] at hlen;refine IV _ _ _ _ _ _ _ (an cY (U1 _ _ _ _ _ _ _ _ ?_));rw[ew] at h0
   cases b with
   |true=>
    simp only[if_true,qt] at h0;subst h0;exact an rfl (fin (fun r fs=>r=(TV.tu [(0,[TC.sub 2 ((iH l id fr).1.map bR)]),(0,[iB (iH l id fr).2])])∧fs=[]) ⟨rfl,by trivial⟩)
   |false=>
    have e:acc++[(⟨id,fr⟩:Age)]=T:=by simpa [r5,yF] using h0
    refine ah rfl (ah (by rw[vR,cP rV];rfl) ?_);rw[B8,e];exact fin (fun r fs=>r=(TV.tu [(0,[TC.sub 2 ((iH l id fr).1.map bR)]),(0,[iB (iH l id fr).2])])∧fs=[]) ⟨rfl,by trivial⟩
  ·intro i a hi ha hd ht hn b acc h0
   have hlen:=congrArg List.length h0;rw[cG] at hlen;refine IV _ _ _ _ _ _ _ (ah rV ?_)
   have hrow:rowAt (l.map bR) (i:Int)=some [iI a.id,iI a.fr]:=by rw[aR,aH,ha];rfl
   have tM:aA (i:Int) 1=((i+1:Nat):Int):=aG ay
   cases b with
   |true=>
    rw[hd] at h0;simp only[if_true] at h0;refine an rfl ⟨_,_,hrow,ah (by rw[vR,cP rV];rfl) ?_⟩;rw[tM,B8];exact hn true (acc++[a]) (by rw[←h0];simp)
   |false=>
    rw[hd] at h0;simp only[Nu,if_false] at h0;unfold r5 at h0;rw[Ms] at h0;refine ah rfl ⟨_,_,hrow,?_⟩
    by_cases hlt:id<a.id
    ·have hle:leA id a=false:=by simp[leA];omega
     rw[hle] at h0;simp only[Nu,if_false] at h0;refine ah (by simpa using hlt) (ah (by rw[vR,cP rV];rfl) ⟨_,_,hrow,ah (by rw[vR,B8,cP rV];rfl) ?_⟩);rw[tM,B8,B8];exact hn true (acc++[⟨id,fr⟩]++[a]) (by rw[←h0];simp)
    ·have hle:leA id a=true:=by simp[leA];omega
     rw[hle] at h0;simp only[if_true] at h0;refine an (by simpa using hlt) ⟨_,_,hrow,ah (by rw[vR,cP rV];rfl) ?_⟩;rw[tM,B8];exact hn false (acc++[a]) (by rw[←h0];simp[r5])
 refine key (ng 0 (fm l id)) [] ?_;rw[hT,gl]
 by_cases h1:0≤fm l id<;>simp[h1]
theorem AU (l:List Vol) (v:Vol) (hl:l.length≤1073741800):ai C fO [qW l,.ag (cj v)] (qW (lO l v)) []:=by
 refine(RG _ _ _ _ _ _ ?_).run;have hTl:(lO l v).length=l.length+1:=Al _ _ _
 have key: ∀(b:Bool) (acc:List Vol),acc++(if b=true then l.drop 0 else lO (l.drop 0) v)=lO l v→aa C fO av 4 0 (jD b (l.map cj) ((0:Nat):Int) v.name v.cV v.size v.fx (acc.map cj)) (fun x st=>ax C fO av x st fun r fs=>r=qW (lO l v)∧fs=[]):=by
  refine aZ l (fun i=> ∀(b:Bool) (acc:List Vol),acc++(if b=true then l.drop i else lO (l.drop i) v)=lO l v→aa C fO av 4 0 (jD b (l.map cj) (i:Int) v.name v.cV v.size v.fx (acc.map cj)) _) ?_ ?_
  ·intro b acc h0
   have hlen:=congrArg List.length h0;rw[cG] at hlen;refine Bt _ _ _ _ _ _ _ _ _ (an cY (Nh _ _ _ _ _ _ _ _ _ _ _ ?_));rw[ew] at h0
   cases b with
   |true=>
    simp only[if_true,qt] at h0;exact an rfl (by rw[h0];exact⟨rfl,by trivial⟩)
   |false=>
    have e:acc++[v]=lO l v:=by rw[←h0];simp[lO,yF]
    refine ah rfl (ah (by rw[vT,cP rV];rfl) ?_);rw[FX];exact⟨by rw[e],rfl⟩
  ·intro i a hi ha hd ht hn b acc h0
   have hlen:=congrArg List.length h0;rw[cG] at hlen
   have hrow:rowAt (l.map cj) (i:Int)=some [iS a.name,iI a.cV,iI a.size,iB a.fx]:=by rw[aR,aH,ha];rfl
   have tM:aA (i:Int) 1=((i+1:Nat):Int):=aG ay;refine Bt _ _ _ _ _ _ _ _ _ (ah rV ⟨_,_,_,_,hrow,?_⟩)
   cases b with
   |true=>
    rw[hd] at h0;simp only[if_true] at h0;refine an rfl (ah (by rw[vT,cP rV];rfl) ?_);rw[tM,FX];exact hn true (acc++[a]) (by rw[←h0];simp)
   |false=>
    rw[hd] at h0;simp only[Nu,if_false] at h0;unfold lO at h0;rw[Ms] at h0;refine ah rfl ?_
    cases hle:Sq v a with
    |false=>
     rw[hle] at h0;simp only[Nu,if_false] at h0;refine ah (by unfold Sq at hle;rw[hle];rfl) (ah (by rw[vT,cP rV];rfl) (ah (by rw[vT,FX,cP rV];rfl) ?_));rw[tM,FX,FX];exact hn true (acc++[v]++[a]) (by rw[show lO l v=yF (Sq v) v l from rfl,←h0];simp)
    |true=>
     rw[hle] at h0;simp only[if_true] at h0;refine an (by unfold Sq at hle;rw[hle];rfl) (ah (by rw[vT,cP rV];rfl) ?_);rw[tM,FX];exact hn false (acc++[a]) (by rw[show lO l v=yF (Sq v) v l from rfl,←h0];simp[lO])
 exact key false [] rfl
theorem AV (l:List Vol) (v:Vol) (hr:DR l) (hl:l.length≤1073741800):ai C eF [qW l,.ag (cj v)] (qW (lO l v)) []:=by
 have key: ∀(k:Nat) (y:Vol),k≤l.length→(∀u∈l.drop k,Sq v u=false)→aa C eF kQ 4 0 (kT (k:Int) v.name v.cV v.size v.fx ((l.take k++y::l.drop k).map cj)) (fun x st=>ax C eF kQ x st fun r fs=>r=qW (lO l v)∧fs=[]):=by
  intro k
  induction k with
  |zero=>
   intro y hk hg
   have BH:rowAt ((l.take 0++y::l.drop 0).map cj) ((0:Nat):Int)=some [iS y.name,iI y.cV,iI y.size,iB y.fx]:=by rw[aR,aH];rfl
   refine Bp _ _ _ _ _ _ _ (an cY (Nb _ _ _ _ _ _ _ ⟨_,_,_,_,BH,_,_,_,_,BH,?_⟩));refine⟨?_,rfl⟩;have:=WB (Sq v) v l (hr.cut (k:=0) hk hg fun u h=>absurd h ay);rw[show lO l v=yF (Sq v) v l from rfl,←this,show((0:Nat):Int)=0 from rfl];simp[setRow,cj]
  |succ k ih=>
   intro y hk hg
   have KX:k<l.length:=by omega
   obtain⟨a,ha⟩: ∃a,l[k]?=some a:=⟨_,cm KX⟩
   have hsub:cO ((k+1:Nat):Int) 1=(k:Int):=by rw[dh ay];omega
   have htl:(l.take (k+1)).length=k+1:=by rw[eP];omega
   have hgk:(l.take (k+1)++y::l.drop (k+1))[k]?=some a:=by rw[nv ay,BJ,aI ay,ha]
   have arG:(l.take (k+1)++y::l.drop (k+1))[k+1]?=some y:=by rw[pO ay,htl,qU];rfl
   have hra:rowAt ((l.take (k+1)++y::l.drop (k+1)).map cj) (k:Int)=some [iS a.name,iI a.cV,iI a.size,iB a.fx]:=by rw[aR,aH,hgk];rfl
   have hry:rowAt ((l.take (k+1)++y::l.drop (k+1)).map cj) ((k+1:Nat):Int)=some [iS y.name,iI y.cV,iI y.size,iB y.fx]:=by rw[aR,aH,arG];rfl
   have D7: ∀u:Vol,setRow ((l.take (k+1)++y::l.drop (k+1)).map cj) ((k+1:Nat):Int) 0 [iS u.name,iI u.cV,iI u.size,iB u.fx]=(l.take (k+1)++u::l.drop (k+1)).map cj:=fun u=>by
    rw[Ml (a:=y) (a':=u) arG rfl]
    congr 1
    rw[List.set_append_right _ _ ay,htl,qU]
    rfl
   refine Bp _ _ _ _ _ _ _ (ah rV ?_);rw[hsub];refine⟨_,_,_,_,hra,_,_,_,_,hra,?_⟩
   cases hle:Sq v a with
   |false=>
    refine ah (by unfold Sq at hle;rw[hle];rfl) ⟨_,_,_,_,hra,_,_,_,_,hra,_,_,_,_,hry,_,_,_,_,hry,?_⟩;rw[D7 a]
    have e:l.take (k+1)++a::l.drop (k+1)=l.take k++a::l.drop k:=by
     rw[List.take_add_one,ha,Gu KX,show l[k]=a from by rw[cm KX] at ha;exact Option.some.inj ha];simp
    rw[e];refine ih a ay fun u hu=> ?_;rw[Gu KX,show l[k]=a from by rw[cm KX] at ha;exact Option.some.inj ha] at hu;rcases fY.1 hu with rfl|hu
    ·exact hle
    ·exact hg u hu
   |true=>
    refine an (by unfold Sq at hle;rw[hle];rfl) (Na _ _ _ _ _ _ _ _ ⟨_,_,_,_,hry,_,_,_,_,hry,?_⟩);rw[D7 v];refine⟨?_,rfl⟩;have:=WB (Sq v) v l (hr.cut (k:=k+1) hk hg fun u _ hu=>by rw[Nat.add_sub_cancel,ha] at hu;cases hu;exact hle);rw[show lO l v=yF (Sq v) v l from rfl,←this]
 have h0:(bS (l.map cj)&&fits (Nat.add 0 (l.map cj).length) 40)=true:=by rw[wu,cP rV];rfl
 have h00:(bS [[iS v.name,iI v.cV,iI v.size,iB v.fx]]&&fits (Nat.succ (l.map cj).length) 40)=true:=by rw[vT,cP rV];rfl
 have hstart:aa C eF kQ 4 0 (kT (cO (Int.ofNat (List.length (List.append (l.map cj) [[iS v.name,iI v.cV,iI v.size,iB v.fx]]))) 1) v.name v.cV v.size v.fx (List.append (l.map cj) [[iS v.name,iI v.cV,iI v.size,iB v.fx]])) (fun x st=>ax C eF kQ x st fun r fs=>(r,fs)=(qW (lO l v),([]:List TV))):=by
  have hk:=key l.length v (cX _) (by rw[ew];intro u hu;cases hu);rw[wh,ew] at hk;rw[FX]
  have e:cO (Int.ofNat ((l++[(⟨v.name,v.cV,v.size,v.fx⟩:Vol)]).map cj).length) 1=(l.length:Int):=by
   rw[dh rV];simp
  rw[e]
  have eQ:(fun(r:TV) (fs:List TV)=>(r,fs)=(qW (lO l v),([]:List TV)))=fun r fs=>r=qW (lO l v)∧fs=[]:=by
   funext r fs;simp
  rw[eQ];exact hk
 have S:=ah (B:=False) h0 (ah (B:=False) h00 hstart);exact(Re _ _ _ _ _ _ ⟨(qW (lO l v),[]),⟨(qW (lO l v),[]),S,S,rfl⟩,S,⟨rfl,by trivial⟩⟩).run
theorem j9 (p x:Pool) (ok:Bool) (hS:aJ p≤4194304) (hX:aJ x≤4194304):ai C gC [c6 p,c6 x,vB ok] (P7 (Ez p x ok)) []:=by
 cases ok with
 |true=>exact GK p x hS hX
 |false=>
  refine(L4 _ _ _ _ _ _ _ _ _ _ _ _ _ _ ?_).run;exact ah rfl ⟨_,_,_,_,_,_,cA p hS,⟨rfl,by trivial⟩⟩
theorem jz (p x:Pool) (ok:Bool) (hS:aJ p≤4194304) (hX:aJ x≤4194304):ai C jn [c6 p,c6 x,vB ok] (P7 (Ez p x ok)) []:=by
 cases ok with
 |true=>exact ED p x hS hX
 |false=>
  refine(KM _ _ _ _ _ _ _ _ _ _ _ _ _ _ ?_).run;exact ah rfl ⟨_,_,_,_,_,_,bK p hS,⟨rfl,by trivial⟩⟩
theorem S4 (p:Pool) (s:ByteArray) (n:Int) (hS:aJ p≤1048576) (hz:s.size≤1048576):ai C J1 [c6 p,vS s,vI n] (P7 (yj p s n)) []:=by
 have hX:aJ (F0 p s n)≤4194304:=by have:=WC p s n;omega
 have r8:aJ p≤4194304:=by omega
 have hP:=cD r8;refine(Zh _ _ _ _ _ _ _ _ _ ⟨_,yc p s r8 ay,?_⟩).run;unfold yj
 cases h0:uE p s with
 |false=>exact ah cY ⟨_,_,_,_,_,_,cA p r8,⟨rfl,by trivial⟩⟩
 |true=>
  have hPO:c7 p=true:=by unfold uE at h0;simp only[eY] at h0;exact h0.1
  have hnx:1≤p.next∧p.next≤61:=by
   have:=hPO;unfold c7 at this;simp only[eY] at this;have h:=this.2.2.2.2.1;unfold iC at h;simpa using h
  refine an cY ⟨_,jk p s ay,?_⟩;simp only[if_true]
  by_cases h1:0≤cc p.au s
  ·rw[aI h1]
   exact ah (by simpa using h1) ⟨_,_,_,_,_,_,cA p r8,⟨rfl,by trivial⟩⟩
  ·rw[aF h1]
   refine an rV ⟨_,tE n 1 12,?_⟩
   cases h2:iC n 1 12 with
   |false=>exact ah rfl ⟨_,_,_,_,_,_,cA p r8,⟨rfl,by trivial⟩⟩
   |true=>
    refine an rfl ⟨_,_,_,_,_,_,cA p r8,_,_,zi p.aL p.next 0 ay,_,AV p.au ⟨s,p.next,n,false⟩ (Qa hPO) ay,?_⟩;rw[aG ay];exact⟨_,_,_,_,_,_,_,j9 p (F0 p s n) _ r8 hX,⟨rfl,by trivial⟩⟩
theorem S5 (p:Pool) (s:ByteArray) (n:Int) (hS:aJ p≤1048576) (hz:s.size≤1048576):ai C J2 [c6 p,vS s,vI n] (P7 (yj p s n)) []:=by
 have hX:aJ (F0 p s n)≤4194304:=by have:=WC p s n;omega
 have r8:aJ p≤4194304:=by omega
 have hP:=cD r8;refine(aak _ _ _ _ _ _ _ _ _ ⟨_,e9 p r8,?_⟩).run;unfold yj uE
 cases hPO:c7 p with
 |false=>exact ah rfl ⟨_,_,_,_,_,_,bK p r8,⟨rfl,by trivial⟩⟩
 |true=>
  have hnx:1≤p.next∧p.next≤61:=by
   have:=hPO;unfold c7 at this;simp only[eY] at this;have h:=this.2.2.2.2.1;unfold iC at h;simpa using h
  refine an rfl ⟨_,(nc s ay (jT s)).2 rfl,?_⟩
  cases hb:jT s with
  |false=>exact ah rfl ⟨_,_,_,_,_,_,bK p r8,⟨rfl,by trivial⟩⟩
  |true=>
   refine an rfl ⟨_,lS p s ay,?_⟩;simp only[Bool.and_self,if_true]
   by_cases h1:0≤cc p.au s
   ·rw[aI h1]
    exact ah (by simpa using h1) ⟨_,_,_,_,_,_,bK p r8,⟨rfl,by trivial⟩⟩
   ·rw[aF h1]
    refine an rV ⟨_,nL n 1 12,?_⟩
    cases h2:iC n 1 12 with
    |false=>exact ah rfl ⟨_,_,_,_,_,_,bK p r8,⟨rfl,by trivial⟩⟩
    |true=>
     refine an rfl ⟨_,_,_,_,_,_,bK p r8,_,_,zh p.aL p.next 0 ay,_,AU p.au ⟨s,p.next,n,false⟩ ay,?_⟩;rw[aG ay];exact⟨_,_,_,_,_,_,_,jz p (F0 p s n) _ r8 hX,⟨rfl,by trivial⟩⟩
theorem Y7 (p:Pool) (s to:ByteArray) (fx:Bool) (hS:aJ p≤1048576) (hz:s.size≤1048576) (hz2:to.size≤1048576):ai C Qj [c6 p,vS s,vS to,vB fx] (P7 (LM p s to fx)) []:=by
 have hX: ∀v,aJ (Ob p to (cc p.au s) v fx)≤4194304:=fun v=>by have:=aex p to (cc p.au s) v fx;omega
 have r8:aJ p≤4194304:=by omega
 have hP:=cD r8;refine(afb _ _ _ _ _ _ _ _ _ _ ⟨_,yc p s r8 ay,?_⟩).run;unfold LM
 cases h0:uE p s with
 |false=>exact ah cY ⟨_,_,_,_,_,_,cA p r8,⟨by simp,by trivial⟩⟩
 |true=>
 have hPO:c7 p=true:=by unfold uE at h0;simp only[eY] at h0;exact h0.1
 have hnx:1≤p.next∧p.next≤61:=by
  have:=hPO;unfold c7 at this;simp only[eY] at this;have h:=this.2.2.2.2.1;unfold iC at h;simpa using h
 refine an cY ⟨_,(uZ to ay (jT to)).2 rfl,?_⟩
 cases hb:jT to with
 |false=>exact ah rfl ⟨_,_,_,_,_,_,cA p r8,⟨by simp,by trivial⟩⟩
 |true=>
 rw[aI ⟨rfl,by trivial⟩];refine an rfl ⟨_,jk p s ay,?_⟩
 by_cases hn:cc p.au s<0
 ·rw[gE ay]
  exact ah (by simpa using hn) ⟨_,_,_,_,_,_,cA p r8,⟨rfl,by trivial⟩⟩
 ·obtain⟨v,hv,_⟩:=w4 _ p.au (show ¬eT (fun v:Vol=>decide (v.name=s)) p.au 0<0 from hn)
  have hv:fh p.au (cc p.au s)=some v:=hv
  have hrow:rowAt (p.au.map cj) (cc p.au s)=some [iS v.name,iI v.cV,iI v.size,iB v.fx]:=by rw[aR,hv];rfl
  have R1:=AJ p.aL p.next v.cV;have aoh:DR (p.au.modify (cc p.au s).toNat fun u=>{u with cV:=p.next}):=DR.modify (f:=fun u:Vol=>{u with cV:=p.next}) (fun _=>rfl) _ (Qa hPO)
  have hml:(p.au.modify (cc p.au s).toNat fun u=>{u with cV:=p.next}).length≤4194304:=by rw[R5];omega
  have ha1:aA p.next 1=p.next+1:=aG ay;have ha2:aA p.next 2=p.next+2:=aG ay;have hXv:=hX v;rw[hv];refine an (by simpa using hn) ⟨_,jk p to ay,?_⟩;simp only[]
  by_cases h1:0≤cc p.au to
  ·rw[aI h1]
   exact ah (by simpa using h1) ⟨_,_,_,_,_,_,cA p r8,⟨rfl,by trivial⟩⟩
  ·rw[aF h1]
   rw[ha1,ha2];refine an rV ⟨_,_,_,_,_,_,cA p r8,_,jk p s ay,_,_,_,_,hrow,_,_,zi p.aL p.next v.cV ay,_,_,_,_,hrow,_,_,zi (iH p.aL p.next v.cV).1 (p.next+1) v.cV ay,_,_,_,_,hrow,_,_,_,_,hrow,_,_,_,_,hrow,?_⟩;rw[Mo];refine⟨_,AV _ ⟨to,p.next+1,v.size,fx⟩ aoh ay,?_⟩
   cases hq:(iH p.aL p.next v.cV).2 with
   |true=>exact ah rfl ⟨_,_,_,_,_,_,_,j9 p (Ob p to (cc p.au s) v fx) _ r8 hXv,⟨rfl,by trivial⟩⟩
   |false=>exact an rfl ⟨_,_,_,_,_,_,_,j9 p (Ob p to (cc p.au s) v fx) _ r8 hXv,⟨rfl,by trivial⟩⟩
theorem Y8 (p:Pool) (s to:ByteArray) (fx:Bool) (hS:aJ p≤1048576) (hz:s.size≤1048576) (hz2:to.size≤1048576):ai C Qm [c6 p,vS s,vS to,vB fx] (P7 (LM p s to fx)) []:=by
 have hX: ∀v,aJ (Ob p to (cc p.au s) v fx)≤4194304:=fun v=>by have:=aex p to (cc p.au s) v fx;omega
 have r8:aJ p≤4194304:=by omega
 have hP:=cD r8;refine(ae7 _ _ _ _ _ _ _ _ _ _ ⟨_,lS p s ay,_,e9 p r8,?_⟩).run;unfold LM uE
 cases hPO:c7 p with
 |false=>exact ah rfl ⟨_,_,_,_,_,_,bK p r8,⟨by simp,by trivial⟩⟩
 |true=>
 have hnx:1≤p.next∧p.next≤61:=by
  have:=hPO;unfold c7 at this;simp only[eY] at this;have h:=this.2.2.2.2.1;unfold iC at h;simpa using h
 refine an rfl ⟨_,(nc s ay (jT s)).2 rfl,?_⟩
 cases ha:jT s with
 |false=>exact ah rfl ⟨_,_,_,_,_,_,bK p r8,⟨by simp,by trivial⟩⟩
 |true=>
 refine an rfl ⟨_,(nc to ay (jT to)).2 rfl,?_⟩
 cases hb:jT to with
 |false=>exact ah rfl ⟨_,_,_,_,_,_,bK p r8,⟨by simp,by trivial⟩⟩
 |true=>
 rw[aI ⟨rfl,by trivial⟩];refine an rfl ?_
 by_cases hn:cc p.au s<0
 ·rw[gE ay]
  exact ah (by simpa using hn) ⟨_,_,_,_,_,_,bK p r8,⟨rfl,by trivial⟩⟩
 ·obtain⟨v,hv,_⟩:=w4 _ p.au (show ¬eT (fun v:Vol=>decide (v.name=s)) p.au 0<0 from hn)
  have hv:fh p.au (cc p.au s)=some v:=hv
  have hrow:rowAt (p.au.map cj) (cc p.au s)=some [iS v.name,iI v.cV,iI v.size,iB v.fx]:=by rw[aR,hv];rfl
  have R1:=AJ p.aL p.next v.cV;have aoh:DR (p.au.modify (cc p.au s).toNat fun u=>{u with cV:=p.next}):=DR.modify (f:=fun u:Vol=>{u with cV:=p.next}) (fun _=>rfl) _ (Qa hPO)
  have hml:(p.au.modify (cc p.au s).toNat fun u=>{u with cV:=p.next}).length≤4194304:=by rw[R5];omega
  have ha1:aA p.next 1=p.next+1:=aG ay;have ha2:aA p.next 2=p.next+2:=aG ay;have hXv:=hX v;rw[hv];refine an (by simpa using hn) ⟨_,lS p to ay,?_⟩;simp only[]
  by_cases h1:0≤cc p.au to
  ·rw[aI h1]
   exact ah (by simpa using h1) ⟨_,_,_,_,_,_,bK p r8,⟨rfl,by trivial⟩⟩
  ·rw[aF h1]
   rw[ha1];refine an rV ⟨_,_,_,_,_,_,bK p r8,_,_,_,_,hrow,_,_,zh p.aL p.next v.cV ay,_,_,zh (iH p.aL p.next v.cV).1 (p.next+1) v.cV ay,_,_,_,_,hrow,_,_,_,_,hrow,?_⟩;rw[Mo,ha2];refine⟨_,AU _ ⟨to,p.next+1,v.size,fx⟩ ay,?_⟩
   cases hq:(iH p.aL p.next v.cV).2 with
   |true=>exact ah rfl ⟨_,_,_,_,_,_,_,jz p (Ob p to (cc p.au s) v fx) _ r8 hXv,⟨rfl,by trivial⟩⟩
   |false=>exact an rfl ⟨_,_,_,_,_,_,_,jz p (Ob p to (cc p.au s) v fx) _ r8 hXv,⟨rfl,by trivial⟩⟩
theorem mq (l:List Key) (hl:l.length≤1073741824):ai C aW [dM l] (hD (dN l)) []:=by
 refine(KF _ _ ?_).run;unfold dN
 by_cases h:l.length=0
 ·exact ah (by simp[h]) ⟨by rw[aI h];rfl,rfl⟩
 ·refine an (by rw[bY,lX,bE];exact fe ay) ?_
  rw[show bS (l.map bQ)=true from ni _,cP eJ];exact⟨by rw[aF h];rfl,rfl⟩
theorem sq (l:List Key) (hl:l.length≤1073741824):ai C dW [dM l] (hD (dN l)) []:=by
 refine(KJ _ _ ?_).run;unfold dN
 by_cases h:l.length=0
 ·exact ah (by simp[h]) ⟨by rw[aI h];rfl,rfl⟩
 ·refine an (by rw[bY,lX,bE];exact fe ay) ?_
  exact⟨_,oU l ay,⟨by rw[aF h];rfl,rfl⟩⟩
theorem Cr (n:List (List Key)) (k:Key) (hb:n.length≤1073740000) (hl:tot bZ n≤1073740000):ai C iu [hD n,uJ k] (dM (dy n k)) []:=by
 have h1:=dx n;have h2:=th (aU n) k;exact(UD _ _ _ _ _ _ _ ⟨_,(kC n ay ay _).2 rfl,_,vi (aU n) k ay,_,LQ (iF (aU n) k) ay,⟨rfl,by trivial⟩⟩).run
theorem QN (n:List (List Key)) (k:Key) (hb:n.length≤1073740000) (hl:tot bZ n≤1073740000):ai C Gb [hD n,uJ k] (tNB (cZ n k)) []:=by
 have hs: ∀s∈n,s.length≤1073741824:=fun s hm=>by have:=oE (w:=bZ) hm;unfold bZ at this hl;omega
 have Jh:=xk n ay hs;have hXl:=Mu n k;have hXt:=Mv n k
 have tail: ∀(X:List (List Key)) (Q:QV),X=mW n k→Q (tNB (cZ n k)) []→ ∃(b18:Bool),ai C cn ([TV.ag [TC.sub 1 (X.map cW)]]) (TV.c (iB b18)) []∧(aq b18 (Q (TV.tu [(1,[TC.sub 1 (X.map cW)]),(0,[iB true])]) ([])) (∃(l19:RR),ai C iu ([TV.ag [TC.sub 1 (n.map cW)],uJ k]) (TV.c (TC.sub 5 l19)) []∧(∃(l20:RR),ai C dW ([TV.c (TC.sub 5 l19)]) (TV.ag [TC.sub 1 l20]) []∧(aq (bL 8 (Int.ofNat (List.length l19))) (∃(l21:RR),ai C bB ([TV.ag [TC.sub 1 (n.map cW)]]) (TV.ag [TC.sub 1 l21]) []∧(Q (TV.tu [(1,[TC.sub 1 l21]),(0,[iB false])]) ([]))) (∃(b22:Bool),ai C cn ([TV.ag [TC.sub 1 l20]]) (TV.c (iB b22)) []∧(aq (!b22) (∃(l23:RR),ai C bB ([TV.ag [TC.sub 1 (n.map cW)]]) (TV.ag [TC.sub 1 l23]) []∧(Q (TV.tu [(1,[TC.sub 1 l23]),(0,[iB false])]) ([]))) (Q (TV.tu [(1,[TC.sub 1 l20]),(0,[iB true])]) ([])))))))):=by
  intro X Q hX hQ;rw[←hX] at hXl hXt;have hok:ai C cn [hD X] (vB (iG X)) []:=y7 X ay ay;have hkl:=tW n k;have hnl:=Ca (dy n k);have hnt:=Cb (dy n k);have ap0:ai C cn [hD (dN (dy n k))] (vB (iG (dN (dy n k)))) []:=y7 _ ay ay;refine⟨_,hok,?_⟩;unfold cZ at hQ;rw[←hX] at hQ
  cases h1:iG X with
  |true=>
   rw[aI h1] at hQ;exact ah rfl hQ
  |false=>
   rw[aF (by rw[h1];simp)] at hQ;refine an rfl ⟨_,Cr n k ay ay,_,sq (dy n k) ay,?_⟩
   by_cases h2:8<(dy n k).length
   ·rw[aI h2] at hQ
    exact ah rV ⟨_,Jh,hQ⟩
   ·rw[aF h2] at hQ
    refine an rV ⟨_,ap0,?_⟩
    cases h3:iG (dN (dy n k)) with
    |true=>
     rw[aI h3] at hQ;exact an rfl hQ
    |false=>
     rw[aF (by rw[h3];simp)] at hQ;exact ah rfl ⟨_,Jh,hQ⟩
 refine(XL _ _ _ _ _ _ _ ⟨_,Jh,?_⟩).run;rw[bY]
 cases va:n[n.length-1]? with
 |none=>
  have h0:n.length=0:=Classical.byContradiction fun h=>by rw[cm ay] at va;cases va
  have hX:n++[[k]]=mW n k:=by unfold mW;rw[va]
  refine an (by rw[h0,dh cY];simp) ((ah (cP rV) ?_));rw[show List.append (n.map cW) [[TC.sub 5 [[iI k.b,iI k.a,iI k.k,iI k.c,iI k.g]]]]=(n++[[k]]).map cW from by simp[cW,bQ]];exact tail _ (fun r fs=>r=tNB (cZ n k)∧fs=[]) hX ⟨rfl,by trivial⟩
 |some s=>
  have hlt:=(List.getElem?_eq_some_iff.1 va).1
  have hsub:cO (Int.ofNat n.length) 1=((n.length-1:Nat):Int):=by rw[dh rV];simp;omega
  have hrow:rowAt (n.map cW) ((n.length-1:Nat):Int)=some [TC.sub 5 (s.map bQ)]:=by rw[aR,aH,va];rfl
  have hsl:=hs s (gQ va);have D7:setRow (n.map cW) ((n.length-1:Nat):Int) 0 [TC.sub 5 ((iF s k).map bQ)]=(n.set (n.length-1) (iF s k)).map cW:=Ml (a:=s) (a':=iF s k) va rfl
  have ap1:List.append (n.map cW) [[TC.sub 5 [[iI k.b,iI k.a,iI k.k,iI k.c,iI k.g]]]]=(n++[[k]]).map cW:=by simp[cW,bQ]
  have hfit:fits (Nat.succ n.length) 24=true:=cP rV;rw[hsub];refine ah cY ⟨_,hrow,?_⟩
  have key: ∀Q:QV,Q (tNB (cZ n k)) []→ ∃(n8:Int) (n9:Int) (n10:Int) (n11:Int) (n12:Int) (b13:Bool),ai C iR ([TV.c (TC.sub 5 (s.map bQ)),TV.c (iI k.b),TV.c (iI k.a)]) (TV.tu [(1,[iI n8,iI n9,iI n10,iI n11,iI n12]),(0,[iB b13])]) []∧(aq b13 (∃(l14:RR),rowAt (n.map cW) ((n.length-1:Nat):Int)=some [TC.sub 5 l14]∧(∃(l15:RR),ai C eD ([TV.c (TC.sub 5 l14),uJ k]) (TV.c (TC.sub 5 l15)) []∧(∃(l16:RR),rowAt (n.map cW) ((n.length-1:Nat):Int)=some [TC.sub 5 l16]∧(∃(l17:RR),rowAt (n.map cW) ((n.length-1:Nat):Int)=some [TC.sub 5 l17]∧(∃(b18:Bool),ai C cn ([TV.ag [TC.sub 1 (setRow (n.map cW) ((n.length-1:Nat):Int) 0 [TC.sub 5 l15])]]) (TV.c (iB b18)) []∧(aq b18 (Q (TV.tu [(1,[TC.sub 1 (setRow (n.map cW) ((n.length-1:Nat):Int) 0 [TC.sub 5 l15])]),(0,[iB true])]) ([])) (∃(l19:RR),ai C iu ([TV.ag [TC.sub 1 (n.map cW)],uJ k]) (TV.c (TC.sub 5 l19)) []∧(∃(l20:RR),ai C dW ([TV.c (TC.sub 5 l19)]) (TV.ag [TC.sub 1 l20]) []∧(aq (bL 8 (Int.ofNat (List.length l19))) (∃(l21:RR),ai C bB ([TV.ag [TC.sub 1 (n.map cW)]]) (TV.ag [TC.sub 1 l21]) []∧(Q (TV.tu [(1,[TC.sub 1 l21]),(0,[iB false])]) ([]))) (∃(b22:Bool),ai C cn ([TV.ag [TC.sub 1 l20]]) (TV.c (iB b22)) []∧(aq (!b22) (∃(l23:RR),ai C bB ([TV.ag [TC.sub 1 (n.map cW)]]) (TV.ag [TC.sub 1 l23]) []∧(Q (TV.tu [(1,[TC.sub 1 l23]),(0,[iB false])]) ([]))) (Q (TV.tu [(1,[TC.sub 1 l20]),(0,[iB true])]) ([])))))))))))))
   (∃(l24:RR),rowAt (n.map cW) ((n.length-1:Nat):Int)=some [TC.sub 5 l24]∧(aq (bL (Int.ofNat (List.length l24)) 4) (∃(l25:RR),rowAt (n.map cW) ((n.length-1:Nat):Int)=some [TC.sub 5 l25]∧(∃(l26:RR),ai C eD ([TV.c (TC.sub 5 l25),uJ k]) (TV.c (TC.sub 5 l26)) []∧(∃(l27:RR),rowAt (n.map cW) ((n.length-1:Nat):Int)=some [TC.sub 5 l27]∧(∃(l28:RR),rowAt (n.map cW) ((n.length-1:Nat):Int)=some [TC.sub 5 l28]∧(∃(b18:Bool),ai C cn ([TV.ag [TC.sub 1 (setRow (n.map cW) ((n.length-1:Nat):Int) 0 [TC.sub 5 l26])]]) (TV.c (iB b18)) []∧(aq b18 (Q (TV.tu [(1,[TC.sub 1 (setRow (n.map cW) ((n.length-1:Nat):Int) 0 [TC.sub 5 l26])]),(0,[iB true])]) ([])) (∃(l19:RR),ai C iu ([TV.ag [TC.sub 1 (n.map cW)],uJ k]) (TV.c (TC.sub 5 l19)) []∧(∃(l20:RR),ai C dW ([TV.c (TC.sub 5 l19)]) (TV.ag [TC.sub 1 l20]) []∧(aq (bL 8 (Int.ofNat (List.length l19))) (∃(l21:RR),ai C bB ([TV.ag [TC.sub 1 (n.map cW)]]) (TV.ag [TC.sub 1 l21]) []∧(Q (TV.tu [(1,[TC.sub 1 l21]),(0,[iB false])]) ([]))) (∃(b22:Bool),ai C cn ([TV.ag [TC.sub 1 l20]]) (TV.c (iB b22)) []∧(aq (!b22) (∃(l23:RR),ai C bB ([TV.ag [TC.sub 1 (n.map cW)]]) (TV.ag [TC.sub 1 l23]) []∧(Q (TV.tu [(1,[TC.sub 1 l23]),(0,[iB false])]) ([]))) (Q (TV.tu [(1,[TC.sub 1 l20]),(0,[iB true])]) ([]))))))))))))) (aq (fits (Nat.succ (List.length n)) 24) (∃(b18:Bool),ai C cn ([TV.ag [TC.sub 1 (List.append (n.map cW) [[TC.sub 5 [[iI k.b,iI k.a,iI k.k,iI k.c,iI k.g]]]])]]) (TV.c (iB b18)) []∧(aq b18 (Q (TV.tu [(1,[TC.sub 1 (List.append (n.map cW) [[TC.sub 5 [[iI k.b,iI k.a,iI k.k,iI k.c,iI k.g]]]])]),(0,[iB true])]) ([])) (∃(l19:RR),ai C iu ([TV.ag [TC.sub 1 (n.map cW)],uJ k]) (TV.c (TC.sub 5 l19)) []∧(∃(l20:RR),ai C dW ([TV.c (TC.sub 5 l19)]) (TV.ag [TC.sub 1 l20]) []∧(aq (bL 8 (Int.ofNat (List.length l19))) (∃(l21:RR),ai C bB ([TV.ag [TC.sub 1 (n.map cW)]]) (TV.ag [TC.sub 1 l21]) []∧(Q (TV.tu [(1,[TC.sub 1 l21]),(0,[iB false])]) ([]))) (∃(b22:Bool),ai C cn ([TV.ag [TC.sub 1 l20]]) (TV.c (iB b22)) []∧(aq (!b22) (∃(l23:RR),ai C bB ([TV.ag [TC.sub 1 (n.map cW)]]) (TV.ag [TC.sub 1 l23]) []∧(Q (TV.tu [(1,[TC.sub 1 l23]),(0,[iB false])]) ([]))) (Q (TV.tu [(1,[TC.sub 1 l20]),(0,[iB true])]) ([]))))))))) (False))))):=by
   intro Q hQ;refine⟨_,_,_,_,_,_,Kf s k.b k.a hsl,?_⟩
   cases h1:(Ex s k.b k.a).2 with
   |true=>
    have hX:n.set (n.length-1) (iF s k)=mW n k:=by unfold mW Mt;rw[va];simp[h1]
    refine ah rfl ⟨_,hrow,_,vi s k hsl,_,hrow,_,hrow,?_⟩;rw[D7];exact tail _ _ hX hQ
   |false=>
    refine an rfl ⟨_,hrow,?_⟩
    by_cases h2:s.length<4
    ·have hX:n.set (n.length-1) (iF s k)=mW n k:=by unfold mW Mt;rw[va];simp[h1,h2]
     refine ah rV ⟨_,hrow,_,vi s k hsl,_,hrow,_,hrow,?_⟩;rw[D7];exact tail _ _ hX hQ
    ·have hX:n++[[k]]=mW n k:=by unfold mW Mt;rw[va];simp[h1,h2]
     refine an rV (ah hfit ?_);rw[ap1];exact tail _ _ hX hQ
  exact⟨(tNB (cZ n k),[]),key (fun a b=>(a,b)=(tNB (cZ n k),([]:List TV))) rfl,key (fun a b=>(a,b)=(tNB (cZ n k),([]:List TV))) rfl,⟨rfl,rfl⟩⟩
theorem QO (n:List (List Key)) (k:Key) (hb:n.length≤1073740000) (hl:tot bZ n≤1073740000):ai C Ga [hD n,uJ k] (tNB (cZ n k)) []:=by
 have hs: ∀s∈n,s.length≤1073741824:=fun s hm=>by have:=oE (w:=bZ) hm;unfold bZ at this hl;omega
 have Jh:=zf n ay hs;have hXl:=Mu n k;have hXt:=Mv n k
 have tail: ∀(X:List (List Key)) (Q:QV),X=mW n k→Q (tNB (cZ n k)) []→ ∃(b22:Bool),ai C cw ([TV.ag [TC.sub 1 (X.map cW)]]) (TV.c (iB b22)) []∧(aq b22 (Q (TV.tu [(1,[TC.sub 1 (X.map cW)]),(0,[iB true])]) ([])) (∃(l23:RR),ai C bu ([TV.ag [TC.sub 1 (n.map cW)]]) (TV.c (TC.sub 5 l23)) []∧(∃(l24:RR),ai C cz ([TV.c (TC.sub 5 l23),uJ k]) (TV.c (TC.sub 5 l24)) []∧(∃(l25:RR),ai C e7 ([TV.c (TC.sub 5 l24)]) (TV.c (TC.sub 5 l25)) []∧(aq (bL 8 (Int.ofNat (List.length l25))) (∃(l26:RR),ai C cg ([TV.ag [TC.sub 1 (n.map cW)]]) (TV.ag [TC.sub 1 l26]) []∧(Q (TV.tu [(1,[TC.sub 1 l26]),(0,[iB false])]) ([]))) (∃(l27:RR),ai C aW ([TV.c (TC.sub 5 l25)]) (TV.ag [TC.sub 1 l27]) []∧(∃(b28:Bool),ai C cw ([TV.ag [TC.sub 1 l27]]) (TV.c (iB b28)) []∧(aq (!b28) (∃(l29:RR),ai C cg ([TV.ag [TC.sub 1 (n.map cW)]]) (TV.ag [TC.sub 1 l29]) []∧(Q (TV.tu [(1,[TC.sub 1 l29]),(0,[iB false])]) ([]))) (∃(l30:RR),ai C aW ([TV.c (TC.sub 5 l25)]) (TV.ag [TC.sub 1 l30]) []∧(Q (TV.tu [(1,[TC.sub 1 l30]),(0,[iB true])]) ([]))))))))))):=by
  intro X Q hX hQ;rw[←hX] at hXl hXt;have hok:ai C cw [hD X] (vB (iG X)) []:=y5 X ay ay;have hkl:=tW n k;have hnl:=Ca (dy n k);have hnt:=Cb (dy n k);have ap0:ai C cw [hD (dN (dy n k))] (vB (iG (dN (dy n k)))) []:=y5 _ ay ay;refine⟨_,hok,?_⟩;unfold cZ at hQ;rw[←hX] at hQ
  cases h1:iG X with
  |true=>
   rw[aI h1] at hQ;exact ah rfl hQ
  |false=>
   rw[aF (by rw[h1];simp)] at hQ;have g1:=dx n;have g2:=th (aU n) k;refine an rfl ⟨_,(gf n ay ay _).2 rfl,_,qZ (aU n) k ay,_,D2 (iF (aU n) k) ay,?_⟩;change aq (bL 8 (Int.ofNat (List.length ((dy n k).map bQ)))) _ _
   by_cases h2:8<(dy n k).length
   ·rw[aI h2] at hQ
    exact ah rV ⟨_,Jh,hQ⟩
   ·rw[aF h2] at hQ
    refine an rV ⟨_,mq (dy n k) ay,_,ap0,?_⟩
    cases h3:iG (dN (dy n k)) with
    |true=>
     rw[aI h3] at hQ;exact an rfl ⟨_,mq (dy n k) ay,hQ⟩
    |false=>
     rw[aF (by rw[h3];simp)] at hQ;exact ah rfl ⟨_,Jh,hQ⟩
 refine(X3 _ _ _ _ _ _ _ ⟨_,Jh,?_⟩).run;rw[bY]
 cases va:n[n.length-1]? with
 |none=>
  have h0:n.length=0:=Classical.byContradiction fun h=>by rw[cm ay] at va;cases va
  have hX:n++[[k]]=mW n k:=by unfold mW;rw[va]
  refine an (by rw[h0,dh cY];simp) (an (by rw[h0,dh cY];simp) (ah (cP rV) ?_));rw[show List.append (n.map cW) [[TC.sub 5 [[iI k.b,iI k.a,iI k.k,iI k.c,iI k.g]]]]=(n++[[k]]).map cW from by simp[cW,bQ]];exact tail _ (fun r fs=>r=tNB (cZ n k)∧fs=[]) hX ⟨rfl,by trivial⟩
 |some s=>
  have hlt:=(List.getElem?_eq_some_iff.1 va).1
  have hsub:cO (Int.ofNat n.length) 1=((n.length-1:Nat):Int):=by rw[dh rV];simp;omega
  have hrow:rowAt (n.map cW) ((n.length-1:Nat):Int)=some [TC.sub 5 (s.map bQ)]:=by rw[aR,aH,va];rfl
  have hsl:=hs s (gQ va);have D7:setRow (n.map cW) ((n.length-1:Nat):Int) 0 [TC.sub 5 ((iF s k).map bQ)]=(n.set (n.length-1) (iF s k)).map cW:=Ml (a:=s) (a':=iF s k) va rfl
  have ap1:List.append (n.map cW) [[TC.sub 5 [[iI k.b,iI k.a,iI k.k,iI k.c,iI k.g]]]]=(n++[[k]]).map cW:=by simp[cW,bQ]
  have hfit:fits (Nat.succ n.length) 24=true:=cP rV;rw[hsub];refine ah cY ⟨_,hrow,_,hrow,_,_,_,_,_,_,Ke s k.b k.a hsl,ah cY ⟨_,hrow,_,hrow,?_⟩⟩
  by_cases h2:s.length<4
  ·have hX:n.set (n.length-1) (iF s k)=mW n k:=by unfold mW Mt;rw[va];simp[h2]
   refine ah rV ⟨_,hrow,_,hrow,_,qZ s k hsl,_,hrow,_,hrow,?_⟩;rw[D7];exact tail _ (fun r fs=>r=tNB (cZ n k)∧fs=[]) hX ⟨rfl,by trivial⟩
  ·refine an rV ?_
   cases h1:(Ex s k.b k.a).2 with
   |true=>
    have hX:n.set (n.length-1) (iF s k)=mW n k:=by unfold mW Mt;rw[va];simp[h1]
    refine ah rfl ⟨_,hrow,_,hrow,_,qZ s k hsl,_,hrow,_,hrow,?_⟩;rw[D7];exact tail _ (fun r fs=>r=tNB (cZ n k)∧fs=[]) hX ⟨rfl,by trivial⟩
   |false=>
    have hX:n++[[k]]=mW n k:=by unfold mW Mt;rw[va];simp[h1,h2]
    refine an rfl (ah hfit ?_);rw[ap1];exact tail _ (fun r fs=>r=tNB (cZ n k)∧fs=[]) hX ⟨rfl,by trivial⟩
theorem AW (t:Tree) (i:Nat) (lw:List Int) (nd:List (List (List Key))) (h1:i+1≤t.aE.length) (h2:i+1≤t.nodes.length) (hl:t.aE.length≤1073741824) (hn:t.nodes.length≤1073741824) (hlw:lw.length≤1073741824) (hnd:nd.length≤1073741824):ai C dQ [dX t,vI (i:Int),oD lw,AG nd] (dX (oG t i 1 lw nd)) []:=by
 have e1:aC (t.aE.map bP) 0 (i:Int)=(t.aE.take i).map bP:=by rw[cK];rfl
 have e2:aC (t.aE.map bP) ((i:Int)+1) (Int.ofNat (t.aE.map bP).length)=(t.aE.drop (i+1)).map bP:=by
  rw[cK,bY,show((i:Int)+1).toNat=i+1 from by omega,show(Int.ofNat t.aE.length).toNat=t.aE.length from rfl,wh]
 have e3:aC (t.nodes.map aQ) 0 (i:Int)=(t.nodes.take i).map aQ:=by rw[cK];rfl
 have ea:aA (i:Int) 1=(i:Int)+1:=aG ay
 have k1:(t.aE.take i).length≤t.aE.length:=by rw[eP];omega
 have k2:(t.aE.drop (i+1)).length≤t.aE.length:=by rw[iT];omega
 have k3:(t.nodes.take i).length≤t.nodes.length:=by rw[eP];omega
 have k4:(t.nodes.drop (i+1)).length≤t.nodes.length:=by rw[iT];omega
 have e4:aC (t.nodes.map aQ) ((i:Int)+1) (Int.ofNat (t.nodes.map aQ).length)=(t.nodes.drop (i+1)).map aQ:=by
  rw[cK,bY,show((i:Int)+1).toNat=i+1 from by omega,show(Int.ofNat t.nodes.length).toNat=t.nodes.length from rfl,wh]
 refine(ac7 _ _ _ _ _ _ ?_).run;rw[ea,e1,e2,e3,e4,nJ,nJ,nJ,nJ]
 refine ah rV (ah rV (ah (by rw[nW,cP rV];rfl) (ah (by rw[nW,cP (by simp only[bY,wM];omega)];rfl) (ah (by rw[nW,cP (by simp only[bY,cG,wM];omega)];rfl)
  (ah rV (ah rV (ah (cP rV) (ah (cP (by simp only[bY,wM];omega)) (ah (cP (by simp only[bY,cG,wM];omega)) ?_)))))))))
 exact⟨rfl,by trivial⟩
attribute [local semireducible] kL aC in
theorem aix {rows:RR} {i c:Nat} (hk:i+c≤rows.length):aC (kL 1 rows 0 (i:Int)) ((i:Int)+(c:Int)) (Int.ofNat rows.length)=rows.drop (i+c):=by
 unfold aC kL;rw[lY,show((i:Int)+(c:Int)).toNat=i+c from by omega,show(0:Int).toNat=0 from rfl,show(Int.ofNat rows.length).toNat=rows.length from rfl,List.take_zero,xI,Nat.sub_zero];rw[Nw rV,List.drop_append,List.length_replicate,Ly cY,xI,List.drop_drop]
 congr 1;omega
theorem xo (t:Tree) (i c:Nat) (lw:List Int) (nd:List (List (List Key))) (h1:i+c≤t.aE.length) (h2:i+c≤t.nodes.length) (hl:t.aE.length≤1073741824) (hn:t.nodes.length≤1073741824) (hlw:lw.length≤1073741824) (hnd:nd.length≤1073741824):ai C lE [dX t,vI (i:Int),vI (c:Int),oD lw,AG nd] (dX (oG t i c lw nd)) []:=by
 have e1:aC (t.aE.map bP) 0 (i:Int)=(t.aE.take i).map bP:=by rw[cK];rfl
 have e2:aC (t.aE.map bP) ((i:Int)+(c:Int)) (Int.ofNat (t.aE.map bP).length)=(t.aE.drop (i+c)).map bP:=by
  rw[cK,bY,show((i:Int)+(c:Int)).toNat=i+c from by omega,show(Int.ofNat t.aE.length).toNat=t.aE.length from rfl,wh]
 have e3:aC (t.nodes.map aQ) 0 (i:Int)=(t.nodes.take i).map aQ:=by rw[cK];rfl
 have ea:aA (i:Int) (c:Int)=(i:Int)+(c:Int):=aG ay
 have k1:(t.aE.take i).length≤t.aE.length:=by rw[eP];omega
 have k2:(t.aE.drop (i+c)).length≤t.aE.length:=by rw[iT];omega
 have k3:(t.nodes.take i).length≤t.nodes.length:=by rw[eP];omega
 have k4:(t.nodes.drop (i+c)).length≤t.nodes.length:=by rw[iT];omega
 have e4:aC (kL 1 (t.nodes.map aQ) 0 (i:Int)) ((i:Int)+(c:Int)) (Int.ofNat (t.nodes.map aQ).length)=(t.nodes.drop (i+c)).map aQ:=by
  rw[aix (by rw[bY];exact h2),Ed]
 refine(U8 _ _ _ _ _ _ _ ?_).run;rw[ea,e1,e2,e3,e4];refine ah rV ⟨_,Cq (t.aE.take i) ay,?_⟩;rw[nJ,nJ,nJ,nJ]
 refine ah rV (ah (by rw[nW,cP (by simp only[bY,wM];omega)];rfl) (ah (by rw[nW,cP (by simp only[bY,cG,wM];omega)];rfl)
  (ah rV (ah rV (ah (cP rV) (ah (cP (by simp only[bY,wM];omega)) (ah (cP (by simp only[bY,cG,wM];omega)) ?_)))))))
 exact⟨rfl,by trivial⟩
def abt:Option Nat→Int
 |some i=>i
 |none=> -1
theorem zj (t:Tree) (hn:t.nodes.length≤1073741824) (hz:tot aP t.nodes≤1073740000):ai C jO [dX t] (vI (abt (uK t))) []:=by
 refine(aaz _ _ _ ?_).run
 have key: ∀(d i:Nat),i+d=t.nodes.length→yG t d i=uK t→aa C jO ak 4 0 (vF (i:Int) (t.aE.map bP) (t.nodes.map aQ)) (fun x st=>ax C jO ak x st fun r fs=>r=vI (abt (uK t))∧fs=[]):=by
  intro d
  induction d with
  |zero=>
   intro i h he;have ea:aA (i:Int) 1=(i:Int)+1:=aG ay;refine I3 _ _ _ _ ?_;rw[ea];exact an rV (I5 _ _ _ _ _ ⟨by rw[←he];rfl,rfl⟩)
  |succ d ih=>
   intro i h he;have ea:aA (i:Int) 1=(i:Int)+1:=aG ay
   have ec:(i:Int)+1=((i+1:Nat):Int):=by omega
   unfold yG at he;refine I3 _ _ _ _ ?_;rw[ea,ec]
   by_cases h1:i+1<t.nodes.length
   ·rw[aI h1] at he
    obtain⟨a,ha⟩: ∃a,t.nodes[i]?=some a:=⟨_,cm ay⟩;obtain⟨b,hb⟩: ∃b,t.nodes[i+1]?=some b:=⟨_,cm h1⟩;have za:a.length+tot bZ a≤tot aP t.nodes:=oF (w:=aP) ha;have zb:b.length+tot bZ b≤tot aP t.nodes:=oF (w:=aP) hb
    have ka:lP t i=aU a:=by unfold lP;rw[wL,ha];rfl
    have kb:lP t (i+1)=aU b:=by unfold lP;rw[wL,hb];rfl
    have la:=dx a;have lb:=dx b;rw[ka,kb] at he;refine ah rV ⟨_,by rw[aR,aH,ha];rfl,_,by rw[aR,aH,hb];rfl,_,(gf a ay ay _).2 rfl,_,(gf b ay ay _).2 rfl,?_⟩;rw[bY,bY,show aA (Int.ofNat (aU a).length) (Int.ofNat (aU b).length)=((aU a).length:Int)+(aU b).length from aG rV]
    by_cases h2:(aU a).length+(aU b).length≤6
    ·rw[aI h2] at he
     exact ah rV (Vf _ _ _ _ _ _ ⟨by rw[←he];rfl,rfl⟩)
    ·rw[aF h2] at he
     exact an rV (ih (i+1) ay he)
   ·rw[aF h1] at he
    exact an rV (I5 _ _ _ _ _ ⟨by rw[←he];rfl,rfl⟩)
 exact key t.nodes.length 0 ay rfl
theorem S6 (t0:Tree) (hw0:t0.aE.length=t0.nodes.length) (VH:tot aP t0.nodes+t0.nodes.length≤1073700000):ai C bD [dX t0] (dX (oH t0.nodes.length t0)) []:=by
 refine(ZM _ _ _ ⟨_,zj t0 ay ay,?_⟩).run
 have key: ∀(m:Nat) (t:Tree),t.nodes.length=m→t.aE.length=t.nodes.length→tot aP t.nodes+t.nodes.length≤1073700000→oH m t=oH t0.nodes.length t0→aa C bD ak 4 0 (rB (abt (uK t)) (t.aE.map bP) (t.nodes.map aQ)) (fun x st=>ax C bD ak x st fun r fs=>r=dX (oH t0.nodes.length t0)∧fs=[]):=by
  intro m
  induction m with
  |zero=>
   intro t hm hw hz he
   have hp:uK t=none:=by unfold uK;rw[hm];rfl
   rw[hp];exact zp _ _ _ _ (an (by simp[abt]) (Iu _ _ _ _ _ ⟨by rw[←he];rfl,rfl⟩))
  |succ m ih=>
   intro t hm hw hz he;rw[x9] at he
   cases hp:uK t with
   |none=>
    rw[hp] at he;have he:t=oH t0.nodes.length t0:=he;exact zp _ _ _ _ (an (by simp[abt]) (Iu _ _ _ _ _ ⟨by rw[←he],rfl⟩))
   |some i=>
   rw[hp] at he;have he:oH m (dS t i)=oH t0.nodes.length t0:=he;have hlt:=x8 hp;show aa C bD ak 4 0 (rB (i:Int) (t.aE.map bP) (t.nodes.map aQ)) _;obtain⟨a,ha⟩: ∃a,t.nodes[i]?=some a:=⟨_,cm ay⟩;obtain⟨b,hb⟩: ∃b,t.nodes[i+1]?=some b:=⟨_,cm hlt.1⟩;have za:a.length+tot bZ a≤tot aP t.nodes:=oF (w:=aP) ha;have zb:b.length+tot bZ b≤tot aP t.nodes:=oF (w:=aP) hb;have la:=dx a;have lb:=dx b;have h6:=hlt.2;rw[kg ha,kg hb] at h6
   have ea:aA (i:Int) 1=((i+1:Nat):Int):=by rw[aG ay];omega
   have eb:aA (i:Int) 2=((i+2:Nat):Int):=by rw[aG ay];omega
   have ra:rowAt (t.nodes.map aQ) (i:Int)=some [TC.sub 1 (a.map cW)]:=by rw[aR,aH,ha];rfl
   have rb:rowAt (t.nodes.map aQ) ((i+1:Nat):Int)=some [TC.sub 1 (b.map cW)]:=by rw[aR,aH,hb];rfl
   have c1:aC (t.aE.map bP) 0 ((i+1:Nat):Int)=(t.aE.take (i+1)).map bP:=by rw[cK];rfl
   have c2:aC (t.aE.map bP) ((i+2:Nat):Int) (Int.ofNat (t.aE.map bP).length)=(t.aE.drop (i+2)).map bP:=by
    rw[cK,bY,lY,show(Int.ofNat t.aE.length).toNat=t.aE.length from rfl,wh]
   have c3:aC (t.nodes.map aQ) 0 (i:Int)=(t.nodes.take i).map aQ:=by rw[cK];rfl
   have c4:aC (t.nodes.map aQ) ((i+2:Nat):Int) (Int.ofNat (t.nodes.map aQ).length)=(t.nodes.drop (i+2)).map aQ:=by
    rw[cK,bY,lY,show(Int.ofNat t.nodes.length).toNat=t.nodes.length from rfl,wh]
   have hlo:i<t.aE.length:=by omega
   have eL:List.append ((t.aE.take (i+1)).map bP) ((t.aE.drop (i+2)).map bP)=(dS t i).aE.map bP:=by
    rw[nJ];unfold dS oG;simp only[];rw[List.take_add_one,wL,cm hlo];simp
   have eN:List.append (List.append ((t.nodes.take i).map aQ) [[TC.sub 1 ((dN (aU a++aU b)).map cW)]]) ((t.nodes.drop (i+2)).map aQ)=(dS t i).nodes.map aQ:=by
    rw[N7,nJ];unfold dS oG;simp only[];rw[kg ha,kg hb]
   have hsz:=Cg hlt.1;have hjl:=zY hlt.1
   have hjw:(dS t i).aE.length+1=t.aE.length:=by
    have:=F1 t i 2 [t.aE.getD i 0] [dN (lP t i++lP t (i+1))] ay;unfold dS;simp only[gL] at this;omega
   have k1:(t.aE.take (i+1)).length≤t.aE.length:=by rw[eP];omega
   have k2:(t.aE.drop (i+2)).length≤t.aE.length:=by rw[iT];omega
   have k3:(t.nodes.take i).length≤t.nodes.length:=by rw[eP];omega
   have k4:(t.nodes.drop (i+2)).length≤t.nodes.length:=by rw[iT];omega
   refine zp _ _ _ _ (ah cY ?_);rw[ea,eb];refine⟨_,ra,_,ra,_,rb,_,rb,_,(gf a ay ay _).2 rfl,_,(gf b ay ay _).2 rfl,?_⟩;rw[nJ,c1,c2,c3,c4]
   refine ah (by rw[ni,cP (by simp only[bY,wM];omega)];rfl) (ah rV (ah rV (ah (by rw[nW,cP (by simp only[bY,wM];omega)];rfl) (ah (by rw[nW,cP (by simp only[bY,wM];omega)];rfl)
    (ah rV (ah rV (ah (cP (by simp only[bY,wM];omega)) ⟨_,mq (aU a++aU b) (by rw[cG];omega),ah (cP (by simp only[bY,Nat.succ_eq_add_one];omega)) ?_⟩)))))))
   rw[eL,eN];refine ah (cP (by rw[N7];simp only[bY,cG,gL,wM];omega)) ⟨_,zj (dS t i) ay ay,?_⟩;exact ih (dS t i) ay ay ay he
 cases hp:uK t0 with
 |none=>
  have hj:oH t0.nodes.length t0=t0:=by
   cases hm:t0.nodes.length with
   |zero=>rfl
   |succ m=>rw[x9,hp]
  exact Is _ _ _ _ (an (by simp[abt]) (Ua _ _ _ _ _ ⟨by rw[hj],rfl⟩))
 |some i=>
  have hlt:=x8 hp;obtain⟨t,ht⟩: ∃t,t=t0:=⟨_,rfl⟩;rw[←ht] at hlt hw0 VH hp ⊢;show aa C bD ak 4 0 (zn (i:Int) (t.aE.map bP) (t.nodes.map aQ)) _;obtain⟨a,ha⟩: ∃a,t.nodes[i]?=some a:=⟨_,cm ay⟩;obtain⟨b,hb⟩: ∃b,t.nodes[i+1]?=some b:=⟨_,cm hlt.1⟩;have za:a.length+tot bZ a≤tot aP t.nodes:=oF (w:=aP) ha;have zb:b.length+tot bZ b≤tot aP t.nodes:=oF (w:=aP) hb;have la:=dx a;have lb:=dx b;have h6:=hlt.2;rw[kg ha,kg hb] at h6
  have ea:aA (i:Int) 1=((i+1:Nat):Int):=by rw[aG ay];omega
  have eb:aA (i:Int) 2=((i+2:Nat):Int):=by rw[aG ay];omega
  have ra:rowAt (t.nodes.map aQ) (i:Int)=some [TC.sub 1 (a.map cW)]:=by rw[aR,aH,ha];rfl
  have rb:rowAt (t.nodes.map aQ) ((i+1:Nat):Int)=some [TC.sub 1 (b.map cW)]:=by rw[aR,aH,hb];rfl
  have c1:aC (t.aE.map bP) 0 ((i+1:Nat):Int)=(t.aE.take (i+1)).map bP:=by rw[cK];rfl
  have c2:aC (t.aE.map bP) ((i+2:Nat):Int) (Int.ofNat (t.aE.map bP).length)=(t.aE.drop (i+2)).map bP:=by
   rw[cK,bY,lY,show(Int.ofNat t.aE.length).toNat=t.aE.length from rfl,wh]
  have c3:aC (t.nodes.map aQ) 0 (i:Int)=(t.nodes.take i).map aQ:=by rw[cK];rfl
  have c4:aC (t.nodes.map aQ) ((i+2:Nat):Int) (Int.ofNat (t.nodes.map aQ).length)=(t.nodes.drop (i+2)).map aQ:=by
   rw[cK,bY,lY,show(Int.ofNat t.nodes.length).toNat=t.nodes.length from rfl,wh]
  have hlo:i<t.aE.length:=by omega
  have eL:List.append ((t.aE.take (i+1)).map bP) ((t.aE.drop (i+2)).map bP)=(dS t i).aE.map bP:=by
   rw[nJ];unfold dS oG;simp only[];rw[List.take_add_one,wL,cm hlo];simp
  have eN:List.append (List.append ((t.nodes.take i).map aQ) [[TC.sub 1 ((dN (aU a++aU b)).map cW)]]) ((t.nodes.drop (i+2)).map aQ)=(dS t i).nodes.map aQ:=by
   rw[N7,nJ];unfold dS oG;simp only[];rw[kg ha,kg hb]
  have hsz:=Cg hlt.1;have hjl:=zY hlt.1
  have hjw:(dS t i).aE.length+1=t.aE.length:=by
   have:=F1 t i 2 [t.aE.getD i 0] [dN (lP t i++lP t (i+1))] ay;unfold dS;simp only[gL] at this;omega
  have k1:(t.aE.take (i+1)).length≤t.aE.length:=by rw[eP];omega
  have k2:(t.aE.drop (i+2)).length≤t.aE.length:=by rw[iT];omega
  have k3:(t.nodes.take i).length≤t.nodes.length:=by rw[eP];omega
  have k4:(t.nodes.drop (i+2)).length≤t.nodes.length:=by rw[iT];omega
  refine Is _ _ _ _ (ah cY ?_);rw[ea,eb];refine⟨_,ra,_,rb,_,(gf a ay ay _).2 rfl,_,(gf b ay ay _).2 rfl,?_⟩;rw[nJ,c1,c2,c3,c4]
  refine ah (by rw[ni,cP (by simp only[bY,wM];omega)];rfl) (ah rV (ah rV (ah (by rw[nW,cP (by simp only[bY,wM];omega)];rfl) (ah (by rw[nW,cP (by simp only[bY,wM];omega)];rfl)
   (ah rV (ah rV (ah (cP (by simp only[bY,wM];omega)) ⟨_,mq (aU a++aU b) (by rw[cG];omega),ah (cP (by simp only[bY,Nat.succ_eq_add_one];omega)) ?_⟩)))))))
  rw[eL,eN];refine ah (cP (by rw[N7];simp only[bY,cG,gL,wM];omega)) ⟨_,zj (dS t i) ay ay,?_⟩;refine ht▸key (dS t i).nodes.length (dS t i) rfl ay ay ?_;rw[←ht]
  have:t.nodes.length=(dS t i).nodes.length+1:=by omega
  rw[this];rw[x9,hp]
theorem Sy (t u:Tree) (hw:t.aE.length=t.nodes.length) (hz:tot aP t.nodes+t.nodes.length≤1073700000) (E:uK t=none→t=u)
 (N: ∀i,uK t=some i→aa C eX ak 4 0 (mK ((0:Nat):Int) ((dS t i).aE.map bP) ((dS t i).nodes.map aQ)) (fun x st=>ax C eX ak x st fun r fs=>r=dX u∧fs=[])):
 ∀d i,i+d=t.nodes.length→yG t d i=uK t→aa C eX ak 4 0 (mK (i:Int) (t.aE.map bP) (t.nodes.map aQ)) (fun x st=>ax C eX ak x st fun r fs=>r=dX u∧fs=[]):=by
 intro d
 induction d with
 |zero=>
  intro i h he;have ea:aA (i:Int) 1=(i:Int)+1:=aG ay;refine IG _ _ _ _ ?_;rw[ea];exact an rV (II _ _ _ _ _ ⟨by rw[E (by rw[←he];rfl)],rfl⟩)
 |succ d ih=>
  intro i h he;have ea:aA (i:Int) 1=(i:Int)+1:=aG ay
  have ec:(i:Int)+1=((i+1:Nat):Int):=by omega
  unfold yG at he;refine IG _ _ _ _ ?_;rw[ea,ec]
  by_cases h1:i+1<t.nodes.length
  ·rw[aI h1] at he
   obtain⟨a,ha⟩: ∃a,t.nodes[i]?=some a:=⟨_,cm ay⟩;obtain⟨b,hb⟩: ∃b,t.nodes[i+1]?=some b:=⟨_,cm h1⟩;have za:a.length+tot bZ a≤tot aP t.nodes:=oF (w:=aP) ha;have zb:b.length+tot bZ b≤tot aP t.nodes:=oF (w:=aP) hb;have la:=dx a;have lb:=dx b;rw[kg ha,kg hb] at he
   have ra:rowAt (t.nodes.map aQ) (i:Int)=some [TC.sub 1 (a.map cW)]:=by rw[aR,aH,ha];rfl
   have rb:rowAt (t.nodes.map aQ) ((i+1:Nat):Int)=some [TC.sub 1 (b.map cW)]:=by rw[aR,aH,hb];rfl
   refine ah rV ⟨_,ra,_,ra,_,rb,_,rb,_,(kC a ay ay _).2 rfl,_,(kC b ay ay _).2 rfl,ah (by rw[ni,cP (by simp only[bY,wM];omega)];rfl) ?_⟩;rw[nJ]
   by_cases h2:(aU a).length+(aU b).length≤6
   ·rw[aI h2] at he
    have hlo:i<t.aE.length:=by omega
    have hlw:rowAt (t.aE.map bP) (i:Int)=some [iI (t.aE.getD i 0)]:=by
     rw[aR,aH,wL,cm hlo];rfl
    have hnn:=sq (aU a++aU b) (by rw[cG];omega);have hrp:=xo t i 2 [t.aE.getD i 0] [dN (aU a++aU b)] ay ay ay ay cY cY
    have ej:oG t i 2 [t.aE.getD i 0] [dN (aU a++aU b)]=dS t i:=by unfold dS;rw[kg ha,kg hb]
    rw[ej] at hrp;have hN:=N i he.symm;rw[←show aA (-1) 1=((0:Nat):Int) from by rw[aG ay];rfl] at hN;exact ah (by simp[gl]<;>omega) ⟨_,hlw,_,hlw,_,hnn,_,_,hrp,⟨_,hnn,_,_,hrp,⟨_,_,hrp,rfl⟩,rfl⟩,hN⟩
   ·rw[aF h2] at he
    exact an (by simp[gl]<;>omega) (ih (i+1) ay he)
  ·rw[aF h1] at he
   exact an rV (II _ _ _ _ _ ⟨by rw[E he.symm],rfl⟩)
theorem S7 (t0:Tree) (hw0:t0.aE.length=t0.nodes.length) (VH:tot aP t0.nodes+t0.nodes.length≤1073700000):ai C eX [dX t0] (dX (oH t0.nodes.length t0)) []:=by
 refine(Z8 _ _ _ ?_).run
 have key: ∀(m:Nat) (t:Tree),t.nodes.length=m→t.aE.length=t.nodes.length→tot aP t.nodes+t.nodes.length≤1073700000→aa C eX ak 4 0 (mK ((0:Nat):Int) (t.aE.map bP) (t.nodes.map aQ)) (fun x st=>ax C eX ak x st fun r fs=>r=dX (oH m t)∧fs=[]):=by
  intro m
  induction m with
  |zero=>
   intro t hm hw hz;exact Sy t (oH 0 t) hw hz (fun _=>rfl) (fun i hi=>by have:=(x8 hi).1;omega) t.nodes.length 0 ay rfl
  |succ m ih=>
   intro t hm hw hz;refine Sy t (oH (m+1) t) hw hz (fun h=>(ago h).symm) (fun i hi=> ?_) t.nodes.length 0 ay rfl;have h1:=zY (x8 hi).1;have h2:=Cg (x8 hi).1;have:=ih (dS t i) ay (LN (x8 hi).1 hw) ay;rw[x9,hi];exact this
 exact key t0.nodes.length t0 rfl hw0 VH
theorem agC {t:Tree} {i:Nat} {n:List (List Key)} (h1:i<t.aE.length) (h2:i<t.nodes.length):oG t i 1 [t.aE.getD i 0] [n]=⟨t.aE,t.nodes.set i n⟩:=by
 unfold oG;rw[List.set_eq_take_append_cons_drop,aI h2,wL,cm h1]
 have e:t.aE.take i++[t.aE[i]]++t.aE.drop (i+1)=t.aE:=by
  rw[Ap,List.singleton_append,←Gu h1,Nv]
 simp only[Option.getD_some,e,Ap,List.singleton_append]
theorem aqR {n:Nat} (h:n≤1073741824):jc .i64 (aA (Int.ofNat n) 1) 2=(((n+1)/2:Nat):Int):=by
 rw[aG eJ];unfold jc;rw[Int.tdiv_eq_ediv_of_nonneg eJ,show IntKind.wrap .i64 ((Int.ofNat n+1)/2)=(Int.ofNat n+1)/2 from IntWalk.i64_in _ eJ];simp
theorem tY (t:Tree) (k:Key) (hz:cH t≤4194304):ai C tX [dX t,uJ k] (Fy (bw t k)) []:=by
 have hN:=wG hz;have Jh:ai C bV [dX t] (dX t) []:=xm t hN.1 hN.2;refine(XW _ _ _ _ _ _ _ _ ⟨_,zc t ay,?_⟩).run
 cases h1:gH t with
 |false=>exact ah rfl ⟨_,_,Jh,⟨by unfold bw;rw[aF (by rw[h1];simp)],rfl⟩⟩
 |true=>
 refine an rfl ⟨_,(Oi _ _ _ _ _ _).2 rfl,?_⟩;change aq (!jW k) _ _
 cases h2:jW k with
 |false=>exact ah rfl ⟨_,_,Jh,⟨by unfold bw;rw[aF (by rw[h2];simp)],rfl⟩⟩
 |true=>
 obtain⟨i,hi,hil⟩:=WM h1 h2;have hlen:=vU h1
 have hw:ai C iK [dX t,vI k.b,vI k.a] (vI (i:Int)) []:=by rw[←hi];exact EC t k.b k.a ay
 have hrow:rowAt (t.nodes.map aQ) (i:Int)=some [TC.sub 1 (t.nodes[i].map cW)]:=by rw[aR,aH,cm hil];rfl
 have adk:rowAt (t.aE.map bP) (i:Int)=some [iI (t.aE.getD i 0)]:=by
  rw[aR,aH,wL,cm ay];rfl
 have hg:t.nodes.getD i []=t.nodes[i]:=by rw[wL,cm hil];rfl
 have hok:=Cc h1 (Ec hil);have hsz:=Le hok;have hps:=JN t.nodes[i] k;have hpt:=JO t.nodes[i] k;have hkl:=tW t.nodes[i] k;have hnk:=dx t.nodes[i];obtain⟨hp1,hp2,hp3⟩:=aeK (k:=k) h1 hil
 have hR:bw t k=if gH (oH (nU t i k).nodes.length (nU t i k))=true then(oH (nU t i k).nodes.length (nU t i k),true) else(t,false):=by
  unfold bw;rw[aI ⟨h1,h2⟩,hi,lY]
 have fin: ∀Q:QV,Q (Fy (bw t k)) []→ ∃(l39 l40:RR),ai C eX [dX (nU t i k)] (.ag [.sub 1 l39,.sub 1 l40]) []∧(∃b:Bool,ai C cR [.ag [.sub 1 l39,.sub 1 l40]] (vB b) []∧(aq (!b) (∃(l42 l43:RR),ai C bV [dX t] (.ag [.sub 1 l42,.sub 1 l43]) []∧Q (.tu [(1,[.sub 1 l42,.sub 1 l43]),(0,[iB false])]) []) (Q (.tu [(1,[.sub 1 l39,.sub 1 l40]),(0,[iB true])]) []))):=by
  intro Q hQ;refine⟨_,_,S7 (nU t i k) hp2 ay,_,zc _ ay,?_⟩;rw[hR] at hQ
  cases h3:gH (oH (nU t i k).nodes.length (nU t i k)) with
  |true=>rw[aI h3] at hQ;exact an rfl hQ
  |false=>rw[aF (by rw[h3];simp)] at hQ;exact ah rfl ⟨_,_,Jh,hQ⟩
 have np:=QN t.nodes[i] k ay ay;refine an rfl ⟨_,hw,_,_,Jh,_,hrow,_,hrow,?_⟩
 cases hp:(cZ t.nodes[i] k).2 with
 |false=>
  have hno:=(WI hok h2 hp).1
  have cno:(!(cZ t.nodes[i] k).2)=true:=by rw[hp];rfl
  obtain⟨ks,hks⟩: ∃ks,ks=dy t.nodes[i] k:=⟨_,rfl⟩;rw[←hks] at hno hkl;have hh:=ahy hno;obtain⟨h,hhe⟩: ∃h,h=(ks.length+1)/2:=⟨_,rfl⟩
  have hq:jc .i64 (aA (Int.ofNat (List.length (ks.map bQ))) 1) 2=(h:Int):=by rw[bY,aqR ay,hhe]
  have hkk:rowAt (ks.map bQ) (h:Int)=some [iI (ks.getD h fU).b,iI (ks.getD h fU).a,iI (ks.getD h fU).k,iI (ks.getD h fU).c,iI (ks.getD h fU).g]:=by
   rw[aR,aH,wL,cm ay];rfl
  have ep:nU t i k=oG t i 1 [t.aE.getD i 0,jX (ks.getD h fU).b (ks.getD h fU).a] [dN (ks.take h),dN (ks.drop h)]:=by
   unfold nU;rw[hg,aF (by rw[hp];simp),←hks,←hhe]
  have rp:=xo t i 1 [t.aE.getD i 0,jX (ks.getD h fU).b (ks.getD h fU).a] [dN (ks.take h),dN (ks.drop h)] ay ay ay ay cY cY;rw[←ep] at rp
  have e1:aC (ks.map bQ) 0 (h:Int)=(ks.take h).map bQ:=by rw[cK];rfl
  have e2:aC (ks.map bQ) (h:Int) (Int.ofNat (List.length (ks.map bQ)))=(ks.drop h).map bQ:=by
   rw[cK,bY,lY,show(Int.ofNat ks.length).toNat=ks.length from rfl,wh]
  have nn1:ai C dW [.c (.sub 5 (aC (ks.map bQ) 0 (h:Int)))] (hD (dN (ks.take h))) []:=by rw[e1];exact sq _ (by rw[eP];omega)
  have nn2:ai C dW [.c (.sub 5 (aC (ks.map bQ) (h:Int) (Int.ofNat (List.length (ks.map bQ)))))] (hD (dN (ks.drop h))) []:=by rw[e2];exact sq _ (by rw[iT];omega)
  have c1:gh 0 (h:Int) (Int.ofNat (List.length (ks.map bQ)))=true:=by rw[JH];simp;omega
  have c2:gh (h:Int) (Int.ofNat (List.length (ks.map bQ))) (Int.ofNat (List.length (ks.map bQ)))=true:=by rw[JH];simp;omega
  have kw:ai C iu [hD t.nodes[i],uJ k] (dM ks) []:=by
   rw[hks];exact Cr t.nodes[i] k ay ay
  clear hks hhe hR
  repeat' first
   |refine⟨_,hrow,?_⟩
   |refine⟨_,adk,?_⟩
   |refine⟨_,_,np,?_⟩
   |refine ah cno ?_
   |refine⟨_,kw,?_⟩
   |refine an (by rw[bE];rfl) ?_
   |rw[hq]
   |refine⟨_,_,_,_,_,hkk,?_⟩
   |refine ah c1 ?_
   |refine ah c2 ?_
   |refine⟨_,(D3 _ _ _).2 rfl,?_⟩
   |refine⟨_,nn1,?_⟩
   |refine⟨_,nn2,?_⟩
   |refine⟨_,_,rp,?_⟩
   |refine⟨(Fy (bw t k),([]:List TV)),?_,?_,rfl⟩
   |refine⟨(Fy (bw t k),([]:List TV)),?_,?_,⟨rfl,by trivial⟩⟩
   |exact fin (fun a b=>(a,b)=(Fy (bw t k),([]:List TV))) rfl
   |exact fin (fun r fs=>r=Fy (bw t k)∧fs=[]) ⟨rfl,by trivial⟩
 |true=>
  have cno:(!(cZ t.nodes[i] k).2)=false:=by rw[hp];rfl
  by_cases hc:0<i∧(aU (cZ t.nodes[i] k).1).length=0
  ·have ci:bL 0 (i:Int)=true:=by rw[dm];simp;omega
   have nk:=(kC (cZ t.nodes[i] k).1 ay ay _).2 rfl
   have cl:cq (Int.ofNat (List.length ((aU (cZ t.nodes[i] k).1).map bQ))) 0=true:=by rw[bE,bY,hc.2];rfl
   have ep:nU t i k=oG t i 1 [] []:=by unfold nU;rw[hg,aI hp,aI hc]
   have rp:=xo t i 1 [] [] ay ay ay ay cY cY;rw[←ep] at rp;clear hR
   repeat' first
   |refine⟨_,hrow,?_⟩
   |refine⟨_,adk,?_⟩
   |refine⟨_,_,np,?_⟩
   |refine an cno ?_
   |refine ah ci ?_
   |refine⟨_,nk,?_⟩
   |refine ah cl ?_
   |refine⟨_,_,rp,?_⟩
   |refine⟨(Fy (bw t k),([]:List TV)),?_,?_,rfl⟩
   |refine⟨(Fy (bw t k),([]:List TV)),?_,?_,⟨rfl,by trivial⟩⟩
   |exact fin (fun a b=>(a,b)=(Fy (bw t k),([]:List TV))) rfl
   |exact fin (fun r fs=>r=Fy (bw t k)∧fs=[]) ⟨rfl,by trivial⟩
  ·have eset:nU t i k=⟨t.aE,t.nodes.set i (cZ t.nodes[i] k).1⟩:=by
    unfold nU;rw[hg,aI hp,aF hc,agC ay hil]
   have es:setRow (t.nodes.map aQ) (i:Int) 0 [TC.sub 1 ((cZ t.nodes[i] k).1.map cW)]=(t.nodes.set i (cZ t.nodes[i] k).1).map aQ:=aek (a:=t.nodes[i]) (by rw[aH,cm hil]) rfl;clear hR
   by_cases hi0:0<i
   ·have ci:bL 0 (i:Int)=true:=by rw[dm];simp;omega
    have nk:=(kC (cZ t.nodes[i] k).1 ay ay _).2 rfl
    have cl:cq (Int.ofNat (List.length ((aU (cZ t.nodes[i] k).1).map bQ))) 0=false:=by
     rw[bE,bY];exact fe fun e=>hc ⟨hi0,by have e:((aU (cZ t.nodes[i] k).1).length:Int)=0:=e;omega⟩
    repeat' first
   |refine⟨_,hrow,?_⟩
   |refine⟨_,adk,?_⟩
   |refine⟨_,_,np,?_⟩
   |refine an cno ?_
   |refine ah ci ?_
   |refine⟨_,nk,?_⟩
   |refine an cl ?_
   |refine⟨(Fy (bw t k),([]:List TV)),?_,?_,rfl⟩
   |refine⟨(Fy (bw t k),([]:List TV)),?_,?_,⟨rfl,by trivial⟩⟩
   |exact fin (fun a b=>(a,b)=(Fy (bw t k),([]:List TV))) rfl
   |exact fin (fun r fs=>r=Fy (bw t k)∧fs=[]) ⟨rfl,by trivial⟩
   |(rw[es];rw[eset] at fin;exact fin (fun a b=>(a,b)=(Fy (bw t k),([]:List TV))) rfl)
   |(rw[es];rw[eset] at fin;exact fin (fun r fs=>r=Fy (bw t k)∧fs=[]) ⟨rfl,by trivial⟩)
   ·have ci:bL 0 (i:Int)=false:=by rw[dm];simp;omega
    repeat' first
   |refine⟨_,hrow,?_⟩
   |refine⟨_,adk,?_⟩
   |refine⟨_,_,np,?_⟩
   |refine an cno ?_
   |refine an ci ?_
   |refine⟨(Fy (bw t k),([]:List TV)),?_,?_,rfl⟩
   |refine⟨(Fy (bw t k),([]:List TV)),?_,?_,⟨rfl,by trivial⟩⟩
   |exact fin (fun a b=>(a,b)=(Fy (bw t k),([]:List TV))) rfl
   |exact fin (fun r fs=>r=Fy (bw t k)∧fs=[]) ⟨rfl,by trivial⟩
   |(rw[es];rw[eset] at fin;exact fin (fun a b=>(a,b)=(Fy (bw t k),([]:List TV))) rfl)
   |(rw[es];rw[eset] at fin;exact fin (fun r fs=>r=Fy (bw t k)∧fs=[]) ⟨rfl,by trivial⟩)
theorem tZ (t:Tree) (k:Key) (hz:cH t≤4194304):ai C oN [dX t,uJ k] (Fy (bw t k)) []:=by
 have hN:=wG hz;have Jh:ai C dF [dX t] (dX t) []:=zg t hN.1 hN.2;refine(Xn _ _ _ _ _ _ _ _ ⟨_,_,Jh,_,y9 t ay,?_⟩).run
 cases h1:gH t with
 |false=>exact ah rfl ⟨by unfold bw;rw[aF (by rw[h1];simp)],rfl⟩
 |true=>
 refine an rfl ⟨_,(Oj _ _ _ _ _ _).2 rfl,?_⟩;change aq (!jW k) _ _
 cases h2:jW k with
 |false=>exact ah rfl ⟨by unfold bw;rw[aF (by rw[h2];simp)],rfl⟩
 |true=>
 obtain⟨i,hi,hil⟩:=WM h1 h2;have hlen:=vU h1
 have hw:ai C gJ [dX t,vI k.b,vI k.a] (vI (i:Int)) []:=by rw[←hi];exact EB t k.b k.a ay
 have hrow:rowAt (t.nodes.map aQ) (i:Int)=some [TC.sub 1 (t.nodes[i].map cW)]:=by rw[aR,aH,cm hil];rfl
 have adk:rowAt (t.aE.map bP) (i:Int)=some [iI (t.aE.getD i 0)]:=by
  rw[aR,aH,wL,cm ay];rfl
 have hg:t.nodes.getD i []=t.nodes[i]:=by rw[wL,cm hil];rfl
 have hok:=Cc h1 (Ec hil);have hsz:=Le hok;have hps:=JN t.nodes[i] k;have hpt:=JO t.nodes[i] k;have hkl:=tW t.nodes[i] k;have hnk:=dx t.nodes[i];obtain⟨hp1,hp2,hp3⟩:=aeK (k:=k) h1 hil
 have hR:bw t k=if gH (oH (nU t i k).nodes.length (nU t i k))=true then(oH (nU t i k).nodes.length (nU t i k),true) else(t,false):=by
  unfold bw;rw[aI ⟨h1,h2⟩,hi,lY]
 have fin: ∀Q:QV,Q (Fy (bw t k)) []→ ∃(l39 l40:RR),ai C bD [dX (nU t i k)] (.ag [.sub 1 l39,.sub 1 l40]) []∧(∃b:Bool,ai C bh [.ag [.sub 1 l39,.sub 1 l40]] (vB b) []∧(aq (!b) (Q (.tu [(1,ahs t),(0,[iB false])]) []) (Q (.tu [(1,[.sub 1 l39,.sub 1 l40]),(0,[iB true])]) []))):=by
  intro Q hQ;refine⟨_,_,S6 (nU t i k) hp2 ay,_,y9 _ ay,?_⟩;rw[hR] at hQ
  cases h3:gH (oH (nU t i k).nodes.length (nU t i k)) with
  |true=>rw[aI h3] at hQ;exact an rfl hQ
  |false=>rw[aF (by rw[h3];simp)] at hQ;exact ah rfl hQ
 have np:=QO t.nodes[i] k ay ay;have hx:=AW t i [t.aE.getD i 0] [(cZ t.nodes[i] k).1] ay ay ay ay cY cY;refine an rfl ⟨_,hw,_,hrow,?_⟩
 cases hp:(cZ t.nodes[i] k).2 with
 |false=>
  have hno:=(WI hok h2 hp).1
  have cno:(!(cZ t.nodes[i] k).2)=true:=by rw[hp];rfl
  obtain⟨ks,hks⟩: ∃ks,ks=dy t.nodes[i] k:=⟨_,rfl⟩;rw[←hks] at hno hkl;have hh:=ahy hno;obtain⟨h,hhe⟩: ∃h,h=(ks.length+1)/2:=⟨_,rfl⟩
  have hq:jc .i64 (aA (Int.ofNat (List.length (ks.map bQ))) 1) 2=(h:Int):=by rw[bY,aqR ay,hhe]
  have hkk:rowAt (ks.map bQ) (h:Int)=some [iI (ks.getD h fU).b,iI (ks.getD h fU).a,iI (ks.getD h fU).k,iI (ks.getD h fU).c,iI (ks.getD h fU).g]:=by
   rw[aR,aH,wL,cm ay];rfl
  have ep:nU t i k=oG t i 1 [t.aE.getD i 0,jX (ks.getD h fU).b (ks.getD h fU).a] [dN (ks.take h),dN (ks.drop h)]:=by
   unfold nU;rw[hg,aF (by rw[hp];simp),←hks,←hhe]
  have rp:=AW t i [t.aE.getD i 0,jX (ks.getD h fU).b (ks.getD h fU).a] [dN (ks.take h),dN (ks.drop h)] ay ay ay ay cY cY;rw[←ep] at rp
  have e1:aC (ks.map bQ) 0 (h:Int)=(ks.take h).map bQ:=by rw[cK];rfl
  have e2:aC (ks.map bQ) (h:Int) (Int.ofNat (List.length (ks.map bQ)))=(ks.drop h).map bQ:=by
   rw[cK,bY,lY,show(Int.ofNat ks.length).toNat=ks.length from rfl,wh]
  have nn1:ai C aW [.c (.sub 5 (aC (ks.map bQ) 0 (h:Int)))] (hD (dN (ks.take h))) []:=by rw[e1];exact mq _ (by rw[eP];omega)
  have nn2:ai C aW [.c (.sub 5 (aC (ks.map bQ) (h:Int) (Int.ofNat (List.length (ks.map bQ)))))] (hD (dN (ks.drop h))) []:=by rw[e2];exact mq _ (by rw[iT];omega)
  have c1:gh 0 (h:Int) (Int.ofNat (List.length (ks.map bQ)))=true:=by rw[JH];simp;omega
  have c2:gh (h:Int) (Int.ofNat (List.length (ks.map bQ))) (Int.ofNat (List.length (ks.map bQ)))=true:=by rw[JH];simp;omega
  have kw:ai C e7 [dM (iF (aU t.nodes[i]) k)] (dM ks) []:=by
   rw[hks];exact D2 (iF (aU t.nodes[i]) k) (by have:=th (aU t.nodes[i]) k;omega)
  clear hks hhe hR
  repeat' first
   |refine⟨_,hrow,?_⟩
   |refine⟨_,adk,?_⟩
   |refine⟨_,_,np,?_⟩
   |refine⟨_,_,hx,?_⟩
   |refine ah cno ?_
   |refine⟨_,kw,?_⟩
   |refine⟨_,(gf t.nodes[i] ay ay _).2 rfl,?_⟩
   |refine⟨_,qZ (aU t.nodes[i]) k ay,?_⟩
   |refine an (by rw[bE];rfl) ?_
   |rw[hq]
   |refine⟨_,_,_,_,_,hkk,?_⟩
   |refine ah c1 ?_
   |refine ah c2 ?_
   |refine⟨_,(LV _ _ _ _ _ _).2 rfl,?_⟩
   |refine⟨_,nn1,?_⟩
   |refine⟨_,nn2,?_⟩
   |refine⟨_,_,rp,?_⟩
   |refine⟨(Fy (bw t k),([]:List TV)),?_,?_,rfl⟩
   |refine⟨(Fy (bw t k),([]:List TV)),?_,?_,⟨rfl,by trivial⟩⟩
   |exact fin (fun a b=>(a,b)=(Fy (bw t k),([]:List TV))) rfl
   |exact fin (fun r fs=>r=Fy (bw t k)∧fs=[]) ⟨rfl,by trivial⟩
 |true=>
  have cno:(!(cZ t.nodes[i] k).2)=false:=by rw[hp];rfl
  by_cases hc:0<i∧(aU (cZ t.nodes[i] k).1).length=0
  ·have ci:bL 0 (i:Int)=true:=by rw[dm];simp;omega
   have nk:=(gf (cZ t.nodes[i] k).1 ay ay _).2 rfl
   have cl:cq (Int.ofNat (List.length ((aU (cZ t.nodes[i] k).1).map bQ))) 0=true:=by rw[bE,bY,hc.2];rfl
   have ep:nU t i k=oG t i 1 [] []:=by unfold nU;rw[hg,aI hp,aI hc]
   have rp:=AW t i [] [] ay ay ay ay cY cY;rw[←ep] at rp;clear hR
   repeat' first
   |refine⟨_,hrow,?_⟩
   |refine⟨_,adk,?_⟩
   |refine⟨_,_,np,?_⟩
   |refine⟨_,_,hx,?_⟩
   |refine an cno ?_
   |refine ah ci ?_
   |refine⟨_,nk,?_⟩
   |refine ah cl ?_
   |refine⟨_,_,rp,?_⟩
   |refine⟨(Fy (bw t k),([]:List TV)),?_,?_,rfl⟩
   |refine⟨(Fy (bw t k),([]:List TV)),?_,?_,⟨rfl,by trivial⟩⟩
   |exact fin (fun a b=>(a,b)=(Fy (bw t k),([]:List TV))) rfl
   |exact fin (fun r fs=>r=Fy (bw t k)∧fs=[]) ⟨rfl,by trivial⟩
  ·have ep:oG t i 1 [t.aE.getD i 0] [(cZ t.nodes[i] k).1]=nU t i k:=by
    unfold nU;rw[hg,aI hp,aF hc]
   rw[ep] at hx;clear hR
   by_cases hi0:0<i
   ·have ci:bL 0 (i:Int)=true:=by rw[dm];simp;omega
    have nk:=(gf (cZ t.nodes[i] k).1 ay ay _).2 rfl
    have cl:cq (Int.ofNat (List.length ((aU (cZ t.nodes[i] k).1).map bQ))) 0=false:=by
     rw[bE,bY];exact fe fun e=>hc ⟨hi0,by have e:((aU (cZ t.nodes[i] k).1).length:Int)=0:=e;omega⟩
    repeat' first
   |refine⟨_,hrow,?_⟩
   |refine⟨_,adk,?_⟩
   |refine⟨_,_,np,?_⟩
   |refine⟨_,_,hx,?_⟩
   |refine an cno ?_
   |refine ah ci ?_
   |refine⟨_,nk,?_⟩
   |refine an cl ?_
   |refine⟨(Fy (bw t k),([]:List TV)),?_,?_,rfl⟩
   |refine⟨(Fy (bw t k),([]:List TV)),?_,?_,⟨rfl,by trivial⟩⟩
   |exact fin (fun a b=>(a,b)=(Fy (bw t k),([]:List TV))) rfl
   |exact fin (fun r fs=>r=Fy (bw t k)∧fs=[]) ⟨rfl,by trivial⟩
   ·have ci:bL 0 (i:Int)=false:=by rw[dm];simp;omega
    repeat' first
   |refine⟨_,hrow,?_⟩
   |refine⟨_,adk,?_⟩
   |refine⟨_,_,np,?_⟩
   |refine⟨_,_,hx,?_⟩
   |refine an cno ?_
   |refine an ci ?_
   |refine⟨(Fy (bw t k),([]:List TV)),?_,?_,rfl⟩
   |refine⟨(Fy (bw t k),([]:List TV)),?_,?_,⟨rfl,by trivial⟩⟩
   |exact fin (fun a b=>(a,b)=(Fy (bw t k),([]:List TV))) rfl
   |exact fin (fun r fs=>r=Fy (bw t k)∧fs=[]) ⟨rfl,by trivial⟩
theorem QS (p:Pool) (k:Key) (b:Bool) (hc:p.cells.length≤1073741824):ai C Gc [.bx (wq p),uJ k,vB b] (.tu []) [.bx (wq ⟨p.t,p.aL,if b=true∧k.k=1 then jY p.cells k.c else p.cells,p.au,p.next⟩)]:=by
 refine(Xu _ _ _ _ _ _ _ _ _ _ _ _ _ ?_).run
 cases b with
 |false=>exact an rfl ⟨rfl,by trivial⟩
 |true=>
  refine ah rfl ?_
  by_cases h:k.k=1
  ·exact ah (by rw[bE];exact fk h) ⟨_,Cm p.cells k.c hc,rfl,by rw[aI ⟨rfl,h⟩]⟩
  ·exact an (by rw[bE];exact fe h) ⟨rfl,by rw[aF fun e=>h e.2]⟩
theorem vl (p:Pool) (hS:aJ p≤4194304) (k:Key):ai C oO [.bx (wq p),uJ k] (vB (dV p k).2) [.bx (wq (dV p k).1)]:=by
 have hP:=cD hS;have ta:=ze p.t k.b k.a ay;have tp:=tZ p.t k ay;obtain⟨T,b,hT⟩: ∃T b,bw p.t k=(T,b):=⟨_,_,rfl⟩;obtain⟨o,f,hO⟩: ∃o f,w7 p.t k.b k.a=(o,f):=⟨_,_,rfl⟩
 have e:dV p k=if b=true then(⟨T,p.aL,if f=true∧o.k=1 then jY p.cells o.c else p.cells,p.au,p.next⟩,true) else(p,false):=by
  unfold dV JS;rw[hT,hO]
 have hno:=Mw (t:=p.t) (k:=k);rw[hT] at tp hno;rw[hO] at ta;rw[e];refine(Zi _ _ _ _ _ _ _ _ _ _ _ _ ?_).run
 cases b with
 |false=>
  have hno:T=p.t:=hno rfl;subst hno;rw[aF cY];exact bN
 |true=>
  rw[aI rfl];have dr:=QS ⟨T,p.aL,p.cells,p.au,p.next⟩ o f (by simp only[];omega);exact bN
theorem nR (p:Pool) (hS:aJ p≤4194304) (k:Key):ai C g6 [.bx (wq p),uJ k] (vB (dV p k).2) [.bx (wq (dV p k).1)]:=by
 have hP:=cD hS;have ta:=vk p.t k.b k.a ay;have tp:=tY p.t k ay;obtain⟨T,b,hT⟩: ∃T b,bw p.t k=(T,b):=⟨_,_,rfl⟩;obtain⟨o,f,hO⟩: ∃o f,w7 p.t k.b k.a=(o,f):=⟨_,_,rfl⟩
 have e:dV p k=if b=true then(⟨T,p.aL,if f=true∧o.k=1 then jY p.cells o.c else p.cells,p.au,p.next⟩,true) else(p,false):=by
  unfold dV JS;rw[hT,hO]
 have hno:=Mw (t:=p.t) (k:=k);rw[hT] at tp hno;rw[hO] at ta;rw[e];refine(Lu _ _ _ _ _ _ _ _ _ _ _ _ ?_).run
 cases b with
 |false=>
  have hno:T=p.t:=hno rfl;subst hno;rw[aF cY];exact bN
 |true=>
  rw[aI rfl]
  cases f with
  |false=>
   rw[aF cY];exact bN
  |true=>
   by_cases ho:o.k=1
   ·rw[aI ⟨rfl,ho⟩]
    have ce:cq o.k 1=true:=by rw[bE];exact fk ho
    have fc:=Cn p.cells o.c ay;exact bN
   ·rw[aF fun e=>ho e.2]
    have ce:cq o.k 1=false:=by rw[bE];exact fe ho
    exact bN
theorem W5 {l:List Vol} {s:ByteArray} (h:cc l s<0):fh l (cc l s)=none:=gE ay
theorem xp (p:Pool) (s:ByteArray) (b:Int) (hS:aJ p≤4194304) (hz:s.size≤140737488355328):ai C uW [c6 p,vS s,vI b] (vI (g9 p s b)) []:=by
 have hP:=cD hS;have hva:=jk p s ay;have hvl:=GL p s hS hz;refine(Uu _ _ _ _ _ _ _ _ _ ?_).run;unfold g9
 by_cases h1:uE p s=true
 ·rw[aI h1] at hvl ⊢
  by_cases h2:cc p.au s<0
  ·rw[aI h2] at hvl
   rw[W5 h2];exact bN
  ·rw[aF h2] at hvl
   obtain⟨v,hv⟩:=Gi h2;have hsz:=B9 (wz (by unfold uE at h1;simp only[eY] at h1;exact h1.1)) hv
   have hrv:rowAt (p.au.map cj) (cc p.au s)=some [iS v.name,iI v.cV,iI v.size,iB v.fx]:=by rw[aR,hv];rfl
   have hin:=tE b 0 (v.size-1);have hsub:cO v.size 1=v.size-1:=dh ay;rw[hv];simp only[]
   cases h3:v.fx with
   |true=>
    rw[h3] at hrv;rw[aI rfl];exact bN
   |false=>
    rw[h3] at hrv;rw[aF cY]
    cases h4:iC b 0 (v.size-1) with
    |true=>
     rw[h4,←hsub] at hin;rw[aI rfl];exact bN
    |false=>
     rw[h4,←hsub] at hin;rw[aF cY];exact bN
 ·rw[aF h1] at hvl ⊢
  exact bN
theorem v7 (p:Pool) (s:ByteArray) (b:Int) (hS:aJ p≤4194304) (hz:s.size≤140737488355328):ai C tC [c6 p,vS s,vI b,vB true] (tII (cc p.au s,g9 p s b)) []:=by
 have hP:=cD hS;have hva:=lS p s ay;have hok:=e9 p hS;have hnm:=(nc s hz (jT s)).2 rfl;refine(RQ _ _ _ _ _ _ _ _ _ _ ?_).run;unfold g9 uE
 cases h0:c7 p with
 |false=>
  rw[h0] at hok;exact bN
 |true=>
 rw[h0] at hok
 cases h1:jT s with
 |false=>
  rw[h1] at hnm;exact bN
 |true=>
  rw[h1] at hnm;rw[aI (show(true&&true)=true from rfl)]
  by_cases h2:cc p.au s<0
  ·have cl:bL (cc p.au s) 0=true:=by rw[dm];exact fk h2
   rw[W5 h2];exact bN
  ·have cl:bL (cc p.au s) 0=false:=by rw[dm];exact fe h2
   obtain⟨v,hv⟩:=Gi h2;have hsz:=B9 (wz h0) hv
   have hrv:rowAt (p.au.map cj) (cc p.au s)=some [iS v.name,iI v.cV,iI v.size,iB v.fx]:=by rw[aR,hv];rfl
   have hin:=nL b 0 (v.size-1);have hsub:cO v.size 1=v.size-1:=dh ay;rw[hv];simp only[]
   cases h3:v.fx with
   |true=>
    rw[h3] at hrv;rw[aI rfl];exact bN
   |false=>
    rw[h3] at hrv;rw[aF cY]
    cases h4:iC b 0 (v.size-1) with
    |true=>
     rw[h4,←hsub] at hin;rw[aI rfl];exact bN
    |false=>
     rw[h4,←hsub] at hin;rw[aF cY];exact bN
theorem Ac {l:List Cell} {n i:Int} {cs:List Cell} (h:jJ l n=(cs,i,true)): ∃c,fh cs i=some c∧ahx cs i=c.g:=by
 have h0:eK l=true∧iD n=true∧0≤ff l:=Classical.byContradiction fun hn=>by
  rw[qy hn] at h;cases h
 rw[w5 h0] at h;obtain⟨rfl,h2⟩:=Prod.mk.inj h;obtain⟨rfl,_⟩:=Prod.mk.inj h2;have hl: -1≤ff l∧ff l<l.length:=ahv AH l;obtain⟨c,hc⟩:=mm (l:=l.modify (ff l).toNat fun c=>⟨c.g,true,n⟩) h0.2.2 (by rw[R5];exact hl.2);exact⟨c,hc,by unfold ahx;rw[hc]⟩
theorem W6 (p:Pool) (s:ByteArray) (b n:Int) (hS:aJ p≤1048576) (hz:s.size≤1048576):ai C MB [c6 p,vS s,vI b,vI n] (P7 (mX p s b n)) []:=by
 have r8:aJ p≤4194304:=by omega
 have hP:=cD r8;have Jh:=cA p r8;have hva:=jk p s ay;have Yr:=xp p s b r8 ay;have zK:=(yu n (iD n)).2 rfl;refine(acN _ _ _ _ _ _ _ _ _ _ ?_).run
 by_cases h1:g9 p s b=0
 ·rw[h1] at Yr
  obtain⟨v,hv,_⟩:=wA h1
  have hrv:rowAt (p.au.map cj) (cc p.au s)=some [iS v.name,iI v.cV,iI v.size,iB v.fx]:=by rw[aR,hv];rfl
  cases h2:iD n with
  |false=>
   rw[h2] at zK
   have e:mX p s b n=(p,4):=by unfold mX;rw[aI h1,aF (by rw[h2];simp)]
   rw[e];exact bN
  |true=>
   rw[h2] at zK;have tk:=Cp p.cells n ay;obtain⟨cs,i,ok,uH⟩: ∃cs i ok,jJ p.cells n=(cs,i,ok):=⟨_,_,_,rfl⟩
   have hcl:cs.length=p.cells.length:=by have:=Oa p.cells n;rw[uH] at this;exact this
   have hX:aJ ⟨p.t,p.aL,cs,p.au,p.next⟩≤2000000:=by unfold aJ at hS ⊢;simp only[];omega
   rw[uH] at tk
   cases ok with
   |false=>
    have e:mX p s b n=(p,6):=by unfold mX;rw[aI h1,aI h2,hv];simp only[];rw[uH];rfl
    have en:=j9 p ⟨p.t,p.aL,cs,p.au,p.next⟩ false r8 ay;rw[e];exact bN
   |true=>
    obtain⟨c,hc,agR⟩:=Ac uH
    have hrc:rowAt (cs.map bM) i=some [iI c.g,iB c.u,iI c.n]:=by rw[aR,hc];rfl
    have pk:=vl ⟨p.t,p.aL,cs,p.au,p.next⟩ ay ⟨b,v.cV,1,i,c.g⟩;have hpz:=tj ⟨p.t,p.aL,cs,p.au,p.next⟩ ⟨b,v.cV,1,i,c.g⟩
    have e:mX p s b n=Ez p (dV ⟨p.t,p.aL,cs,p.au,p.next⟩ ⟨b,v.cV,1,i,c.g⟩).1 (dV ⟨p.t,p.aL,cs,p.au,p.next⟩ ⟨b,v.cV,1,i,c.g⟩).2:=by
     unfold mX;rw[aI h1,aI h2,hv];simp only[];unfold acp;rw[uH];simp only[];rw[agR];rfl
    rw[e];generalize dV ⟨p.t,p.aL,cs,p.au,p.next⟩ ⟨b,v.cV,1,i,c.g⟩=X at*;have en:=j9 p X.1 X.2 r8 ay;exact bN
 ·have c1:cq (g9 p s b) 0=false:=by rw[bE];exact fe h1
  have c2:(!cq (g9 p s b) 0)=true:=by rw[c1];rfl
  have e:mX p s b n=(p,g9 p s b):=by unfold mX;rw[aF h1]
  rw[e];exact bN
theorem zI (p:Pool) (hS:aJ p≤4194304) (i b:Int) (v:Vol) (hv:fh p.au i=some v):ai C vh [.bx (wq p),vI i,vI b] (vB (cF p v.cV b).2) [.bx (wq (cF p v.cV b).1)]:=by
 have hP:=cD hS
 have hrv:rowAt (p.au.map cj) i=some [iS v.name,iI v.cV,iI v.size,iB v.fx]:=by rw[aR,hv];rfl
 have sa:=AS p.t p.aL b v.cV ay ay;have ta:=ze p.t b v.cV ay;have pg:=vl p hS ⟨b,v.cV,2,0,0⟩;have pn:=vl p hS ⟨b,v.cV,0,0,0⟩;obtain⟨a,f,hA⟩: ∃a f,tU p.t p.aL b v.cV=(a,f):=⟨_,_,rfl⟩;obtain⟨o,q,hO⟩: ∃o q,w7 p.t b v.cV=(o,q):=⟨_,_,rfl⟩
 have e:cF p v.cV b=if f=true∧a.k=1 then dV p ⟨b,v.cV,2,0,0⟩ else if q=true then dV p ⟨b,v.cV,0,0,0⟩ else(p,true):=by
  unfold cF;rw[hA,hO]
 rw[hA] at sa;rw[hO] at ta;rw[e];generalize dV p ⟨b,v.cV,2,0,0⟩=X at*;generalize dV p ⟨b,v.cV,0,0,0⟩=Y at*;refine(Pq _ _ _ _ _ _ _ _ _ ?_).run
 by_cases h1:f=true∧a.k=1
 ·obtain⟨rfl,ha⟩:=h1
  have ce:cq a.k 1=true:=by rw[bE];exact fk ha
  rw[aI ⟨rfl,ha⟩];exact bN
 ·rw[aF h1]
  have ce:f=true→cq a.k 1=false:=fun hf=>by rw[bE];exact fe fun ha=>h1 ⟨hf,ha⟩
  cases f with
  |false=>
   cases q with
   |false=>
    rw[aF cY];exact bN
   |true=>
    rw[aI rfl];exact bN
  |true=>
   have ce:=ce rfl
   cases q with
   |false=>
    rw[aF cY];exact bN
   |true=>
    rw[aI rfl];exact bN
theorem QT (p:Pool) (s:ByteArray) (b:Int) (hS:aJ p≤1048576) (hz:s.size≤1048576):ai C F6 [c6 p,vS s,vI b] (P7 (mQ p s b)) []:=by
 have r8:aJ p≤4194304:=by omega
 have hP:=cD r8;have Jh:=cA p r8;have hva:=jk p s ay;have Yr:=xp p s b r8 ay;refine(XU _ _ _ _ _ _ _ _ _ ?_).run
 by_cases h1:g9 p s b=0
 ·rw[h1] at Yr
  obtain⟨v,hv,_⟩:=wA h1;have di:=zI p r8 (cc p.au s) b v hv;have hdz:=zZ p v.cV b
  have e:mQ p s b=Ez p (cF p v.cV b).1 (cF p v.cV b).2:=by unfold mQ;rw[aI h1,hv]
  rw[e];generalize cF p v.cV b=X at*;have en:=j9 p X.1 X.2 r8 ay;exact bN
 ·have c1:cq (g9 p s b) 0=false:=by rw[bE];exact fe h1
  have c2:(!cq (g9 p s b) 0)=true:=by rw[c1];rfl
  have e:mQ p s b=(p,g9 p s b):=by unfold mQ;rw[aF h1]
  rw[e];exact bN
theorem W7 (p:Pool) (s:ByteArray) (b n:Int) (hS:aJ p≤1048576) (hz:s.size≤1048576):ai C MC [c6 p,vS s,vI b,vI n] (P7 (mX p s b n)) []:=by
 have r8:aJ p≤4194304:=by omega
 have hP:=cD r8;have Jh:=bK p r8;have hva:=lS p s ay;have Yr:=v7 p s b r8 ay;have zK:=(yw n (iD n)).2 rfl;refine(acT _ _ _ _ _ _ _ _ _ _ ?_).run
 by_cases h1:g9 p s b=0
 ·rw[h1] at Yr
  obtain⟨v,hv,_⟩:=wA h1
  have hrv:rowAt (p.au.map cj) (cc p.au s)=some [iS v.name,iI v.cV,iI v.size,iB v.fx]:=by rw[aR,hv];rfl
  cases h2:iD n with
  |false=>
   rw[h2] at zK
   have e:mX p s b n=(p,4):=by unfold mX;rw[aI h1,aF (by rw[h2];simp)]
   rw[e];exact bN
  |true=>
   rw[h2] at zK;have tk:=Co p.cells n ay;obtain⟨cs,i,ok,uH⟩: ∃cs i ok,jJ p.cells n=(cs,i,ok):=⟨_,_,_,rfl⟩
   have hcl:cs.length=p.cells.length:=by have:=Oa p.cells n;rw[uH] at this;exact this
   have hX:aJ ⟨p.t,p.aL,cs,p.au,p.next⟩≤2000000:=by unfold aJ at hS ⊢;simp only[];omega
   rw[uH] at tk
   cases ok with
   |false=>
    have e:mX p s b n=(p,6):=by unfold mX;rw[aI h1,aI h2,hv];simp only[];rw[uH];rfl
    have en:=jz p ⟨p.t,p.aL,cs,p.au,p.next⟩ false r8 ay;rw[e];exact bN
   |true=>
    obtain⟨c,hc,agR⟩:=Ac uH
    have hrc:rowAt (cs.map bM) i=some [iI c.g,iB c.u,iI c.n]:=by rw[aR,hc];rfl
    have pk:=nR ⟨p.t,p.aL,cs,p.au,p.next⟩ ay ⟨b,v.cV,1,i,c.g⟩;have hpz:=tj ⟨p.t,p.aL,cs,p.au,p.next⟩ ⟨b,v.cV,1,i,c.g⟩
    have e:mX p s b n=Ez p (dV ⟨p.t,p.aL,cs,p.au,p.next⟩ ⟨b,v.cV,1,i,c.g⟩).1 (dV ⟨p.t,p.aL,cs,p.au,p.next⟩ ⟨b,v.cV,1,i,c.g⟩).2:=by
     unfold mX;rw[aI h1,aI h2,hv];simp only[];unfold acp;rw[uH];simp only[];rw[agR];rfl
    rw[e];generalize dV ⟨p.t,p.aL,cs,p.au,p.next⟩ ⟨b,v.cV,1,i,c.g⟩=X at*;have en:=jz p X.1 X.2 r8 ay;exact bN
 ·have c1:cq (g9 p s b) 0=false:=by rw[bE];exact fe h1
  have c2:(!cq (g9 p s b) 0)=true:=by rw[c1];rfl
  have e:mX p s b n=(p,g9 p s b):=by unfold mX;rw[aF h1]
  rw[e];exact bN
theorem xq (p:Pool) (hS:aJ p≤4194304) (i b:Int) (v:Vol) (hv:fh p.au i=some v):ai C qI [.bx (wq p),vI i,vI b] (vB (cF p v.cV b).2) [.bx (wq (cF p v.cV b).1)]:=by
 have hP:=cD hS
 have hrv:rowAt (p.au.map cj) i=some [iS v.name,iI v.cV,iI v.size,iB v.fx]:=by rw[aR,hv];rfl
 have sa:=AT p.t p.aL b v.cV ay ay;have ta:=vk p.t b v.cV ay;have pg:=nR p hS ⟨b,v.cV,2,0,0⟩;have pn:=nR p hS ⟨b,v.cV,0,0,0⟩;obtain⟨a,f,hA⟩: ∃a f,tU p.t p.aL b v.cV=(a,f):=⟨_,_,rfl⟩;obtain⟨o,q,hO⟩: ∃o q,w7 p.t b v.cV=(o,q):=⟨_,_,rfl⟩
 have e:cF p v.cV b=if f=true∧a.k=1 then dV p ⟨b,v.cV,2,0,0⟩ else if q=true then dV p ⟨b,v.cV,0,0,0⟩ else(p,true):=by
  unfold cF;rw[hA,hO]
 rw[hA] at sa;rw[hO] at ta;rw[e];generalize dV p ⟨b,v.cV,2,0,0⟩=X at*;generalize dV p ⟨b,v.cV,0,0,0⟩=Y at*;refine(KE _ _ _ _ _ _ _ _ _ ?_).run
 by_cases h1:f=true∧a.k=1
 ·obtain⟨rfl,ha⟩:=h1
  have ce:cq a.k 1=true:=by rw[bE];exact fk ha
  rw[aI ⟨rfl,ha⟩];exact bN
 ·rw[aF h1]
  have ce:f=true→cq a.k 1=false:=fun hf=>by rw[bE];exact fe fun ha=>h1 ⟨hf,ha⟩
  cases f with
  |false=>
   cases q with
   |false=>
    rw[aF cY];exact bN
   |true=>
    rw[aI rfl];exact bN
  |true=>
   have ce:=ce rfl
   cases q with
   |false=>
    rw[aF cY];exact bN
   |true=>
    rw[aI rfl];exact bN
theorem QU (p:Pool) (s:ByteArray) (b:Int) (hS:aJ p≤1048576) (hz:s.size≤1048576):ai C F7 [c6 p,vS s,vI b] (P7 (mQ p s b)) []:=by
 have r8:aJ p≤4194304:=by omega
 have hP:=cD r8;have Jh:=bK p r8;have hva:=lS p s ay;have Yr:=v7 p s b r8 ay;refine(Yc _ _ _ _ _ _ _ _ _ ?_).run
 by_cases h1:g9 p s b=0
 ·rw[h1] at Yr
  obtain⟨v,hv,_⟩:=wA h1;have di:=xq p r8 (cc p.au s) b v hv;have hdz:=zZ p v.cV b
  have e:mQ p s b=Ez p (cF p v.cV b).1 (cF p v.cV b).2:=by unfold mQ;rw[aI h1,hv]
  rw[e];generalize cF p v.cV b=X at*;have en:=jz p X.1 X.2 r8 ay;exact bN
 ·have c1:cq (g9 p s b) 0=false:=by rw[bE];exact fe h1
  have c2:(!cq (g9 p s b) 0)=true:=by rw[c1];rfl
  have e:mQ p s b=(p,g9 p s b):=by unfold mQ;rw[aF h1]
  rw[e];exact bN
theorem S8 (p:Pool) (s:ByteArray) (n:Int) (hS:aJ p≤1048576) (hz:s.size≤1048576):ai C gz [c6 p,vS s,vI n] (P7 (p5 p s n)) []:=by
 have r8:aJ p≤4194304:=by omega
 have hP:=cD r8;have Jh:=cA p r8;have hva:=jk p s ay;have Yr:=xp p s 0 r8 ay;have hin:=tE n 1 12;obtain⟨Z,hZe⟩: ∃Z,Z=p5 p s n:=⟨_,rfl⟩;rw[←hZe];refine(Ze _ _ _ _ _ _ _ _ _ ?_).run
 by_cases h1:g9 p s 0=0
 ·rw[h1] at Yr
  obtain⟨v,hv,hfm,_⟩:=wA h1;have hvz:=B9 (wz (by unfold uE at hfm;simp only[eY] at hfm;exact hfm.1)) hv
  have hrv:rowAt (p.au.map cj) (cc p.au s)=some [iS v.name,iI v.cV,iI v.size,iB v.fx]:=by rw[aR,hv];rfl
  cases h2:iC n 1 12 with
  |false=>
   rw[h2] at hin
   have e:Z=(p,4):=by rw[hZe];unfold p5;rw[aI h1,aF (by rw[h2];simp)]
   rw[e];exact bN
  |true=>
  rw[h2] at hin
  have hn:1≤n∧n≤12:=by unfold iC at h2;simpa using h2
  have hZ:Ez p (Cd (yH v.cV (v.size-n).toNat (v.size-1) p).1 (cc p.au s) n) (yH v.cV (v.size-n).toNat (v.size-1) p).2=Z:=by
   rw[hZe];unfold p5;rw[aI h1,aI h2,hv]
  clear hZe;have hsb:cO v.size 1=v.size-1:=dh ay
  have fin: ∀(ok:Bool) (X:Pool),aJ X≤4000000→X.au=p.au→Ez p (Cd X (cc p.au s) n) ok=Z→ ∀Q:QV,Q (P7 Z) []→ ∃(s62:ByteArray) (n63:Int) (n64:Int) (b65:Bool),rowAt (X.au.map cj) (cc p.au s)=some [iS s62,iI n63,iI n64,iB b65]∧(∃(s66:ByteArray) (n67:Int) (n68:Int) (b69:Bool),rowAt (X.au.map cj) (cc p.au s)=some [iS s66,iI n67,iI n68,iB b69]∧(∃(l70:RR) (l71:RR) (l72:RR) (l73:RR) (l74:RR) (n75:Int) (n76:Int),ai C gC ([c6 p,TV.ag [TC.sub 1 (X.t.aE.map bP),TC.sub 1 (X.t.nodes.map aQ),TC.sub 2 (X.aL.map bR),TC.sub 3 (X.cells.map bM),TC.sub 4 (setRow (X.au.map cj) (cc p.au s) 2 [iI n]),iI X.next],TV.c (iB ok)]) (TV.tu [(1,[TC.sub 1 l70,TC.sub 1 l71,TC.sub 2 l72,TC.sub 3 l73,TC.sub 4 l74,iI n75]),(0,[iI n76])]) []∧(Q (TV.tu [(1,[TC.sub 1 l70,TC.sub 1 l71,TC.sub 2 l72,TC.sub 3 l73,TC.sub 4 l74,iI n75]),(0,[iI n76])]) ([])))):=by
   intro ok X hX hXv hZ Q hQ
   have hrx:rowAt (X.au.map cj) (cc p.au s)=some [iS v.name,iI v.cV,iI v.size,iB v.fx]:=by rw[hXv];exact hrv
   have en:=j9 p (Cd X (cc p.au s) n) ok r8 (by rw[aeL];omega);have e1:setRow (X.au.map cj) (cc p.au s) 2 [iI n]=(Cd X (cc p.au s) n).au.map cj:=JI;rw[hZ] at en;rw[e1];exact⟨_,_,_,_,hrx,_,_,_,_,hrx,_,_,_,_,_,_,_,en,hQ⟩
  have Q0:(fun r fs=>r=P7 Z∧fs=([]:List TV)) (P7 Z) []:=⟨rfl,by trivial⟩
  have bad:(p,(6:Int))=Z→ ∀(b:Int) (X:Pool),aJ X≤4000000→X.au=p.au→aa C gz iY 4 0 (mG n (cc p.au s) false b (p.t.aE.map bP) (p.t.nodes.map aQ) (p.aL.map bR) (p.cells.map bM) (p.au.map cj) p.next (X.t.aE.map bP) (X.t.nodes.map aQ) (X.aL.map bR) (X.cells.map bM) X.next (X.au.map cj)) (fun x st=>ax C gz iY x st fun r fs=>r=P7 Z∧fs=[]):=by
   intro hZ b X hX hXv
   by_cases h:n≤b
   ·exact vJ _ _ _ _ _ _ _ _ _ _ _ _ _ _ _ _ _ (ah (by rw[gl];exact fk h) (an rfl (Tl _ _ _ _ _ _ _ _ _ _ _ _ _ _ _ _ _ (fin false X hX hXv hZ (fun r fs=>r=P7 Z∧fs=[]) Q0))))
   ·exact vJ _ _ _ _ _ _ _ _ _ _ _ _ _ _ _ _ _ (an (by rw[gl];exact fe h) (H9 _ _ _ _ _ _ _ _ _ _ _ _ _ _ _ _ _ (fin false X hX hXv hZ (fun r fs=>r=P7 Z∧fs=[]) Q0)))
  have key: ∀(k:Nat) (b:Int) (X:Pool),k=(b+1-n).toNat→ -1≤b→b≤12→aJ X+300*k≤4000000→X.au=p.au→Ez p (Cd (yH v.cV k b X).1 (cc p.au s) n) (yH v.cV k b X).2=Z→aa C gz iY 4 0 (mG n (cc p.au s) true b (p.t.aE.map bP) (p.t.nodes.map aQ) (p.aL.map bR) (p.cells.map bM) (p.au.map cj) p.next (X.t.aE.map bP) (X.t.nodes.map aQ) (X.aL.map bR) (X.cells.map bM) X.next (X.au.map cj)) (fun x st=>ax C gz iY x st fun r fs=>r=P7 Z∧fs=[]):=by
   intro k
   induction k with
   |zero=>
    intro b X hk hb1 hb hX hXv hZ
    have h: ¬n≤b:=by omega
    have hZ:Ez p (Cd X (cc p.au s) n) true=Z:=hZ;exact vJ _ _ _ _ _ _ _ _ _ _ _ _ _ _ _ _ _ (an (by rw[gl];exact fe h) (H9 _ _ _ _ _ _ _ _ _ _ _ _ _ _ _ _ _ (fin true X ay hXv hZ (fun r fs=>r=P7 Z∧fs=[]) Q0)))
   |succ k ih=>
    intro b X hk hb1 hb hX hXv hZ
    ·have h:n≤b:=by omega
     have hsub:cO b 1=b-1:=dh ay;have hr:=(JT X v.cV b).2.1;have hdz:=zZ X v.cV b;have di:=zI X ay (cc p.au s) b v (by rw[hXv];exact hv);unfold yH at hZ;rw[show(if(cF X v.cV b).2=true then yH v.cV k (b-1) (cF X v.cV b).1 else(X,false))=if(cF X v.cV b).2=true then yH v.cV k (b-1) (cF X v.cV b).1 else(X,false) from rfl] at hZ;refine vJ _ _ _ _ _ _ _ _ _ _ _ _ _ _ _ _ _ (ah (by rw[gl];exact fk h) (ah rfl ⟨_,_,_,_,_,_,_,di,?_⟩))
     rw[hsub]
     cases hd:(cF X v.cV b).2 with
     |false=>
      rw[hd] at hZ;exact bad hZ (b-1) (cF X v.cV b).1 ay (by rw[hr];exact hXv)
     |true=>
      rw[hd] at hZ;exact ih (b-1) (cF X v.cV b).1 ay ay ay ay (by rw[hr];exact hXv) hZ
  have k0:=key (v.size-n).toNat (v.size-1) p ay ay ay ay rfl hZ;rw[←hsb] at k0;exact bN
 ·have c1:cq (g9 p s 0) 0=false:=by rw[bE];exact fe h1
  have c2:(!cq (g9 p s 0) 0)=true:=by rw[c1];rfl
  have e:Z=(p,g9 p s 0):=by rw[hZe];unfold p5;rw[aF h1]
  rw[e];exact bN
theorem S9 (p:Pool) (s:ByteArray) (n:Int) (hS:aJ p≤1048576) (hz:s.size≤1048576):ai C ij [c6 p,vS s,vI n] (P7 (p5 p s n)) []:=by
 have r8:aJ p≤4194304:=by omega
 have hP:=cD r8;have Jh:=bK p r8;have hva:=lS p s ay;have Yr:=v7 p s 0 r8 ay;have hin:=nL n 1 12;obtain⟨Z,hZe⟩: ∃Z,Z=p5 p s n:=⟨_,rfl⟩;rw[←hZe];refine(Zz _ _ _ _ _ _ _ _ _ ?_).run
 by_cases h1:g9 p s 0=0
 ·rw[h1] at Yr
  obtain⟨v,hv,hfm,_⟩:=wA h1;have hvz:=B9 (wz (by unfold uE at hfm;simp only[eY] at hfm;exact hfm.1)) hv
  have hrv:rowAt (p.au.map cj) (cc p.au s)=some [iS v.name,iI v.cV,iI v.size,iB v.fx]:=by rw[aR,hv];rfl
  cases h2:iC n 1 12 with
  |false=>
   rw[h2] at hin
   have e:Z=(p,4):=by rw[hZe];unfold p5;rw[aI h1,aF (by rw[h2];simp)]
   rw[e];exact bN
  |true=>
  rw[h2] at hin
  have hn:1≤n∧n≤12:=by unfold iC at h2;simpa using h2
  have hZ:Ez p (Cd (yH v.cV (v.size-n).toNat (v.size-1) p).1 (cc p.au s) n) (yH v.cV (v.size-n).toNat (v.size-1) p).2=Z:=by
   rw[hZe];unfold p5;rw[aI h1,aI h2,hv]
  clear hZe;have hsb:cO v.size 1=v.size-1:=dh ay
  have key: ∀(k:Nat) (b:Int) (X:Pool),k=(b+1-n).toNat→ -1≤b→b≤12→aJ X+300*k≤4000000→X.au=p.au→Ez p (Cd (yH v.cV k b X).1 (cc p.au s) n) (yH v.cV k b X).2=Z→aa C ij fG 4 0 (nY n (cc p.au s) b (p.t.aE.map bP) (p.t.nodes.map aQ) (p.aL.map bR) (p.cells.map bM) (p.au.map cj) p.next X.next (X.t.aE.map bP) (X.t.nodes.map aQ) (X.aL.map bR) (X.cells.map bM) (X.au.map cj)) (fun x st=>ax C ij fG x st fun r fs=>r=P7 Z∧fs=[]):=by
   intro k
   induction k with
   |zero=>
    intro b X hk hb1 hb hX hXv hZ
    have h: ¬n≤b:=by omega
    have hZ:Ez p (Cd X (cc p.au s) n) true=Z:=hZ
    have hrx:rowAt (X.au.map cj) (cc p.au s)=some [iS v.name,iI v.cV,iI v.size,iB v.fx]:=by rw[hXv];exact hrv
    have en:=jz p (Cd X (cc p.au s) n) true r8 (by rw[aeL];omega);have e1:setRow (X.au.map cj) (cc p.au s) 2 [iI n]=(Cd X (cc p.au s) n).au.map cj:=JI;rw[hZ] at en;refine Ii _ _ _ _ _ _ _ _ _ _ _ _ _ _ _ _ (an (by rw[gl];exact fe h) (TL _ _ _ _ _ _ _ _ _ _ _ _ _ _ _ _ _ ?_));rw[e1];exact⟨_,_,_,_,hrx,_,_,_,_,hrx,_,_,_,_,_,_,_,en,rfl,rfl⟩
   |succ k ih=>
    intro b X hk hb1 hb hX hXv hZ
    ·have h:n≤b:=by omega
     have hsub:cO b 1=b-1:=dh ay;have hr:=(JT X v.cV b).2.1;have hdz:=zZ X v.cV b;have di:=xq X ay (cc p.au s) b v (by rw[hXv];exact hv);unfold yH at hZ;rw[show(if(cF X v.cV b).2=true then yH v.cV k (b-1) (cF X v.cV b).1 else(X,false))=if(cF X v.cV b).2=true then yH v.cV k (b-1) (cF X v.cV b).1 else(X,false) from rfl] at hZ;refine Ii _ _ _ _ _ _ _ _ _ _ _ _ _ _ _ _ (ah (by rw[gl];exact fk h) ⟨_,_,_,_,_,_,_,di,?_⟩)
     cases hd:(cF X v.cV b).2 with
     |false=>
      rw[hd] at hZ;have hZ:(p,(6:Int))=Z:=hZ;exact ah rfl ⟨_,_,_,_,_,_,Jh,TK _ _ _ _ _ _ _ _ _ _ _ _ _ _ _ _ _ _ _ ⟨by rw[←hZ],rfl⟩⟩
     |true=>
      rw[hd] at hZ;rw[hsub];exact an rfl (ih (b-1) (cF X v.cV b).1 ay ay ay ay (by rw[hr];exact hXv) hZ)
  have k0:=key (v.size-n).toNat (v.size-1) p ay ay ay ay rfl hZ;rw[←hsb] at k0;exact bN
 ·have c1:cq (g9 p s 0) 0=false:=by rw[bE];exact fe h1
  have c2:(!cq (g9 p s 0) 0)=true:=by rw[c1];rfl
  have e:Z=(p,g9 p s 0):=by rw[hZe];unfold p5;rw[aF h1]
  rw[e];exact bN
theorem GM (p:Pool) (hS:aJ p≤4194304) (i:Int):ai C iV [c6 p,vI i] (uJ (jS p i)) []:=by
 have hP:=cD hS;have htl:=fj p.t;refine(Z4 _ _ _ _ _ _ _ _ ⟨_,j7 p.t ay,?_⟩).run
 have key:((aD p.t).drop 0).find? (pK i)=(aD p.t).find? (pK i)→aa C iV aj 4 0 (og i ((0:Nat):Int) ((aD p.t).map bQ)) (fun x st=>ax C iV aj x st fun r fs=>r=uJ (jS p i)∧fs=[]):=by
  refine aZ (aD p.t) (fun j=>((aD p.t).drop j).find? (pK i)=(aD p.t).find? (pK i)→aa C iV aj 4 0 (og i (j:Int) ((aD p.t).map bQ)) (fun x st=>ax C iV aj x st fun r fs=>r=uJ (jS p i)∧fs=[])) ?_ ?_
  ·intro h0
   rw[ew] at h0;exact IC _ _ _ _ (an cY (Ur _ _ _ _ _ ⟨by unfold jS;rw[←h0];rfl,rfl⟩))
  ·intro j a hj ha hd ht hn h0
   rw[hd,List.find?_cons] at h0
   have hr:rowAt ((aD p.t).map bQ) (j:Int)=some [iI a.b,iI a.a,iI a.k,iI a.c,iI a.g]:=by rw[aR,aH,ha];rfl
   have tM:aA (j:Int) 1=(j:Int)+1:=aG ay;refine IC _ _ _ _ (ah rV ⟨_,_,_,_,_,hr,_,_,_,_,_,hr,?_⟩);rw[tM]
   by_cases h1:a.k=1
   ·refine ah (by rw[bE];exact fk h1) ⟨_,_,_,_,_,hr,_,_,_,_,_,hr,?_⟩
    by_cases h2:a.c=i
    ·have ho:pK i a=true:=by unfold pK;simp[h1,h2]
     rw[ho] at h0;exact ah (by rw[bE];exact fk h2) ⟨_,_,_,_,_,hr,_,_,_,_,_,hr,Uq _ _ _ _ _ _ _ ⟨by unfold jS;rw[←h0],rfl⟩⟩
    ·have ho:pK i a=false:=by unfold pK;simp[h2]
     rw[ho] at h0;exact an (by rw[bE];exact fe h2) (hn h0)
   ·have ho:pK i a=false:=by unfold pK;simp[h1]
    rw[ho] at h0;exact an (by rw[bE];exact fe h1) (hn h0)
 exact key rfl
theorem wH {p:Pool} {i:Int} {c:Cell} (hc:fh p.cells i=some c) (h: ¬(c.u=true∧0≤ff p.cells∧ff p.cells≤i)):jK p i=(p,false):=by
 unfold jK
 split
 ·rw[hc];exact aF h
 ·rfl
theorem Ox {p:Pool} {i:Int} {c:Cell} (hp:c7 p=true) (hc:fh p.cells i=some c) (h:c.u=true∧0≤ff p.cells∧ff p.cells≤i):jK p i=GB p (GA p i c.n):=by
 unfold jK;rw[aI hp,hc];exact aI h
theorem Oy {p:Pool} {i:Int} (hc:fh p.cells i=none):jK p i=(p,false):=by
 unfold jK
 split
 ·rw[hc]
 ·rfl
theorem Oz {p:Pool} {i:Int} (hp:c7 p=false):jK p i=(p,false):=by
 unfold jK;rw[aF (by rw[hp];simp)]
theorem tF {p:Pool} {x:Pool×Bool} (h:x.2=false):GB p x=(p,false):=by
 unfold GB;rw[aF fun e=>by rw[h] at e;cases e.1]
theorem rR {p:Pool} {x:Pool×Bool} (h:c7 x.1=false):GB p x=(p,false):=by
 unfold GB;rw[aF fun e=>by rw[h] at e;cases e.2]
theorem rS {p:Pool} {x:Pool×Bool} (h1:x.2=true) (h2:c7 x.1=true):GB p x=(x.1,true):=by
 unfold GB;rw[aI ⟨h1,h2⟩]
theorem W8 {p:Pool} {i:Int} {c:Cell} (hp:c7 p=true) (hc:fh p.cells i=some c):iD c.n=true:=by
 have h:=w9 hp;simp only[eK,eY] at h;have:=List.all_eq_true.1 h.1 c (Ew hc);simp only[kK,eY] at this;exact this.2.1
theorem aiy {p:Pool} (hp:c7 p=true):p.cells.length=24:=by
 have h:=w9 hp;simp only[eK,eY,decide_eq_true_eq] at h;exact h.2
theorem OA (p:Pool) (i:Int) (hS:aJ p≤1048576):ai C DS [c6 p,vI i] (tPB (jK p i)) []:=by
 have Lx:aJ p≤4194304:=by omega
 have hP:=cD Lx;have htl:=fj p.t;have Jh:=cA p Lx;have hok:=gM p Lx;have hin:=tE i 0 ((p.cells.length:Int)-1)
 have hsl:cO (Int.ofNat (p.cells.map bM).length) 1=(p.cells.length:Int)-1:=by rw[bY];exact dh rV
 rw[←hsl] at hin;refine(Tk _ _ _ _ _ _ _ _ ?_).run
 cases hg:c7 p with
 |false=>
  rw[hg] at hok;rw[Oz hg];exact bN
 |true=>
 rw[hg] at hok
 cases hc:fh p.cells i with
 |none=>
  have h1:iC i 0 (cO (Int.ofNat (p.cells.map bM).length) 1)=false:=by
   rw[hsl];unfold iC;refine fe fun h=> ?_
   obtain⟨a,ha⟩:=mm (l:=p.cells) h.1 ay;rw[hc] at ha;cases ha
  rw[h1] at hin;rw[Oy hc];exact bN
 |some c=>
  have hi:0≤i∧i<p.cells.length:=Classical.byContradiction fun hn=>by rw[gE hn] at hc;cases hc
  have h1:iC i 0 (cO (Int.ofNat (p.cells.map bM).length) 1)=true:=by rw[hsl];unfold iC;exact fk ay
  rw[h1] at hin
  have hrc:rowAt (p.cells.map bM) i=some [iI c.g,iB c.u,iI c.n]:=by rw[aR,hc];rfl
  cases hu:c.u with
  |false=>
   rw[hu] at hrc;rw[wH hc fun h=>by rw[hu] at h;cases h.1];exact bN
  |true=>
  rw[hu] at hrc;have tk:=Cp p.cells c.n ay;have hk:=GM p Lx i
  by_cases hf:0≤ff p.cells
  ·have uH:=w5 ⟨w9 hg,W8 hg hc,hf⟩
   obtain⟨cs,hcs⟩: ∃cs,cs=p.cells.modify (ff p.cells).toNat (fun d=>⟨d.g,true,c.n⟩):=⟨_,rfl⟩;rw[←hcs] at uH
   have hcl:cs.length=p.cells.length:=by rw[hcs,R5]
   obtain⟨d,hd,agR⟩:=Ac uH
   have hrd:rowAt (cs.map bM) (ff p.cells)=some [iI d.g,iB d.u,iI d.n]:=by rw[aR,hd];rfl
   clear hcs;rw[uH] at tk
   by_cases hle:ff p.cells≤i
   ·have cl:bL i (ff p.cells)=false:=by rw[dm];exact fe ay
    rw[Ox hg hc ⟨hu,hf,hle⟩];have tp:=tZ p.t (sn p i c.n) ay;have fc:=Cm cs i ay;have hk:=GM p Lx i
    have hmk:sn p i c.n=⟨(jS p i).b,(jS p i).a,(jS p i).k,ff p.cells,d.g⟩:=by unfold sn;rw[uH];simp only[];rw[agR]
    have hX:GA p i c.n=(⟨(bw p.t (sn p i c.n)).1,p.aL,jY cs i,p.au,p.next⟩,(bw p.t (sn p i c.n)).2):=by unfold GA;rw[uH]
    have hsz:=vV p.t (sn p i c.n)
    have hXs:aJ (GA p i c.n).1≤4194304:=by
     have h1:=FY cs i;rw[hX];unfold aJ at hS ⊢;simp only[];omega
    have pk2:=gM (GA p i c.n).1 hXs;rw[hmk] at tp hX;obtain⟨T,b,hT⟩: ∃T b,bw p.t ⟨(jS p i).b,(jS p i).a,(jS p i).k,ff p.cells,d.g⟩=(T,b):=⟨_,_,rfl⟩;rw[hT] at tp hX
    cases b with
    |false=>
     rw[tF (by rw[hX])];exact bN
    |true=>
     cases hg:c7 (GA p i c.n).1 with
     |false=>
      rw[rR hg];rw[hg,hX] at pk2;exact bN
     |true=>
      rw[rS (by rw[hX]) hg,hX];rw[hg,hX] at pk2;exact bN
   ·have cl:bL i (ff p.cells)=true:=by rw[dm];exact fk ay
    rw[wH hc fun h=>hle h.2.2];exact bN
  ·rw[qy fun h=>hf h.2.2] at tk
   rw[wH hc fun h=>hf h.2.1];exact bN
theorem OC (p:Pool) (i:Int) (hS:aJ p≤1048576):ai C fy [c6 p,vI i] (tPB (jK p i)) []:=by
 have Lx:aJ p≤4194304:=by omega
 have hP:=cD Lx;have htl:=fj p.t;have Jh:=bK p Lx;have hok:=e9 p Lx;have hin:=nL i 0 23;have hfr:=GI p.cells ay;refine(TJ _ _ _ _ _ _ _ _ ?_).run
 cases hg:c7 p with
 |false=>
  rw[hg] at hok;rw[Oz hg];exact bN
 |true=>
 rw[hg] at hok;have h24:=aiy hg
 cases hc:fh p.cells i with
 |none=>
  have h1:iC i 0 23=false:=by
   unfold iC;refine fe fun h=> ?_
   obtain⟨a,ha⟩:=mm (l:=p.cells) h.1 ay;rw[hc] at ha;cases ha
  rw[h1] at hin;rw[Oy hc];exact bN
 |some c=>
  have hi:0≤i∧i<p.cells.length:=Classical.byContradiction fun hn=>by rw[gE hn] at hc;cases hc
  have h1:iC i 0 23=true:=by unfold iC;exact fk ay
  rw[h1] at hin
  have hrc:rowAt (p.cells.map bM) i=some [iI c.g,iB c.u,iI c.n]:=by rw[aR,hc];rfl
  cases hu:c.u with
  |false=>
   rw[hu] at hrc;rw[wH hc fun h=>by rw[hu] at h;cases h.1];exact bN
  |true=>
  rw[hu] at hrc
  by_cases hf:0≤ff p.cells
  ·have cf:bL (ff p.cells) 0=false:=by rw[dm];exact fe ay
   by_cases hle:ff p.cells≤i
   ·have cl:bL i (ff p.cells)=false:=by rw[dm];exact fe ay
    have tk:=Co p.cells c.n ay;have uH:=w5 ⟨w9 hg,W8 hg hc,hf⟩;obtain⟨cs,hcs⟩: ∃cs,cs=p.cells.modify (ff p.cells).toNat (fun d=>⟨d.g,true,c.n⟩):=⟨_,rfl⟩;rw[←hcs] at uH
    have hcl:cs.length=p.cells.length:=by rw[hcs,R5]
    obtain⟨d,hd,agR⟩:=Ac uH
    have hrd:rowAt (cs.map bM) (ff p.cells)=some [iI d.g,iB d.u,iI d.n]:=by rw[aR,hd];rfl
    clear hcs;rw[uH] at tk;obtain⟨Z,hZ⟩: ∃Z,Z=jK p i:=⟨_,rfl⟩;rw[←hZ];rw[Ox hg hc ⟨hu,hf,hle⟩] at hZ
    have hmk:sn p i c.n=⟨(jS p i).b,(jS p i).a,(jS p i).k,ff p.cells,d.g⟩:=by unfold sn;rw[uH];simp only[];rw[agR]
    have hX:GA p i c.n=(⟨(bw p.t (sn p i c.n)).1,p.aL,jY cs i,p.au,p.next⟩,(bw p.t (sn p i c.n)).2):=by unfold GA;rw[uH]
    have tp:=tY p.t (sn p i c.n) ay;have fc:=Cn cs i ay;have hsz:=vV p.t (sn p i c.n)
    have hXs:aJ (GA p i c.n).1≤4194304:=by
     have h1:=FY cs i;rw[hX];unfold aJ at hS ⊢;simp only[];omega
    have pk2:=e9 (GA p i c.n).1 hXs;rw[hmk] at tp hX;obtain⟨Tn,bn,hT⟩: ∃T b,bw p.t ⟨(jS p i).b,(jS p i).a,(jS p i).k,ff p.cells,d.g⟩=(T,b):=⟨_,_,rfl⟩;rw[hT] at tp hX;obtain⟨m,hm,hmo,hmu⟩:=agq (agl hg) hc hu;obtain⟨hml,_⟩:=List.getElem?_eq_some_iff.1 hm
    have fin:bn=true→ ∀T:Tree,T=Tn→ax C fy fG (TX.ex 0) (xw i (ff p.cells) (Int.ofNat (List.length ((aD p.t).map bQ))) ((aD p.t).length:Int) (bL ((aD p.t).length:Int) (Int.ofNat (List.length ((aD p.t).map bQ)))) (p.t.aE.map bP) (p.t.nodes.map aQ) (p.aL.map bR) (p.cells.map bM) (p.au.map cj) p.next p.next (cs.map bM) ((aD p.t).map bQ) (T.aE.map bP) (T.nodes.map aQ) (p.aL.map bR) (p.cells.map bM) (p.au.map cj)) fun r fs=>r=tPB Z∧fs=[]:=by
     intro hb T hTe;subst hTe hb;refine OP _ _ _ _ _ _ _ _ _ _ _ _ _ _ _ _ _ _ _ _ ⟨_,fc,?_⟩
     cases hgx:c7 (GA p i c.n).1 with
     |false=>
      rw[rR hgx] at hZ;rw[hgx,hX] at pk2;exact⟨_,pk2,ah rfl ⟨_,_,_,_,_,_,Jh,by rw[hZ],rfl⟩⟩
     |true=>
      rw[rS (by rw[hX]) hgx,hX] at hZ;rw[hgx,hX] at pk2;exact⟨_,pk2,an rfl ⟨by rw[hZ],rfl⟩⟩
    have key: ∀T:Tree,(0≤m→T=p.t)→(m<0→T=Tn∧bn=true)→aa C fy fG 4 0 (ke i (ff p.cells) ((aD p.t).map bQ) ((0:Nat):Int) (p.t.aE.map bP) (p.t.nodes.map aQ) (p.aL.map bR) (p.cells.map bM) (p.au.map cj) p.next p.next (cs.map bM) (T.aE.map bP) (T.nodes.map aQ) (p.aL.map bR) (p.cells.map bM) (p.au.map cj)) (fun x st=>ax C fy fG x st fun r fs=>r=tPB Z∧fs=[]):=by
     refine aZ (aD p.t) (fun j=> ∀T:Tree,(j≤m→T=p.t)→(m<j→T=Tn∧bn=true)→aa C fy fG 4 0 (ke i (ff p.cells) ((aD p.t).map bQ) (j:Int) (p.t.aE.map bP) (p.t.nodes.map aQ) (p.aL.map bR) (p.cells.map bM) (p.au.map cj) p.next p.next (cs.map bM) (T.aE.map bP) (T.nodes.map aQ) (p.aL.map bR) (p.cells.map bM) (p.au.map cj)) (fun x st=>ax C fy fG x st fun r fs=>r=tPB Z∧fs=[])) ?_ ?_
     ·intro T h1 h2
      have h2:=h2 hml;exact De _ _ _ _ _ _ _ _ _ _ _ _ _ _ _ _ _ _ (an cY (fin h2.2 T h2.1))
     ·intro j a hj ha hd2 ht hn T h1 h2
      have hr:rowAt ((aD p.t).map bQ) (j:Int)=some [iI a.b,iI a.a,iI a.k,iI a.c,iI a.g]:=by rw[aR,aH,ha];rfl
      have tM:aA (j:Int) 1=(j:Int)+1:=aG ay;refine De _ _ _ _ _ _ _ _ _ _ _ _ _ _ _ _ _ _ (ah rV ⟨_,_,_,_,_,hr,_,_,_,_,_,hr,?_⟩);rw[tM]
      by_cases hjm:j=m
      ·have hak:a=jS p i:=by rw[hjm,hm] at ha;exact(Option.some.inj ha).symm
       subst hak;unfold pK at hmo;simp only[eY,decide_eq_true_eq] at hmo;refine ah (by rw[bE];exact fk hmo.1) (ah (by rw[bE];exact fk hmo.2) ⟨_,_,_,hrd,_,_,_,hrd,_,_,_,tp,?_⟩)
       cases hb:bn with
       |false=>
        rw[tF (by rw[hX,hb])] at hZ;exact ah rfl ⟨_,_,_,_,_,_,Jh,OO _ _ _ _ _ _ _ _ _ _ _ _ _ _ _ _ _ _ _ _ _ _ _ _ _ _ _ _ ⟨by rw[hZ],rfl⟩⟩
       |true=>exact an rfl (hn Tn (fun h=>by omega) (fun _=>⟨rfl,hb⟩))
      ·have hno:pK i a=false:=by
        cases ho:pK i a with
        |false=>rfl
        |true=>exact absurd (hmu j a ha ho) hjm
       have hgo:=hn T (fun h=>h1 ay) (fun h=>h2 ay);unfold pK at hno
       by_cases ha1:a.k=1
       ·have ha2: ¬a.c=i:=fun e=>by simp[ha1,e] at hno
        exact ah (by rw[bE];exact fk ha1) (an (by rw[bE];exact fe ha2) hgo)
       ·exact an (by rw[bE];exact fe ha1) hgo
    have k0:=key p.t (fun _=>rfl) (fun h=>by omega);have hkk:=j8 p.t ay;exact bN
   ·have cl:bL i (ff p.cells)=true:=by rw[dm];exact fk ay
    rw[wH hc fun h=>hle h.2.2];exact bN
  ·have cf:bL (ff p.cells) 0=true:=by rw[dm];exact fk ay
   rw[wH hc fun h=>hf h.2.1];exact bN
theorem Sz {l:List Age} {id:Int} {a:Age} (h:gV l=true) (ha:fh l (fm l id)=some a):vW l id=((pL l id a.fr).take (fm l id).toNat++(pL l id a.fr).drop ((fm l id).toNat+1),true):=by
 unfold vW;rw[aI h,ha]
theorem SA {l:List Age} {id:Int} (ha:fh l (fm l id)=none):vW l id=(l,false):=by
 unfold vW
 split
 ·rw[ha]
 ·rfl
theorem W9 {l:List Age} {id:Int} (h:gV l=false):vW l id=(l,false):=by
 unfold vW;rw[aF (by rw[h];simp)]
theorem Xc {α:Type} (f:α→α): ∀(l1:List α) (x:α) (l2:List α),(l1++x::l2).modify l1.length f=l1++f x::l2
 |[],x,l2=>List.modify_zero_cons _ _ _
 |a::r,x,l2=>by rw[R4,fX,List.modify_succ_cons,Xc f r x l2];rfl
theorem agD {l:List Age} {id fr:Int} {j:Nat} {x:Age} (h:l[j]?=some x):(pL l id fr)[j]?=some (if x.fr=id then {x with fr:=fr} else x):=by
 unfold pL;rw[me,h];rfl
theorem Ta (l:List Age) (id:Int) (hl:l.length≤1073741800):ai C fo [gy l,vI id] (TV.tu [(0,[TC.sub 2 ((vW l id).1.map bR)]),(0,[iB (vW l id).2])]) []:=by
 have hat:=qg l id ay;have hok:ai C dG [gy l] (vB (gV l)) []:=y6 l ay
 have Jh:(bS (l.map bR)&&fits (Nat.add 0 (List.length (l.map bR))) 16)=true:=by rw[Ah,cP rV];rfl
 refine(ZE _ _ _ ?_).run
 by_cases h1:fm l id<0
 ·have cl:bL (fm l id) 0=true:=by rw[dm];exact fk h1
  rw[SA (gE ay)];exact bN
 ·have cl:bL (fm l id) 0=false:=by rw[dm];exact fe h1
  cases hg:gV l with
  |false=>
   rw[hg] at hok;rw[W9 hg];exact bN
  |true=>
   rw[hg] at hok;obtain⟨a,ha,_⟩:=Lc l id h1;rw[Sz hg ha];have hlt:=aeo l id;obtain⟨k,hk⟩: ∃k:Nat,fm l id=k:=⟨(fm l id).toNat,by omega⟩;rw[hk] at hat ha cl hlt ⊢;rw[lY]
   have hra:rowAt (l.map bR) (k:Int)=some [iI a.id,iI a.fr]:=by rw[aR,ha];rfl
   obtain⟨W,hW⟩: ∃W,W=pL l id a.fr:=⟨_,rfl⟩
   have hWl:W.length=l.length:=by rw[hW];exact F2 _ _ _
   rw[←hW];obtain⟨U,hU⟩: ∃U,U=W.take k++W.drop (k+1):=⟨_,rfl⟩
   have hUl:U.length≤l.length:=by rw[hU,cG,eP,iT];omega
   rw[←hU]
   have key: ∀acc:List Age,acc++(if 0≤k then(W.drop 0).take (k-0)++W.drop (k+1) else W.drop 0)=U→aa C fo bO 4 0 (iy (l.map bR) id (k:Int) ((0:Nat):Int) (acc.map bR)) (fun x st=>ax C fo bO x st fun r fs=>r=(TV.tu [(0,[TC.sub 2 (U.map bR)]),(0,[iB true])])∧fs=[]):=by
    refine aZ l (fun j=> ∀acc:List Age,acc++(if j≤k then(W.drop j).take (k-j)++W.drop (k+1) else W.drop j)=U→aa C fo bO 4 0 (iy (l.map bR) id (k:Int) (j:Int) (acc.map bR)) (fun x st=>ax C fo bO x st fun r fs=>r=(TV.tu [(0,[TC.sub 2 (U.map bR)]),(0,[iB true])])∧fs=[])) ?_ ?_
    ·intro acc h0
     have hk2: ¬l.length≤k:=by omega
     rw[aF hk2,←hWl,ew,qt] at h0;exact Il _ _ _ _ _ _ (an cY (TW _ _ _ _ _ _ _ ⟨by rw[h0],rfl⟩))
    ·intro j x hj hx hd ht hn acc h0
     have hlen:=congrArg List.length h0;rw[cG] at hlen
     have hr:rowAt (l.map bR) (j:Int)=some [iI x.id,iI x.fr]:=by rw[aR,aH,hx];rfl
     have tM:aA (j:Int) 1=(j:Int)+1:=aG ay;have hw:=agD (id:=id) (fr:=a.fr) hx;rw[←hW] at hw
     obtain⟨y,hy⟩: ∃y:Age,y=if x.fr=id then {x with fr:=a.fr} else x:=⟨_,rfl⟩
     rw[←hy] at hw;obtain⟨hjw,hwe⟩:=List.getElem?_eq_some_iff.1 hw
     have hdw:W.drop j=y::W.drop (j+1):=by rw[Gu hjw,hwe]
     have nx: ¬j=k→aa C fo bO 4 0 (iy (l.map bR) id (k:Int) ((j:Int)+1) ((acc++[y]).map bR)) (fun x st=>ax C fo bO x st fun r fs=>r=(TV.tu [(0,[TC.sub 2 (U.map bR)]),(0,[iB true])])∧fs=[]):=by
      intro hne;refine hn (acc++[y]) ?_;rw[←h0]
      by_cases h:j≤k
      ·rw[aI h,aI ay,hdw,show k-j=(k-(j+1))+1 from by omega,List.take_succ_cons];simp
      ·rw[aF h,aF ay,hdw];simp
     have sk:j=k→aa C fo bO 4 0 (iy (l.map bR) id (k:Int) ((j:Int)+1) (acc.map bR)) (fun x st=>ax C fo bO x st fun r fs=>r=(TV.tu [(0,[TC.sub 2 (U.map bR)]),(0,[iB true])])∧fs=[]):=by
      intro he;refine hn acc ?_;rw[←h0,he,aI (cX _),aF ay,qU,List.take_zero,xI]
     refine Il _ _ _ _ _ _ (ah rV ⟨_,_,hr,?_⟩);rw[tM]
     have hfit: ∀u v:Int,(bS [[iI u,iI v]]&&fits (Nat.succ (List.length (acc.map bR))) 16)=true:=fun u v=>by rw[vR,cP rV];rfl
     by_cases hf:x.fr=id
     ·rw[aI hf] at hy
      subst hy;refine ah (by rw[bE];exact fk hf) ⟨_,_,hra,?_⟩;rw[B8]
      by_cases hjk:j=k
      ·exact an (by rw[bE,hjk];simp) (sk hjk)
      ·exact ah (by rw[bE];simp;omega) (ah (hfit _ _) (nx hjk))
     ·rw[aF hf] at hy
      subst hy;refine an (by rw[bE];exact fe hf) ?_;rw[B8]
      by_cases hjk:j=k
      ·exact an (by rw[bE,hjk];simp) (sk hjk)
      ·exact ah (by rw[bE];simp;omega) (ah (hfit _ _) (nx hjk))
   have k0:=key [] (by rw[aI (Ee _),xI,List.drop_zero,Nat.sub_zero,hU]);exact bN
theorem Xd (l:List Age) (k:Nat) (hk:k<l.length):ai C Ck [gy l,vI (k:Int),vI ((k:Int)+1)] (gy (l.take k++l.drop (k+1))) []:=by
 refine ai.ext (p:=akL 2) rfl ?_;unfold akL;simp only[];rw[aI ⟨trivial,by omega,by simp<;>omega,trivial⟩,lY,show((k:Int)+1).toNat=k+1 from by omega];unfold gy;rw[uA,Jj,Ed]
theorem Tb (l:List Age) (id:Int) (hl:l.length≤1073741800):ai C jN [gy l,vI id] (TV.tu [(0,[TC.sub 2 ((vW l id).1.map bR)]),(0,[iB (vW l id).2])]) []:=by
 have hat:=xj l id ay;have Jh:=oV l ay;have hok:ai C dI [gy l] (vB (gV l)) []:=y8 l ay;refine(ZP _ _ _ ?_).run
 by_cases h1:fm l id<0
 ·have cl:bL (fm l id) 0=true:=by rw[dm];exact fk h1
  rw[SA (gE ay)];exact bN
 ·have cl:bL (fm l id) 0=false:=by rw[dm];exact fe h1
  cases hg:gV l with
  |false=>
   rw[hg] at hok;rw[W9 hg];exact bN
  |true=>
   rw[hg] at hok;obtain⟨a,ha,_⟩:=Lc l id h1;rw[Sz hg ha];have hlt:=aeo l id;obtain⟨k,hk⟩: ∃k:Nat,fm l id=k:=⟨(fm l id).toNat,by omega⟩;rw[hk] at hat ha cl hlt ⊢;rw[lY]
   have hra:rowAt (l.map bR) (k:Int)=some [iI a.id,iI a.fr]:=by rw[aR,ha];rfl
   have key: ∀M:List Age,M=pL (l.take 0) id a.fr++l.drop 0→aa C jN bO 4 0 (oc (l.map bR) id (k:Int) (l.map bR) ((0:Nat):Int) (M.map bR)) (fun x st=>ax C jN bO x st fun r fs=>r=(TV.tu [(0,[TC.sub 2 (((pL l id a.fr).take k++(pL l id a.fr).drop (k+1)).map bR)]),(0,[iB true])])∧fs=[]):=by
    refine aZ l (fun j=> ∀M:List Age,M=pL (l.take j) id a.fr++l.drop j→aa C jN bO 4 0 (oc (l.map bR) id (k:Int) (l.map bR) (j:Int) (M.map bR)) (fun x st=>ax C jN bO x st fun r fs=>r=(TV.tu [(0,[TC.sub 2 (((pL l id a.fr).take k++(pL l id a.fr).drop (k+1)).map bR)]),(0,[iB true])])∧fs=[])) ?_ ?_
    ·intro M hM
     rw[wh,ew,qt] at hM;subst hM;have hdl:=Xd (pL l id a.fr) k (by rw[F2];omega);have tM:aA (k:Int) 1=(k:Int)+1:=aG ay;rw[←tM] at hdl;exact Iw _ _ _ _ _ _ _ (an cY (Ud _ _ _ _ _ _ _ _ ⟨_,hdl,rfl,rfl⟩))
    ·intro j x hj hx hd ht hn M hM
     have hml:(pL (l.take j) id a.fr).length=j:=by rw[F2,eP];omega
     have hmj:M[j]?=some x:=by rw[hM,pO ay,hml,qU,hd];rfl
     have hr:rowAt (M.map bR) (j:Int)=some [iI x.id,iI x.fr]:=by rw[aR,aH,hmj];rfl
     have tM:aA (j:Int) 1=(j:Int)+1:=aG ay
     have hre:pL (l.take (j+1)) id a.fr=pL (l.take j) id a.fr++[if x.fr=id then {x with fr:=a.fr} else x]:=by
      rw[ht];unfold pL;rw[uA];rfl
     refine Iw _ _ _ _ _ _ _ (ah rV ⟨_,_,hr,_,_,hr,?_⟩);rw[tM]
     by_cases hf:x.fr=id
     ·refine ah (by rw[bE];exact fk hf) ⟨_,_,hra,_,_,hr,_,_,hr,?_⟩
      rw[abf];refine hn _ ?_;rw[hre,aI hf,hM,hd,lY];have hmm:=Xc (fun z:Age=>{z with fr:=a.fr}) (pL (l.take j) id a.fr) x (l.drop (j+1));rw[hml] at hmm;rw[hmm];simp
     ·refine an (by rw[bE];exact fe hf) (hn M ?_)
      rw[hre,aF hf,hM,hd];simp
   have k0:=key l rfl;exact bN
theorem Kg (p:Pool):c8 p=(0,0)∨(∃i k,(c8 p=(1,i)∨c8 p=(2,i))∧fh (aD p.t) i=some k)∨
 (∃i k x,c8 p=(3,i)∧fh (aD p.t) i=some k∧fh (eB p.aL k.a) 0=some x∧Ey p k.a=x)∨ ∃i a,c8 p=(4,i)∧fh p.aL i=some a:=by
 unfold c8
 split
 ·split
  ·rename_i h
   obtain⟨k,hk,_⟩:=w4 (sj p 1) (aD p.t) (by unfold mV at h;omega);exact .inr (.inl ⟨_,k,.inl rfl,hk⟩)
  ·split
   ·rename_i h
    obtain⟨k,hk,_⟩:=w4 (sj p 2) (aD p.t) (by unfold mV at h;omega);exact .inr (.inl ⟨_,k,.inr rfl,hk⟩)
   ·split
    ·rename_i h
     obtain⟨k,hk,h3⟩:=w4 (sj p 3) (aD p.t) (by unfold mV at h;omega);have h3:abj p k=true:=h3;unfold abj at h3
     split at h3
     ·cases h3
     ·rename_i h0
      have hx: ∃x,fh (eB p.aL k.a) 0=some x∧Ey p k.a=x:=by
       unfold Ey at h0 ⊢
       split
       ·rename_i hh
        obtain⟨x,hx⟩:=mm (l:=eB p.aL k.a) (i:=0) ay ay;exact⟨x,hx,by rw[hx]⟩
       ·rename_i hh;rw[aF hh] at h0;exact absurd rfl h0
      obtain⟨x,hx1,hx2⟩:=hx;exact .inr (.inr (.inl ⟨_,k,x,rfl,hk,hx1,hx2⟩))
    ·split
     ·rename_i h
      obtain⟨a,ha,_⟩:=w4 (vg p) p.aL (by unfold Mq at h;omega);exact .inr (.inr (.inr ⟨_,a,rfl,ha⟩))
     ·exact .inl rfl
 ·exact .inl rfl
theorem aeV (p:Pool) (k:Key):aJ (Ce p k).1≤aJ p+520:=by
 have h1:=vV p.t (fW k);have h2:=vV (bw p.t (fW k)).1 (F3 p k);unfold Ce aJ;simp only[];omega
theorem ahE (p:Pool) (id:Int):aJ (YG p id).1≤aJ p:=by
 have:=agn p.aL id;unfold YG aJ;simp only[];omega
theorem oW {p:Pool} {j i:Int} {X:Pool×Bool} (h:c8 p=(j,i)) (hj: ¬j=0) (hX:Sv p j i=X):jL p=GB p X:=by
 unfold jL;rw[h,aF hj,hX]
theorem Ll {p:Pool} {j i:Int} {k:Key} (hj:j=1∨j=2) (hk:fh (aD p.t) i=some k):Sv p j i=dV p (fW k):=by
 unfold Sv VB;rw[aF ay,aF ay,hk]
theorem Xe {p:Pool} {i:Int} {k:Key} (hk:fh (aD p.t) i=some k):Sv p 3 i=Ce p k:=by
 unfold Sv VB;rw[aF ay,aI rfl,hk]
theorem abu {p:Pool} {i:Int} {a:Age} (ha:fh p.aL i=some a):Sv p 4 i=YG p a.id:=by
 unfold Sv;rw[aI rfl,ha]
theorem EE (p:Pool) (hS:aJ p≤4194304) (k:Key):ai C z6 [.bx (wq p),uJ k] (vB (dV p (fW k)).2) [.bx (wq (dV p (fW k)).1)]:=
 (Yf _ _ _ _ _ _ _ _ _ _ _ _ ⟨_,_,_,_,_,_,_,vl p hS (fW k),rfl,by trivial⟩).run
theorem uF (p:Pool) (hS:aJ p≤4194304) (j i:Int) (k:Key) (hj:j=1∨j=2) (hk:fh (aD p.t) i=some k):ai C oP [.bx (wq p),vI j,vI i] (vB (dV p (fW k)).2) [.bx (wq (dV p (fW k)).1)]:=by
 have hP:=cD hS;have htl:=fj p.t;have hkk:=j8 p.t ay
 have hrk:rowAt ((aD p.t).map bQ) i=some [iI k.b,iI k.a,iI k.k,iI k.c,iI k.g]:=by rw[aR,hk];rfl
 have pk:=nR p hS (fW k);generalize dV p (fW k)=X at*;refine(p8 _ _ _ _ _ _ _ _ _ ?_).run
 have c1:cq j 4=false:=by rw[bE];exact fe ay
 have c2:(!cq j 3)=true:=by rw[bE,fe ay];rfl
 exact bN
theorem BG (p:Pool) (hS:aJ p≤4194304) (i:Int) (a:Age) (ha:fh p.aL i=some a):ai C oP [.bx (wq p),vI 4,vI i] (vB (YG p a.id).2) [.bx (wq (YG p a.id).1)]:=by
 have hP:=cD hS
 have hra:rowAt (p.aL.map bR) i=some [iI a.id,iI a.fr]:=by rw[aR,ha];rfl
 have ca:=Tb p.aL a.id ay;refine(p8 _ _ _ _ _ _ _ _ _ ?_).run;unfold YG;exact bN
theorem AX (p:Pool) (hS:aJ p≤4194304) (i:Int) (k:Key) (x:Int) (hk:fh (aD p.t) i=some k) (hx:fh (eB p.aL k.a) 0=some x) (he:Ey p k.a=x): ∃X:Pool,ai C oP [.bx (wq p),vI 3,vI i] (vB (Ce p k).2) [.bx (wq X)]∧((Ce p k).2=true→X=(Ce p k).1):=by
 have hP:=cD hS;have htl:=fj p.t;have hkk:=j8 p.t ay;have hkd:=vj p.aL k.a ay
 have hrk:rowAt ((aD p.t).map bQ) i=some [iI k.b,iI k.a,iI k.k,iI k.c,iI k.g]:=by rw[aR,hk];rfl
 have hrx:rowAt ((eB p.aL k.a).map bP) 0=some [iI x]:=by rw[aR,hx];rfl
 have h1:=vV p.t (fW k);have tp:=tY p.t (fW k) ay;have tq:=tY (bw p.t (fW k)).1 (F3 p k) ay
 have arJ:F3 p k=⟨k.b,x,k.k,k.c,k.g⟩:=by unfold F3;rw[he]
 rw[arJ] at tq;unfold Ce;rw[arJ];obtain⟨T,b,hT⟩: ∃T b,bw p.t (fW k)=(T,b):=⟨_,_,rfl⟩;rw[hT] at tp tq ⊢;obtain⟨U,c,hU⟩: ∃U c,bw T ⟨k.b,x,k.k,k.c,k.g⟩=(U,c):=⟨_,_,rfl⟩;simp only[] at tq ⊢;rw[hU] at tq ⊢;simp only[]
 cases b with
 |false=>
  refine⟨p,?_,fun h=>by cases h⟩;refine(p8 _ _ _ _ _ _ _ _ _ ?_).run;exact bN
 |true=>
  refine⟨⟨U,p.aL,p.cells,p.au,p.next⟩,?_,fun _=>rfl⟩;refine(p8 _ _ _ _ _ _ _ _ _ ?_).run;exact bN
theorem MR (p:Pool) (hS:aJ p≤1048576):ai C AL [c6 p] (tPB (jL p)) []:=by
 have Lx:aJ p≤4194304:=by omega
 have hP:=cD Lx;have htl:=fj p.t;have Jh:=cA p Lx;have hns:=Om p Lx;have hkk:=j7 p.t ay;refine(RB _ _ _ _ _ _ _ ?_).run;rcases Kg p with h0|⟨i,k,hn,hk⟩|⟨i,k,x,hn,hk,hx,he⟩|⟨i,a,hn,ha⟩
 ·have hps:jL p=(p,false):=by unfold jL;rw[h0];rfl
  rw[h0] at hns;rw[hps];exact bN
 ·have hrk:rowAt ((aD p.t).map bQ) i=some [iI k.b,iI k.a,iI k.k,iI k.c,iI k.g]:=by rw[aR,hk];rfl
  rcases hn with hn|hn
  ·rw[hn] at hns
   have hj:(1:Int)=1∨(1:Int)=2:= .inl rfl;have hps:=oW hn ay rfl;rw[hps];have hsz:=tj p (fW k);have hrun:=EE p Lx k;rw[Ll hj hk];generalize dV p (fW k)=X at*;have pk:=gM X.1 ay
   cases hb:X.2 with
   |false=>
    rw[hb] at hrun;rw[tF hb];exact bN
   |true=>
    rw[hb] at hrun
    cases hg:c7 X.1 with
    |false=>
     rw[hg] at pk;rw[rR hg];exact bN
    |true=>
     rw[hg] at pk;rw[rS hb hg];exact bN
  ·rw[hn] at hns
   have hj:(2:Int)=1∨(2:Int)=2:= .inr rfl;have hps:=oW hn ay rfl;rw[hps];have hsz:=tj p (fW k);have hrun:=EE p Lx k;rw[Ll hj hk];generalize dV p (fW k)=X at*;have pk:=gM X.1 ay
   cases hb:X.2 with
   |false=>
    rw[hb] at hrun;rw[tF hb];exact bN
   |true=>
    rw[hb] at hrun
    cases hg:c7 X.1 with
    |false=>
     rw[hg] at pk;rw[rR hg];exact bN
    |true=>
     rw[hg] at pk;rw[rS hb hg];exact bN
 ·have hrk:rowAt ((aD p.t).map bQ) i=some [iI k.b,iI k.a,iI k.k,iI k.c,iI k.g]:=by rw[aR,hk];rfl
  rw[hn] at hns;have hps:=oW hn ay (Xe hk);have hsz:=aeV p k;have h1:=vV p.t (fW k);have tp:=tZ p.t (fW k) ay;have tq:=tZ (bw p.t (fW k)).1 (F3 p k) ay;have kd:=GJ p Lx k.a;have pk:=gM (Ce p k).1 ay;rw[hps];unfold F3 at tq
  cases hb1:(bw p.t (fW k)).2 with
  |false=>
   rw[tF (by unfold Ce;simp only[];rw[hb1];rfl)];obtain⟨T,hT⟩: ∃T,bw p.t (fW k)=(T,false):=⟨(bw p.t (fW k)).1,by rw[←hb1]⟩;rw[hT] at tp tq;exact bN
  |true=>
   obtain⟨T,hT⟩: ∃T,bw p.t (fW k)=(T,true):=⟨(bw p.t (fW k)).1,by rw[←hb1]⟩;rw[hT] at tp tq;simp only[] at tq;obtain⟨U,c,hU⟩: ∃U c,bw T ⟨k.b,Ey p k.a,k.k,k.c,k.g⟩=(U,c):=⟨_,_,rfl⟩;rw[hU] at tq
   have hM:Ce p k=(⟨U,p.aL,p.cells,p.au,p.next⟩,c):=by unfold Ce F3;rw[hT];simp only[];rw[hU];rfl
   rw[hM] at pk ⊢
   cases c with
   |false=>
    rw[tF rfl];exact bN
   |true=>
    cases hg:c7 ⟨U,p.aL,p.cells,p.au,p.next⟩ with
    |false=>
     rw[rR hg];rw[hg] at pk;exact bN
    |true=>
     rw[rS rfl hg];rw[hg] at pk;exact bN
 ·have hra:rowAt (p.aL.map bR) i=some [iI a.id,iI a.fr]:=by rw[aR,ha];rfl
  rw[hn] at hns;have hps:=oW hn ay (abu ha);have hrun:=Ta p.aL a.id ay;have hsz:=ahE p a.id;have pk:=gM (YG p a.id).1 ay;rw[hps];unfold YG at pk ⊢;generalize vW p.aL a.id=Y at*;obtain⟨Y,b⟩:=Y
  cases b with
  |false=>
   rw[tF rfl];exact bN
  |true=>
   cases hg:c7 ⟨p.t,Y,p.cells,p.au,p.next⟩ with
   |false=>
    rw[rR hg];simp only[] at pk;rw[hg] at pk;exact bN
   |true=>
    rw[rS rfl hg];simp only[] at pk;rw[hg] at pk;exact bN
theorem MS (p:Pool) (hS:aJ p≤1048576):ai C AM [c6 p] (tPB (jL p)) []:=by
 have Lx:aJ p≤4194304:=by omega
 have hP:=cD Lx;have htl:=fj p.t;have Jh:=bK p Lx;have hns:=On p Lx;have hkk:=j8 p.t ay;refine(RO _ _ _ _ _ _ _ ?_).run;rcases Kg p with h0|⟨i,k,hn,hk⟩|⟨i,k,x,hn,hk,hx,he⟩|⟨i,a,hn,ha⟩
 ·have hps:jL p=(p,false):=by unfold jL;rw[h0];rfl
  rw[h0] at hns;rw[hps];exact bN
 ·have hrk:rowAt ((aD p.t).map bQ) i=some [iI k.b,iI k.a,iI k.k,iI k.c,iI k.g]:=by rw[aR,hk];rfl
  rcases hn with hn|hn
  ·rw[hn] at hns
   have hj:(1:Int)=1∨(1:Int)=2:= .inl rfl;have hps:=oW hn ay rfl;rw[hps];have hsz:=tj p (fW k);have hrun:=uF p Lx _ i k hj hk;rw[Ll hj hk];generalize dV p (fW k)=X at*;have pk:=e9 X.1 ay
   cases hb:X.2 with
   |false=>
    rw[hb] at hrun;rw[tF hb];exact bN
   |true=>
    rw[hb] at hrun
    cases hg:c7 X.1 with
    |false=>
     rw[hg] at pk;rw[rR hg];exact bN
    |true=>
     rw[hg] at pk;rw[rS hb hg];exact bN
  ·rw[hn] at hns
   have hj:(2:Int)=1∨(2:Int)=2:= .inr rfl;have hps:=oW hn ay rfl;rw[hps];have hsz:=tj p (fW k);have hrun:=uF p Lx _ i k hj hk;rw[Ll hj hk];generalize dV p (fW k)=X at*;have pk:=e9 X.1 ay
   cases hb:X.2 with
   |false=>
    rw[hb] at hrun;rw[tF hb];exact bN
   |true=>
    rw[hb] at hrun
    cases hg:c7 X.1 with
    |false=>
     rw[hg] at pk;rw[rR hg];exact bN
    |true=>
     rw[hg] at pk;rw[rS hb hg];exact bN
 ·have hrk:rowAt ((aD p.t).map bQ) i=some [iI k.b,iI k.a,iI k.k,iI k.c,iI k.g]:=by rw[aR,hk];rfl
  rw[hn] at hns;have hps:=oW hn ay (Xe hk);have hsz:=aeV p k;have pk:=e9 (Ce p k).1 ay;obtain⟨X0,hrun,hX0⟩:=AX p Lx i k x hk hx he;rw[hps];generalize Ce p k=X at*
  cases hb:X.2 with
  |false=>
   rw[hb] at hrun;rw[tF hb];exact bN
  |true=>
   have hX0:=hX0 hb;subst hX0;rw[hb] at hrun
   cases hg:c7 X.1 with
   |false=>
    rw[hg] at pk;rw[rR hg];exact bN
   |true=>
    rw[hg] at pk;rw[rS hb hg];exact bN
 ·have hra:rowAt (p.aL.map bR) i=some [iI a.id,iI a.fr]:=by rw[aR,ha];rfl
  rw[hn] at hns;have hps:=oW hn ay (abu ha);have hrun:=BG p Lx i a ha;have hsz:=ahE p a.id;rw[hps];generalize YG p a.id=X at*;have pk:=e9 X.1 ay
  cases hb:X.2 with
  |false=>
   rw[hb] at hrun;rw[tF hb];exact bN
  |true=>
   rw[hb] at hrun
   cases hg:c7 X.1 with
   |false=>
    rw[hg] at pk;rw[rR hg];exact bN
   |true=>
    rw[hg] at pk;rw[rS hb hg];exact bN
theorem jb {p:Pool} {o:AF} (h:WA o=true) (hp:c7 p=true):iJ p o=
 (if o.kind=1 then yj p o.name o.a else if o.kind=2 then LM p o.name o.to (decide (o.b=1)) else if o.kind=3 then JM p o.name
  else if o.kind=4 then mX p o.name o.a o.b else if o.kind=5 then mQ p o.name o.a else if o.kind=6 then p5 p o.name o.a
  else if o.kind=7 then wB (jL p) else if o.kind=8 then wB (qf p o.a) else wB (jK p o.a)):=by
 unfold iJ;rw[aI ⟨h,hp⟩]
theorem Gj {p:Pool} {o:AF} (h: ¬(WA o=true∧c7 p=true)):iJ p o=(p,1):=by
 unfold iJ;rw[aF h]
theorem abv {o:AF} (h:WA o=true):o.kind=1∨o.kind=2∨o.kind=3∨o.kind=4∨o.kind=5∨o.kind=6∨o.kind=7∨o.kind=8∨o.kind=9:=by
 unfold WA iC at h;simp only[eY,decide_eq_true_eq] at h;omega
theorem yd (p:Pool) (o:AF) (hS:aJ p≤1048576) (hk:o.kind=7∨o.kind=8∨o.kind=9):ai C F9 [c6 p,.ag (DP o)] (tPB (if o.kind=7 then jL p else if o.kind=8 then qf p o.a else jK p o.a)) []:=by
 have r1:=MR p hS;have r2:=Ot p o.a ay;have r3:=OA p o.a hS;obtain⟨k,s,t,a,b⟩:=o;refine(Ye _ _ _ _ _ _ _ _ _ _ _ _ ?_).run;simp only[] at hk r1 r2 r3 ⊢;rcases hk with rfl|rfl|rfl
 ·rw[aI rfl]
  exact bN
 ·rw[aF (by decide),aI rfl]
  exact bN
 ·rw[aF (by decide),aF (by decide)]
  exact bN
theorem Kh (p:Pool) (o:AF) (hS:aJ p≤1048576) (h1:o.name.size≤1048576) (h2:o.to.size≤1048576):ai C F5 [c6 p,.ag (DP o)] (P7 (iJ p o)) []:=by
 have Lx:aJ p≤4194304:=by omega
 have Jh:=cA p Lx;have hop:=Y3 o ay ay;have hok:=gM p Lx
 cases h3:WA o with
 |false=>
  rw[h3] at hop;rw[Gj fun h=>by rw[h3] at h;cases h.1];refine(Gr _ _ _ _ _ _ _ _ _ _ _ _ ?_).run;exact bN
 |true=>
 cases h4:c7 p with
 |false=>
  rw[h3] at hop;rw[h4] at hok;rw[Gj fun h=>by rw[h4] at h;cases h.2];refine(Gr _ _ _ _ _ _ _ _ _ _ _ _ ?_).run;exact bN
 |true=>
 rw[h3] at hop;rw[h4] at hok;have hkd:=abv h3;obtain⟨k,s,t,a,b⟩:=o;simp only[] at hkd h1 h2;refine(Gr _ _ _ _ _ _ _ _ _ _ _ _ ?_).run;rcases hkd with rfl|rfl|rfl|rfl|rfl|rfl|rfl|rfl|rfl
 ·have e:iJ p ⟨1,s,t,a,b⟩=yj p s a:=by rw[jb h3 h4,aI rfl]
  rw[e];have r:=S4 p s a hS h1;exact bN
 ·have e:iJ p ⟨2,s,t,a,b⟩=LM p s t (decide (b=1)):=by rw[jb h3 h4,aF (show ¬((2:Int)=1) by decide),aI rfl]
  rw[e];have r:=Y7 p s t (decide (b=1)) hS h1 h2;rw[←bE] at r ⊢;exact bN
 ·have e:iJ p ⟨3,s,t,a,b⟩=JM p s:=by rw[jb h3 h4,aF (show ¬((3:Int)=1) by decide),aF (show ¬((3:Int)=2) by decide),aI rfl]
  rw[e];have r:=Y5 p s ay ay;exact bN
 ·have e:iJ p ⟨4,s,t,a,b⟩=mX p s a b:=by rw[jb h3 h4,aF (show ¬((4:Int)=1) by decide),aF (show ¬((4:Int)=2) by decide),aF (show ¬((4:Int)=3) by decide),aI rfl]
  rw[e];have r:=W6 p s a b hS h1;exact bN
 ·have e:iJ p ⟨5,s,t,a,b⟩=mQ p s a:=by rw[jb h3 h4,aF (show ¬((5:Int)=1) by decide),aF (show ¬((5:Int)=2) by decide),aF (show ¬((5:Int)=3) by decide),aF (show ¬((5:Int)=4) by decide),aI rfl]
  rw[e];have r:=QT p s a hS h1;exact bN
 ·have e:iJ p ⟨6,s,t,a,b⟩=p5 p s a:=by rw[jb h3 h4,aF (show ¬((6:Int)=1) by decide),aF (show ¬((6:Int)=2) by decide),aF (show ¬((6:Int)=3) by decide),aF (show ¬((6:Int)=4) by decide),aF (show ¬((6:Int)=5) by decide),aI rfl]
  rw[e];have r:=S8 p s a hS h1;exact bN
 ·have e:iJ p ⟨7,s,t,a,b⟩=wB (jL p):=by rw[jb h3 h4,aF (show ¬((7:Int)=1) by decide),aF (show ¬((7:Int)=2) by decide),aF (show ¬((7:Int)=3) by decide),aF (show ¬((7:Int)=4) by decide),aF (show ¬((7:Int)=5) by decide),aF (show ¬((7:Int)=6) by decide),aI rfl]
  rw[e];have r:=yd p ⟨7,s,t,a,b⟩ hS cY;rw[aI (show(7:Int)=7 from rfl)] at r;generalize jL p=Y at*;obtain⟨Y,c⟩:=Y;unfold wB
  cases c with
  |false=>
   rw[aF cY];exact bN
  |true=>
   rw[aI rfl];exact bN
 ·have e:iJ p ⟨8,s,t,a,b⟩=wB (qf p a):=by rw[jb h3 h4,aF (show ¬((8:Int)=1) by decide),aF (show ¬((8:Int)=2) by decide),aF (show ¬((8:Int)=3) by decide),aF (show ¬((8:Int)=4) by decide),aF (show ¬((8:Int)=5) by decide),aF (show ¬((8:Int)=6) by decide),aF (show ¬((8:Int)=7) by decide),aI rfl]
  rw[e];have r:=yd p ⟨8,s,t,a,b⟩ hS cY;rw[aF (show ¬((8:Int)=7) by decide),aI (show(8:Int)=8 from rfl)] at r;generalize qf p a=Y at*;obtain⟨Y,c⟩:=Y;unfold wB
  cases c with
  |false=>
   rw[aF cY];exact bN
  |true=>
   rw[aI rfl];exact bN
 ·have e:iJ p ⟨9,s,t,a,b⟩=wB (jK p a):=by rw[jb h3 h4,aF (show ¬((9:Int)=1) by decide),aF (show ¬((9:Int)=2) by decide),aF (show ¬((9:Int)=3) by decide),aF (show ¬((9:Int)=4) by decide),aF (show ¬((9:Int)=5) by decide),aF (show ¬((9:Int)=6) by decide),aF (show ¬((9:Int)=7) by decide),aF (show ¬((9:Int)=8) by decide)]
  rw[e];have r:=yd p ⟨9,s,t,a,b⟩ hS cY;rw[aF (show ¬((9:Int)=7) by decide),aF (show ¬((9:Int)=8) by decide)] at r;generalize jK p a=Y at*;obtain⟨Y,c⟩:=Y;unfold wB
  cases c with
  |false=>
   rw[aF cY];exact bN
  |true=>
   rw[aI rfl];exact bN
theorem Xf (p:Pool) (o:AF) (hS:aJ p≤1048576) (h1:o.name.size≤1048576) (h2:o.to.size≤1048576):ai C MA [c6 p,.ag (DP o)] (P7 (iJ p o)) []:=by
 have Lx:aJ p≤4194304:=by omega
 have Jh:=bK p Lx;have hop:=Y4 o ay ay;have hok:=e9 p Lx
 cases h3:WA o with
 |false=>
  rw[h3] at hop;rw[Gj fun h=>by rw[h3] at h;cases h.1];refine(Gq _ _ _ _ _ _ _ _ _ _ _ _ ?_).run;exact bN
 |true=>
 cases h4:c7 p with
 |false=>
  rw[h3] at hop;rw[h4] at hok;rw[Gj fun h=>by rw[h4] at h;cases h.2];refine(Gq _ _ _ _ _ _ _ _ _ _ _ _ ?_).run;exact bN
 |true=>
 rw[h3] at hop;rw[h4] at hok;have hkd:=abv h3;obtain⟨k,s,t,a,b⟩:=o;simp only[] at hkd h1 h2;refine(Gq _ _ _ _ _ _ _ _ _ _ _ _ ?_).run;rcases hkd with rfl|rfl|rfl|rfl|rfl|rfl|rfl|rfl|rfl
 ·have e:iJ p ⟨1,s,t,a,b⟩=yj p s a:=by rw[jb h3 h4,aI rfl]
  rw[e];have r:=S5 p s a hS h1;exact bN
 ·have e:iJ p ⟨2,s,t,a,b⟩=LM p s t (decide (b=1)):=by rw[jb h3 h4,aF (show ¬((2:Int)=1) by decide),aI rfl]
  rw[e];have r:=Y8 p s t (decide (b=1)) hS h1 h2;rw[←bE] at r ⊢;exact bN
 ·have e:iJ p ⟨3,s,t,a,b⟩=JM p s:=by rw[jb h3 h4,aF (show ¬((3:Int)=1) by decide),aF (show ¬((3:Int)=2) by decide),aI rfl]
  rw[e];have r:=Y6 p s ay ay;exact bN
 ·have e:iJ p ⟨4,s,t,a,b⟩=mX p s a b:=by rw[jb h3 h4,aF (show ¬((4:Int)=1) by decide),aF (show ¬((4:Int)=2) by decide),aF (show ¬((4:Int)=3) by decide),aI rfl]
  rw[e];have r:=W7 p s a b hS h1;exact bN
 ·have e:iJ p ⟨5,s,t,a,b⟩=mQ p s a:=by rw[jb h3 h4,aF (show ¬((5:Int)=1) by decide),aF (show ¬((5:Int)=2) by decide),aF (show ¬((5:Int)=3) by decide),aF (show ¬((5:Int)=4) by decide),aI rfl]
  rw[e];have r:=QU p s a hS h1;exact bN
 ·have e:iJ p ⟨6,s,t,a,b⟩=p5 p s a:=by rw[jb h3 h4,aF (show ¬((6:Int)=1) by decide),aF (show ¬((6:Int)=2) by decide),aF (show ¬((6:Int)=3) by decide),aF (show ¬((6:Int)=4) by decide),aF (show ¬((6:Int)=5) by decide),aI rfl]
  rw[e];have r:=S9 p s a hS h1;exact bN
 ·have e:iJ p ⟨7,s,t,a,b⟩=wB (jL p):=by rw[jb h3 h4,aF (show ¬((7:Int)=1) by decide),aF (show ¬((7:Int)=2) by decide),aF (show ¬((7:Int)=3) by decide),aF (show ¬((7:Int)=4) by decide),aF (show ¬((7:Int)=5) by decide),aF (show ¬((7:Int)=6) by decide),aI rfl]
  rw[e];have r:=MS p hS
  skip
  generalize jL p=Y at*;obtain⟨Y,c⟩:=Y;unfold wB
  cases c with
  |false=>
   rw[aF cY];exact bN
  |true=>
   rw[aI rfl];exact bN
 ·have e:iJ p ⟨8,s,t,a,b⟩=wB (qf p a):=by rw[jb h3 h4,aF (show ¬((8:Int)=1) by decide),aF (show ¬((8:Int)=2) by decide),aF (show ¬((8:Int)=3) by decide),aF (show ¬((8:Int)=4) by decide),aF (show ¬((8:Int)=5) by decide),aF (show ¬((8:Int)=6) by decide),aF (show ¬((8:Int)=7) by decide),aI rfl]
  rw[e];have r:=Ow p a ay
  skip
  generalize qf p a=Y at*;obtain⟨Y,c⟩:=Y;unfold wB
  cases c with
  |false=>
   rw[aF cY];exact bN
  |true=>
   rw[aI rfl];exact bN
 ·have e:iJ p ⟨9,s,t,a,b⟩=wB (jK p a):=by rw[jb h3 h4,aF (show ¬((9:Int)=1) by decide),aF (show ¬((9:Int)=2) by decide),aF (show ¬((9:Int)=3) by decide),aF (show ¬((9:Int)=4) by decide),aF (show ¬((9:Int)=5) by decide),aF (show ¬((9:Int)=6) by decide),aF (show ¬((9:Int)=7) by decide),aF (show ¬((9:Int)=8) by decide)]
  rw[e];have r:=OC p a hS
  skip
  generalize jK p a=Y at*;obtain⟨Y,c⟩:=Y;unfold wB
  cases c with
  |false=>
   rw[aF cY];exact bN
  |true=>
   rw[aI rfl];exact bN
theorem SB (X:Pool) (o:AF) (l:List AF):applyN X (o::l)=applyN (iJ X o).1 l:=rfl
attribute [local semireducible] DF in
theorem ang (l:List AF):aC (l.map DP) 0 (DF (Int.ofNat (List.length (l.map DP))) 200)=(l.take 200).map DP∧gh 0 (DF (Int.ofNat (List.length (l.map DP))) 200) (Int.ofNat (List.length (l.map DP)))=true:=by
 rw[bY]
 have hm:DF (Int.ofNat l.length) 200=((min l.length 200:Nat):Int):=by
  unfold DF;rw[lX]
  split<;>omega
 rw[hm,cK,JH];refine⟨?_,fk (by simp only[lX];omega)⟩;rw[lY,show(0:Int).toNat=0 from rfl,List.drop_zero]
 by_cases h:l.length≤200
 ·rw[Nw ay,Nw h]
 ·rw[show min l.length 200=200 from by omega]
theorem OD (p:Pool) (l:List AF) (hS:aJ p≤1048576) (hl:l.length≤1048576) (hL: ∀o∈l,o.name.size≤1048576∧o.to.size≤1048576):ai C fu [c6 p,Wv l] (c6 (AK p l)) []:=by
 unfold AK;obtain⟨Z,hZe⟩: ∃Z,Z=applyN p (l.take 200):=⟨_,rfl⟩;rw[←hZe];have hml:(l.take 200).length=min 200 l.length:=eP ..
 have key: ∀(d j:Nat) (X:Pool),j+d=(l.take 200).length→aJ X≤1048576→applyN X ((l.take 200).drop j)=Z→aa C fu aj 4 0 (sF (l.map DP) (j:Int) (X.t.aE.map bP) (X.t.nodes.map aQ) (X.aL.map bR) (X.cells.map bM) (X.au.map cj) X.next) (fun x st=>ax C fu aj x st fun r fs=>r=c6 Z∧fs=[]):=by
  intro d
  induction d with
  |zero=>
   intro j X hj hX hZ;rw[Ly ay] at hZ;have hZ':X=Z:=hZ
   ·by_cases Ea:j<l.length
    ·exact xC _ _ _ _ _ _ _ _ _ (ah (by rw[dm,bY];exact fk (by simp only[lX];omega)) (an (by rw[dm];exact fe ay) (Pj _ _ _ _ _ _ _ _ _ ⟨by rw[hZ'],rfl⟩)))
    ·exact xC _ _ _ _ _ _ _ _ _ (an (by rw[dm,bY];exact fe (by simp only[lX];omega)) (Pk _ _ _ _ _ _ _ _ _ ⟨by rw[hZ'],rfl⟩))
  |succ d ih=>
   intro j X hj hX hZ;obtain⟨o,ho⟩: ∃o,l[j]?=some o:=⟨_,cm ay⟩
   have ho2:(l.take 200)[j]?=some o:=by rw[BJ,aI ay];exact ho
   obtain⟨hjl,hje⟩:=List.getElem?_eq_some_iff.1 ho2;rw[Gu hjl,hje,SB] at hZ;have hon:=hL o (gQ ho)
   have hro:rowAt (l.map DP) (j:Int)=some [iI o.kind,iS o.name,iS o.to,iI o.a,iI o.b]:=by rw[aR,aH,ho];rfl
   have ra:=Kh X o hX hon.1 hon.2;have hsz:=Lf X o;refine xC _ _ _ _ _ _ _ _ _ (ah (by rw[dm,bY];exact fk (by simp only[lX];omega)) (ah (by first|rfl|(rw[dm];exact fk ay)) ⟨_,_,_,_,_,hro,_,_,_,_,_,_,_,ra,?_⟩))
   have tM:aA (j:Int) 1=((j+1:Nat):Int):=by rw[aG ay];omega
   rw[tM];exact ih (j+1) (iJ X o).1 ay ay hZ
 have k0: ∀X:Pool,aJ X≤1048576→applyN X (l.take 200)=Z→aa C fu aj 4 0 (xz (l.map DP) (X.t.aE.map bP) (X.t.nodes.map aQ) (X.aL.map bR) (X.cells.map bM) X.next (X.au.map cj)) (fun x st=>ax C fu aj x st fun r fs=>r=c6 Z∧fs=[]):=by
  intro X hX hZ;obtain⟨j,hj0⟩: ∃j:Nat,j=0:=⟨0,rfl⟩
  cases hlc:l with
  |nil=>
   rw[←hlc];rw[hlc] at hZ;have hZ':X=Z:=hZ;exact Dx _ _ _ _ _ _ _ _ (an (by rw[dm,bY,hlc];rfl) (Ph _ _ _ _ _ _ _ _ ⟨by rw[hZ'],rfl⟩))
  |cons o r=>
   rw[←hlc]
   have ho:l[0]?=some o:=by rw[hlc];rfl
   have hpos:0<l.length:=by rw[hlc];simp
   have hon:=hL o (gQ ho)
   have hro:rowAt (l.map DP) 0=some [iI o.kind,iS o.name,iS o.to,iI o.a,iI o.b]:=by
    have:=aR DP l ((0:Nat):Int);rw[aH,ho] at this;exact this
   have ra:=Kh X o hX hon.1 hon.2;have hsz:=Lf X o
   have hd:applyN (iJ X o).1 ((l.take 200).drop 1)=Z:=by rw[←hZ,hlc];rfl
   refine Dx _ _ _ _ _ _ _ _ (ah (by rw[dm,bY];exact fk (by simp only[lX];omega)) (ah (by first|rfl|(rw[dm];exact fk ay)) ⟨_,_,_,_,_,hro,_,_,_,_,_,_,_,ra,?_⟩));rw[show aA 0 1=((1:Nat):Int) from by rw[aG ay];rfl];exact key ((l.take 200).length-1) 1 (iJ X o).1 ay ay hd
 exact(UL _ _ _ _ _ _ _ _ ⟨_,_,_,_,_,_,cA p ay,k0 p hS hZe.symm⟩).run
theorem Cs (p:Pool) (l:List AF) (hS:aJ p≤1048576) (hl:l.length≤1048576) (hL: ∀o∈l,o.name.size≤1048576∧o.to.size≤1048576):ai C jf [c6 p,Wv l] (c6 (AK p l)) []:=by
 unfold AK;obtain⟨Z,hZe⟩: ∃Z,Z=applyN p (l.take 200):=⟨_,rfl⟩;rw[←hZe];obtain⟨xD,atg⟩:=ang l;obtain⟨m,hm⟩: ∃m,m=l.take 200:=⟨_,rfl⟩
 have hml:m.length≤200:=by rw[hm,eP];omega
 have hmm: ∀o∈m,o.name.size≤1048576∧o.to.size≤1048576:=fun o ho=>hL o (Ar (by rw[hm] at ho;exact ho));rw[←hm] at xD hZe
 have key: ∀(d j:Nat) (X:Pool),j+d=m.length→aJ X≤1048576→applyN X (m.drop j)=Z→aa C jf aj 4 0 (sw (l.map DP) (j:Int) X.next (X.t.aE.map bP) (X.t.nodes.map aQ) (X.aL.map bR) (X.cells.map bM) (X.au.map cj)) (fun x st=>ax C jf aj x st fun r fs=>r=c6 Z∧fs=[]):=by
  intro d
  induction d with
  |zero=>
   intro j X hj hX hZ;rw[Ly ay] at hZ;have hZ':X=Z:=hZ;exact Dd _ _ _ _ _ _ _ _ _ (an (by rw[dm,xD,bY];exact fe (by simp only[lX];omega)) (ON _ _ _ _ _ _ _ _ _ _ _ ⟨by rw[hZ'],rfl⟩))
  |succ d ih=>
   intro j X hj hX hZ;obtain⟨o,ho⟩: ∃o,m[j]?=some o:=⟨_,cm ay⟩;obtain⟨hjl,hje⟩:=List.getElem?_eq_some_iff.1 ho;rw[Gu hjl,hje,SB] at hZ;have hon:=hmm o (gQ ho)
   have hro:rowAt (aC (l.map DP) 0 (DF (Int.ofNat (List.length (l.map DP))) 200)) (j:Int)=some [iI o.kind,iS o.name,iS o.to,iI o.a,iI o.b]:=by rw[xD,aR,aH,ho];rfl
   have ra:=Xf X o hX hon.1 hon.2;have hsz:=Lf X o;refine Dd _ _ _ _ _ _ _ _ _ (ah (by rw[dm,xD,bY];exact fk (by simp only[lX];omega)) ⟨_,_,_,_,_,hro,_,_,_,_,_,_,_,ra,?_⟩)
   have tM:aA (j:Int) 1=((j+1:Nat):Int):=by rw[aG ay];omega
   rw[tM];exact ih (j+1) (iJ X o).1 ay ay hZ
 exact(TH _ _ _ _ _ _ _ _ ⟨_,_,_,_,_,_,bK p ay,ah atg (key m.length 0 p ay hS hZe.symm)⟩).run
theorem Ki:cq 3 0=false:=by simp
theorem ak0:cq 10 0=false:=by simp
def MT:Nat→Int→ByteArray→ByteArray
 |0,_,out=>out
 |n+1,k,out=>if k≤0 then out else MT n (jc .i64 k 10) (Yx (Jl [zz .u8 (48+DG k 10)]) out)
def abw (k:Int):ByteArray:=if k≤0 then⟨#[109,48]⟩ else Yx ⟨#[109]⟩ (MT 19 k wV)
attribute [local semireducible] wP Jl Yx in
theorem aiz (n:Int):wP [[TC.sc (.int .u8 n)]]=some [n]:=rfl
attribute [local semireducible] Jl in
theorem ak1 (n:Int):(Jl [n]).size=1:=rfl
attribute [local semireducible] Yx in
theorem aiA (a b:ByteArray):(Yx a b).size=a.size+b.size:=by show(a++b).size=_;simp
attribute [local semireducible] jc in
theorem ahF {a b:Int} (h0:0≤a) (h1:a≤9223372036854775807):jc .i64 a 10=a/10:=by
 show IntKind.i64.wrap (a.tdiv 10)=_;rw[Int.tdiv_eq_ediv_of_nonneg h0];exact IntWalk.i64_in _ ay
theorem agE (n:Nat) (k:Int) (out:ByteArray) (h:k≤0):MT n k out=out:=by cases n<;>simp[MT,h]
theorem acF (k:Int) (hk:k≤2305843009213693952):ai C gx [vI k] (vS (abw k)) []:=by
 refine(To _ _ ?_).run;unfold abw;simp only[gl,bJ]
 by_cases h:k≤0
 ·rw[aI h,aI h];exact⟨rfl,by trivial⟩
 ·rw[aF h,aF h]
  have key: ∀(F:ByteArray) (n:Nat) (k':Int) (out:ByteArray),k'<10 ^ n→k'≤2305843009213693952→out.size+n≤100→MT n k' out=F→aa C gx kQ 4 0 (sr k' out) (fun u st=>ax C gx kQ u st fun r fs=>r=vS (Yx ⟨#[109]⟩ F)∧fs=[]):=by
   intro F n
   induction n with
   |zero=>
    intro k' out h1 h2 h3 h4;refine xB _ _ _ (an (by simp at h1 ⊢;omega) (C9 _ _ _ _ ?_));simp only[MT] at h4;subst h4;refine ah (cP (by simp only[natAdd,Mm];omega)) ⟨rfl,by trivial⟩
   |succ n ih=>
    intro k' out h1 h2 h3 h4
    by_cases h0:k'≤0
    ·rw[agE _ _ _ h0] at h4
     subst h4;exact xB _ _ _ (an eJ (C9 _ _ _ _ (ah (cP (by simp only[natAdd,Mm];omega)) ⟨rfl,by trivial⟩)))
    ·simp only[MT,aF h0] at h4
     have hr:0≤DG k' 10∧DG k' 10≤9:=by rw[amu,Int.tmod_eq_emod_of_nonneg ay];omega
     refine xB _ _ _ (ah eJ (an ak0 ⟨_,aiz _,ah (cP (by simp only[natAdd,Mm,ak1];omega)) (an ak0 ?_)⟩));rw[aG ay];refine ih _ _ ?_ ?_ ?_ h4
     ·rw[ahF (b:=0) ay ay]
      have:(10:Int) ^ (n+1)=10 ^ n*10:=Int.pow_succ ..;omega
     ·rw[ahF (b:=0) ay ay];omega
     ·rw[aiA,ak1];omega
  exact key _ 19 k wV (by rw[show(10:Int) ^ 19=10000000000000000000 from by decide];omega) hk (by decide) rfl
theorem Gk (k:Int) (hk:k≤2305843009213693952) (q:ByteArray):ai C gx [vI k] (vS q) []↔q=abw k:=asf (acF k hk)
def mkInt (_:Int) (k:Int):Int:=k
def OE (_:Int):Nat:=1
theorem ak2 (l:List (Int)) (k:Int) (h0:0≤k) (hk:k+tot OE l≤2305843009213693952) (hl:l.length≤1099511627776):ai C lC [oD l,vI k] (vI (k+tot OE l)) [oD (je mkInt OE l k)]:=by
 refine(UY _ _ _ ?_).run;refine xZ (e:=bP) mkInt OE (fun k i rows=>aa C lC ak 4 0 (sJ k i rows) _) 2305843009213693952 ?_ l [] k h0 hk (by simpa using hl) ?_
 ·intro d a r k h0 hk hd hn
  have hw:OE a=1:=rfl;rw[hw] at hk hn;refine DC _ _ _ _ (ah eJ ?_);simp (disch:=omega) only[aG];simp only[wW,aoS,qc,jH,nF,aY,dw,dA,mod_mod,Ki,lM,bU];rw[B5];rw[show(k+1:Int)=k+((1:Nat):Int) by omega];exact hn
 ·refine DC _ _ _ _ (an (by simp[nX]) (Pt _ _ _ _ _ ⟨rfl,by trivial⟩))
theorem ak3 (l:List (Int)) (k:Int) (h0:0≤k) (hk:k+tot OE l≤2305843009213693952) (hl:l.length≤1099511627776):ai C lD [oD (je mkInt OE l k),vI k] (vI (k+tot OE l)) []:=by
 refine(TZ _ _ _ ?_).run;refine Ai (e:=bP) mkInt OE (fun k i rows=>aa C lD ak 4 0 (sC rows k i) _) 2305843009213693952 ?_ l [] k h0 hk (by simpa using hl) ?_
 ·intro d a r k h0 hk hd hn
  have hw:OE a=1:=rfl;rw[hw] at hk hn;refine Dl _ _ _ _ (ah eJ ?_);simp (disch:=omega) only[aG];simp only[wW,qc,jH,nF,aY,dw,dA,mod_mod,Ki,lM,bU,mkInt,bE,FV,Wt,bJ,if_true,decide_true,BI];rw[show(k+1:Int)=k+((1:Nat):Int) by omega];exact hn
 ·refine Dl _ _ _ _ (an (by simp[nX]) (OZ _ _ _ _ _ ⟨rfl,by trivial⟩))
def mkKey (_:Key) (k:Int):Key:=⟨k,k+1,k+1+1,k+1+1+1,k+1+1+1+1⟩
def MU (_:Key):Nat:=5
theorem ak4 (l:List (Key)) (k:Int) (h0:0≤k) (hk:k+tot MU l≤2305843009213693952) (hl:l.length≤1099511627776):ai C lF [dM l,vI k] (vI (k+tot MU l)) [dM (je mkKey MU l k)]:=by
 refine(Vi _ _ _ ?_).run;refine xZ (e:=bQ) mkKey MU (fun k i rows=>aa C lF ak 4 0 (sK k i rows) _) 2305843009213693952 ?_ l [] k h0 hk (by simpa using hl) ?_
 ·intro d a r k h0 hk hd hn
  have hw:MU a=5:=rfl;rw[hw] at hk hn;refine DD _ _ _ _ (ah eJ ?_);simp (disch:=omega) only[aG];simp only[lN,akj,akk,akl,akm,akn,aoP,qc,jH,nF,aY,dw,dA,mod_mod,Ki,lM,bU];rw[B5];rw[show(k+1+1+1+1+1:Int)=k+((5:Nat):Int) by omega];exact hn
 ·refine DD _ _ _ _ (an (by simp[nX]) (Pu _ _ _ _ _ ⟨rfl,by trivial⟩))
theorem ak5 (l:List (Key)) (k:Int) (h0:0≤k) (hk:k+tot MU l≤2305843009213693952) (hl:l.length≤1099511627776):ai C lG [dM (je mkKey MU l k),vI k] (vI (k+tot MU l)) []:=by
 refine(TF _ _ _ ?_).run;refine Ai (e:=bQ) mkKey MU (fun k i rows=>aa C lG ak 4 0 (sv rows k i) _) 2305843009213693952 ?_ l [] k h0 hk (by simpa using hl) ?_
 ·intro d a r k h0 hk hd hn
  have hw:MU a=5:=rfl;rw[hw] at hk hn;refine Dc _ _ _ _ (ah eJ ?_);simp (disch:=omega) only[aG];simp only[lN,qc,jH,nF,aY,dw,dA,mod_mod,Ki,lM,bU,mkKey,bE,FV,Wt,bJ,if_true,decide_true,BI];rw[show(k+1+1+1+1+1:Int)=k+((5:Nat):Int) by omega];exact hn
 ·refine Dc _ _ _ _ (an (by simp[nX]) (OM _ _ _ _ _ ⟨rfl,by trivial⟩))
def abx (_:Age) (k:Int):Age:=⟨k,k+1⟩
def MV (_:Age):Nat:=2
theorem ak6 (l:List (Age)) (k:Int) (h0:0≤k) (hk:k+tot MV l≤2305843009213693952) (hl:l.length≤1099511627776):ai C lu [gy l,vI k] (vI (k+tot MV l)) [gy (je abx MV l k)]:=by
 refine(UP _ _ _ ?_).run;refine xZ (e:=bR) abx MV (fun k i rows=>aa C lu ak 4 0 (sG k i rows) _) 2305843009213693952 ?_ l [] k h0 hk (by simpa using hl) ?_
 ·intro d a r k h0 hk hd hn
  have hw:MV a=2:=rfl;rw[hw] at hk hn;refine Dy _ _ _ _ (ah eJ ?_);simp (disch:=omega) only[aG];simp only[wX,aib,abf,aoQ,qc,jH,nF,aY,dw,dA,mod_mod,Ki,lM,bU];rw[B5];rw[show(k+1+1:Int)=k+((2:Nat):Int) by omega];exact hn
 ·refine Dy _ _ _ _ (an (by simp[nX]) (Pm _ _ _ _ _ ⟨rfl,by trivial⟩))
theorem ak7 (l:List (Age)) (k:Int) (h0:0≤k) (hk:k+tot MV l≤2305843009213693952) (hl:l.length≤1099511627776):ai C lA [gy (je abx MV l k),vI k] (vI (k+tot MV l)) []:=by
 refine(UQ _ _ _ ?_).run;refine Ai (e:=bR) abx MV (fun k i rows=>aa C lA ak 4 0 (sH rows k i) _) 2305843009213693952 ?_ l [] k h0 hk (by simpa using hl) ?_
 ·intro d a r k h0 hk hd hn
  have hw:MV a=2:=rfl;rw[hw] at hk hn;refine Dz _ _ _ _ (ah eJ ?_);simp (disch:=omega) only[aG];simp only[wX,qc,jH,nF,aY,dw,dA,mod_mod,Ki,lM,bU,abx,bE,FV,Wt,bJ,if_true,decide_true,BI];rw[show(k+1+1:Int)=k+((2:Nat):Int) by omega];exact hn
 ·refine Dz _ _ _ _ (an (by simp[nX]) (Pn _ _ _ _ _ ⟨rfl,by trivial⟩))
def MW (_:Cell) (k:Int):Cell:=⟨k,cq (DG (k+1) 3) 0,k+1+1⟩
def Ct (_:Cell):Nat:=3
theorem aiB (l:List (Cell)) (k:Int) (h0:0≤k) (hk:k+tot Ct l≤2305843009213693952) (hl:l.length≤1099511627776):ai C jZ [jx l,vI k] (vI (k+tot Ct l)) [jx (je MW Ct l k)]:=by
 refine(Q5 _ _ _ ?_).run;refine xZ (e:=bM) MW Ct (fun k i rows=>aa C jZ ak 4 0 (qK k i rows) _) 2305843009213693952 ?_ l [] k h0 hk (by simpa using hl) ?_
 ·intro d a r k h0 hk hd hn
  have hw:Ct a=3:=rfl;rw[hw] at hk hn;refine Bm _ _ _ _ (ah eJ ?_);simp (disch:=omega) only[aG];simp only[pX,aic,P2,P3,ach,qc,jH,nF,aY,dw,dA,mod_mod,Ki,lM,bU];rw[B5];rw[show(k+1+1+1:Int)=k+((3:Nat):Int) by omega];exact hn
 ·refine Bm _ _ _ _ (an (by simp[nX]) (M7 _ _ _ _ _ ⟨rfl,by trivial⟩))
theorem aiC (l:List (Cell)) (k:Int) (h0:0≤k) (hk:k+tot Ct l≤2305843009213693952) (hl:l.length≤1099511627776):ai C j5 [jx (je MW Ct l k),vI k] (vI (k+tot Ct l)) []:=by
 refine(Q6 _ _ _ ?_).run;refine Ai (e:=bM) MW Ct (fun k i rows=>aa C j5 ak 4 0 (qL rows k i) _) 2305843009213693952 ?_ l [] k h0 hk (by simpa using hl) ?_
 ·intro d a r k h0 hk hd hn
  have hw:Ct a=3:=rfl;rw[hw] at hk hn;refine Bn _ _ _ _ (ah eJ ?_);simp (disch:=omega) only[aG];simp only[pX,qc,jH,nF,aY,dw,dA,mod_mod,Ki,lM,bU,MW,bE,FV,Wt,bJ,if_true,decide_true,BI];rw[show(k+1+1+1:Int)=k+((3:Nat):Int) by omega];simpa [MW] using hn
 ·refine Bn _ _ _ _ (an (by simp[nX]) (M8 _ _ _ _ _ ⟨rfl,by trivial⟩))
def Xg (_:Vol) (k:Int):Vol:=⟨abw (k),k+1,k+1+1,cq (DG (k+1+1+1) 3) 0⟩
def QW (_:Vol):Nat:=4
theorem ak8 (l:List (Vol)) (k:Int) (h0:0≤k) (hk:k+tot QW l≤2305843009213693952) (hl:l.length≤1099511627776):ai C lz [qW l,vI k] (vI (k+tot QW l)) [qW (je Xg QW l k)]:=by
 refine(TN _ _ _ ?_).run;refine xZ (e:=cj) Xg QW (fun k i rows=>aa C lz ak 4 0 (sx k i rows) _) 2305843009213693952 ?_ l [] k h0 hk (by simpa using hl) ?_
 ·intro d a r k h0 hk hd hn
  have hw:QW a=4:=rfl;rw[hw] at hk hn;refine Df _ _ _ _ (ah eJ ?_);simp (disch:=omega) only[aG];simp only[yX,ael,Mo,JI,aid,aoR,Gk (k) ay,qc,jH,nF,aY,dw,dA,mod_mod,Ki,lM,bU];rw[B5];rw[show(k+1+1+1+1:Int)=k+((4:Nat):Int) by omega];exact hn
 ·refine Df _ _ _ _ (an (by simp[nX]) (OQ _ _ _ _ _ ⟨rfl,by trivial⟩))
theorem ak9 (l:List (Vol)) (k:Int) (h0:0≤k) (hk:k+tot QW l≤2305843009213693952) (hl:l.length≤1099511627776):ai C lB [qW (je Xg QW l k),vI k] (vI (k+tot QW l)) []:=by
 refine(TO _ _ _ ?_).run;refine Ai (e:=cj) Xg QW (fun k i rows=>aa C lB ak 4 0 (sy rows k i) _) 2305843009213693952 ?_ l [] k h0 hk (by simpa using hl) ?_
 ·intro d a r k h0 hk hd hn
  have hw:QW a=4:=rfl;rw[hw] at hk hn;refine Dg _ _ _ _ (ah eJ ?_);simp (disch:=omega) only[aG];simp only[yX,Gk (k) ay,qc,jH,nF,aY,dw,dA,mod_mod,Ki,lM,bU,Xg,bE,FV,Wt,bJ,if_true,decide_true,BI];rw[show(k+1+1+1+1:Int)=k+((4:Nat):Int) by omega];simpa [Xg] using hn
 ·refine Dg _ _ _ _ (an (by simp[nX]) (OR _ _ _ _ _ ⟨rfl,by trivial⟩))
def aqS (_:AF) (k:Int):AF:=⟨k,abw (k+1),abw (k+1+1),k+1+1+1,k+1+1+1+1⟩
def wOp (_:AF):Nat:=5
theorem anh (l:List (AF)) (k:Int) (h0:0≤k) (hk:k+tot wOp l≤2305843009213693952) (hl:l.length≤1099511627776):ai C mY [Wv l,vI k] (vI (k+tot wOp l)) [Wv (je aqS wOp l k)]:=by
 refine(Yb _ _ _ ?_).run;refine xZ (e:=DP) aqS wOp (fun k i rows=>aa C mY ak 4 0 (uk k i rows) _) 2305843009213693952 ?_ l [] k h0 hk (by simpa using hl) ?_
 ·intro d a r k h0 hk hd hn
  have hw:wOp a=5:=rfl;rw[hw] at hk hn;refine Fu _ _ _ _ (ah eJ ?_);simp (disch:=omega) only[aG];simp only[aqA,agc,agd,ako,amz,amA,aqB,Gk (k+1) ay,Gk (k+1+1) ay,qc,jH,nF,aY,dw,dA,mod_mod,Ki,lM,bU];rw[B5];rw[show(k+1+1+1+1+1:Int)=k+((5:Nat):Int) by omega];exact hn
 ·refine Fu _ _ _ _ (an (by simp[nX]) (RN _ _ _ _ _ ⟨rfl,by trivial⟩))
def Gl (s:List Key) (k:Int):List Key:=je mkKey MU s k
def nM (s:List Key):Nat:=tot MU s
theorem aiD: ∀(l:List (List Key)) (k:Int) (h0:0≤k) (hk:k+tot nM l≤2305843009213693952) (hl:l.length≤1099511627776) (hs: ∀s∈l,s.length≤1099511627776),ai C ji [N3 l,vI k] (vI (k+tot nM l)) [N3 (je Gl nM l k)]:=by
 intro l k h0 hk hl hs;refine(RI _ _ _ ?_).run
 have key: ∀(r d:List (List Key)) (k:Int),0≤k→k+tot nM r≤2305843009213693952→d.length+r.length≤1099511627776→(∀s∈r,s.length≤1099511627776)→ ∀(R:TV) (F:List TV),vI (k+tot nM r)=R→[N3 (d++je Gl nM r k)]=F→aa C ji ak 4 0 (qO k (d.length:Int) ((d++r).map cW)) (fun u st=>ax C ji ak u st fun r fs=>r=R∧fs=F):=by
  intro r
  induction r with
  |nil=>
   intro d k h0 hk hl hs R F hR hF;subst hR hF;refine Bu _ _ _ _ (an cY (Ni _ _ _ _ _ ⟨by simp[tot],by simp[je]⟩))
  |cons a r ih=>
   intro d k h0 hk hl hs R F hR hF;simp only[tot,fX] at hk hl;have hca:=hs a (.head _);have hu:tot MU a=nM a:=rfl;refine Bu _ _ _ _ (ah eJ ?_);simp only[xY,nF,aY,dw];refine⟨_,_,ak4 a k h0 ay hca,?_⟩;simp only[aoT];rw[B5,aG ay];have:=ih (d++[Gl a k]) (k+nM a) ay ay eJ (fun s h=>hs s (.tail _ h)) R F (by rw[←hR];simp only[tot];rw[show k+(nM a:Int)+(tot nM r:Int)=k+((nM a+tot nM r:Nat):Int) by omega]) (by rw[←hF];simp[je])
   rw[←hu] at this;simpa [Gl] using this
 exact key l [] k h0 hk (by simpa using hl) hs _ _ rfl cY
theorem aiE: ∀(l:List (List Key)) (k:Int) (h0:0≤k) (hk:k+tot nM l≤2305843009213693952) (hl:l.length≤1099511627776) (hs: ∀s∈l,s.length≤1099511627776),ai C jj [N3 (je Gl nM l k),vI k] (vI (k+tot nM l)) []:=by
 intro l k h0 hk hl hs;refine(RX _ _ _ ?_).run
 have key: ∀(r d:List (List Key)) (k:Int),0≤k→k+tot nM r≤2305843009213693952→d.length+r.length≤1099511627776→(∀s∈r,s.length≤1099511627776)→ ∀(R:TV),vI (k+tot nM r)=R→aa C jj ak 4 0 (qP ((d++je Gl nM r k).map cW) k (d.length:Int)) (fun u st=>ax C jj ak u st fun r fs=>r=R∧fs=[]):=by
  intro r
  induction r with
  |nil=>
   intro d k h0 hk hl hs R hR;subst hR;refine By _ _ _ _ (an (by simp[je]) (Nn _ _ _ _ _ ⟨by simp[tot],rfl⟩))
  |cons a r ih=>
   intro d k h0 hk hl hs R hR;simp only[tot,fX] at hk hl;have hca:=hs a (.head _);have hu:tot MU a=nM a:=rfl;simp only[je];refine By _ _ _ _ (ah eJ ?_);simp only[xY,nF,aY,dw];refine⟨_,ak5 a k h0 ay hca,an eJ ?_⟩;rw[aG ay];have:=ih (d++[Gl a k]) (k+nM a) ay ay eJ (fun s h=>hs s (.tail _ h)) R (by rw[←hR];simp only[tot];rw[show k+(nM a:Int)+(tot nM r:Int)=k+((nM a+tot nM r:Nat):Int) by omega]);rw[hu]
   simpa [Gl] using this
 exact key l [] k h0 hk (by simpa using hl) hs _ rfl
def mkNode (s:List (List Key)) (k:Int):List (List Key):=je Gl nM s k
def pR (s:List (List Key)):Nat:=tot nM s
theorem aiF: ∀(l:List (List (List Key))) (k:Int) (h0:0≤k) (hk:k+tot pR l≤2305843009213693952) (hl:l.length≤1099511627776) (hs: ∀s∈l,Oh s),ai C jg [AG l,vI k] (vI (k+tot pR l)) [AG (je mkNode pR l k)]:=by
 intro l k h0 hk hl hs;refine(Q7 _ _ _ ?_).run
 have key: ∀(r d:List (List (List Key))) (k:Int),0≤k→k+tot pR r≤2305843009213693952→d.length+r.length≤1099511627776→(∀s∈r,Oh s)→ ∀(R:TV) (F:List TV),vI (k+tot pR r)=R→[AG (d++je mkNode pR r k)]=F→aa C jg ak 4 0 (qM k (d.length:Int) ((d++r).map aQ)) (fun u st=>ax C jg ak u st fun r fs=>r=R∧fs=F):=by
  intro r
  induction r with
  |nil=>
   intro d k h0 hk hl hs R F hR hF;subst hR hF;refine Bo _ _ _ _ (an cY (M9 _ _ _ _ _ ⟨by simp[tot],by simp[je]⟩))
  |cons a r ih=>
   intro d k h0 hk hl hs R F hR hF;simp only[tot,fX] at hk hl;have hca:=hs a (.head _);have hu:tot nM a=pR a:=rfl;refine Bo _ _ _ _ (ah eJ ?_);simp only[tT,nF,aY,dw];refine⟨_,_,aiD a k h0 ay hca.1 hca.2,?_⟩;simp only[aci];rw[B5,aG ay];have:=ih (d++[mkNode a k]) (k+pR a) ay ay eJ (fun s h=>hs s (.tail _ h)) R F (by rw[←hR];simp only[tot];rw[show k+(pR a:Int)+(tot pR r:Int)=k+((pR a+tot pR r:Nat):Int) by omega]) (by rw[←hF];simp[je])
   rw[←hu] at this;simpa [mkNode] using this
 exact key l [] k h0 hk (by simpa using hl) hs _ _ rfl cY
theorem aiG: ∀(l:List (List (List Key))) (k:Int) (h0:0≤k) (hk:k+tot pR l≤2305843009213693952) (hl:l.length≤1099511627776) (hs: ∀s∈l,Oh s),ai C jh [AG (je mkNode pR l k),vI k] (vI (k+tot pR l)) []:=by
 intro l k h0 hk hl hs;refine(RD _ _ _ ?_).run
 have key: ∀(r d:List (List (List Key))) (k:Int),0≤k→k+tot pR r≤2305843009213693952→d.length+r.length≤1099511627776→(∀s∈r,Oh s)→ ∀(R:TV),vI (k+tot pR r)=R→aa C jh ak 4 0 (qN ((d++je mkNode pR r k).map aQ) k (d.length:Int)) (fun u st=>ax C jh ak u st fun r fs=>r=R∧fs=[]):=by
  intro r
  induction r with
  |nil=>
   intro d k h0 hk hl hs R hR;subst hR;refine Bs _ _ _ _ (an (by simp[je]) (Ng _ _ _ _ _ ⟨by simp[tot],rfl⟩))
  |cons a r ih=>
   intro d k h0 hk hl hs R hR;simp only[tot,fX] at hk hl;have hca:=hs a (.head _);have hu:tot nM a=pR a:=rfl;simp only[je];refine Bs _ _ _ _ (ah eJ ?_);simp only[tT,nF,aY,dw];refine⟨_,aiE a k h0 ay hca.1 hca.2,an eJ ?_⟩;rw[aG ay];have:=ih (d++[mkNode a k]) (k+pR a) ay ay eJ (fun s h=>hs s (.tail _ h)) R (by rw[←hR];simp only[tot];rw[show k+(pR a:Int)+(tot pR r:Int)=k+((pR a+tot pR r:Nat):Int) by omega])
   rw[hu];simpa [mkNode] using this
 exact key l [] k h0 hk (by simpa using hl) hs _ rfl
def GN (t:Tree):Nat:=tot OE t.aE+tot pR t.nodes
def agF (t:Tree) (k:Int):Tree:=⟨je mkInt OE t.aE k,je mkNode pR t.nodes (k+tot OE t.aE)⟩
theorem ala (t:Tree) (k:Int) (h0:0≤k) (hk:k+GN t≤2305843009213693952) (h:abr t):ai C DT [dX t,vI k] (vI (k+GN t)) [dX (agF t k)]:=by
 unfold GN at*;refine(Um _ _ _ _ ⟨_,_,ak2 t.aE k h0 ay h.1,_,_,aiF t.nodes _ ay ay h.2.1 h.2.2,?_⟩).run;exact⟨by congr 2;omega,rfl⟩
theorem alb (t:Tree) (k:Int) (h0:0≤k) (hk:k+GN t≤2305843009213693952) (h:abr t):ai C DU [dX (agF t k),vI k] (vI (k+GN t)) []:=by
 unfold GN at*;refine(Un _ _ _ _ ⟨_,ak3 t.aE k h0 ay h.1,an eJ ⟨_,aiG t.nodes _ ay ay h.2.1 h.2.2,an eJ ?_⟩⟩).run;exact⟨by congr 2;omega,rfl⟩
def SC (p:Pool):Nat:=GN p.t+tot MV p.aL+tot Ct p.cells+tot QW p.au
def alc (p:Pool) (k:Int):Pool:=⟨agF p.t k,je abx MV p.aL (k+GN p.t),je MW Ct p.cells (k+GN p.t+tot MV p.aL),je Xg QW p.au (k+GN p.t+tot MV p.aL+tot Ct p.cells),p.next⟩
theorem aeW (p:Pool) (k:Int) (h0:0≤k) (hk:k+SC p≤2305843009213693952) (h:aeT p):ai C ym [c6 p,vI k] (vI (k+SC p)) [c6 (alc p k)]:=by
 unfold SC at*;refine(Tj _ _ _ _ _ _ _ _ ⟨_,_,_,ala p.t k h0 ay h.t,_,_,ak6 p.aL _ ay ay h.aL,_,_,aiB p.cells _ ay ay h.cells,_,_,ak8 p.au _ ay ay h.au,?_⟩).run;exact⟨by congr 2;omega,rfl⟩
theorem aeX (p:Pool) (k:Int) (h0:0≤k) (hk:k+SC p≤2305843009213693952) (h:aeT p):ai C yo [c6 (alc p k),vI k] (vI (k+SC p)) []:=by
 unfold SC at*;refine(TG _ _ _ _ _ _ _ _ ⟨_,alb p.t k h0 ay h.t,an eJ ⟨_,ak7 p.aL _ ay ay h.aL,an eJ ⟨_,aiC p.cells _ ay ay h.cells,an eJ ⟨_,ak9 p.au _ ay ay h.au,an eJ ?_⟩⟩⟩⟩).run;exact⟨by congr 2;omega,rfl⟩
theorem Kj {n z:Nat} (h:n*z≤reachBytes) (hz:1≤z):n≤140737488355328:=by
 have:reachBytes≤140737488355328:=by decide
 have h2:n*1≤n*z:=Nat.mul_le_mul_left n hz;omega
theorem apr {n:Int} (h:(Lit.int .i64 n).wf=true):n≤9223372036854775807:=by
 have:=(aoN h).2;omega
theorem ald {r:List TC} (h:zG C.tt anW r): ∃n:Int,r=bP n∧True:=by
 obtain⟨n,rfl,_⟩:=h.qE (k:= .i64) AP;exact⟨n,rfl,trivial⟩
theorem aps {r:List TC} (h:zG C.tt WS r): ∃x:Key,r=bQ x∧True:=by
 obtain⟨q0,r0,rfl,h0,k0⟩:=(h.tf (fs:=[(0,3),(1,3),(2,3),(3,3),(4,3)]) AP).cons_inv;obtain⟨q1,r1,rfl,h1,k1⟩:=k0.cons_inv;obtain⟨q2,r2,rfl,h2,k2⟩:=k1.cons_inv;obtain⟨q3,r3,rfl,h3,k3⟩:=k2.cons_inv;obtain⟨q4,r4,rfl,h4,k4⟩:=k3.cons_inv;have e:=k4.B4;subst e;obtain⟨v0,rfl,u0⟩:=h0.qE (k:= .i64) AP;obtain⟨v1,rfl,u1⟩:=h1.qE (k:= .i64) AP;obtain⟨v2,rfl,u2⟩:=h2.qE (k:= .i64) AP;obtain⟨v3,rfl,u3⟩:=h3.qE (k:= .i64) AP
 obtain⟨v4,rfl,u4⟩:=h4.qE (k:= .i64) AP;exact⟨⟨v0,v1,v2,v3,v4⟩,rfl,trivial⟩
theorem apt {r:List TC} (h:zG C.tt WR r): ∃x:Age,r=bR x∧True:=by
 obtain⟨q0,r0,rfl,h0,k0⟩:=(h.tf (fs:=[(0,3),(1,3)]) AP).cons_inv;obtain⟨q1,r1,rfl,h1,k1⟩:=k0.cons_inv;have e:=k1.B4;subst e;obtain⟨v0,rfl,u0⟩:=h0.qE (k:= .i64) AP;obtain⟨v1,rfl,u1⟩:=h1.qE (k:= .i64) AP;exact⟨⟨v0,v1⟩,rfl,trivial⟩
theorem ani {r:List TC} (h:zG C.tt Sw r): ∃x:Cell,r=bM x∧True:=by
 obtain⟨q0,r0,rfl,h0,k0⟩:=(h.tf (fs:=[(0,3),(1,4),(2,3)]) AP).cons_inv;obtain⟨q1,r1,rfl,h1,k1⟩:=k0.cons_inv;obtain⟨q2,r2,rfl,h2,k2⟩:=k1.cons_inv;have e:=k2.B4;subst e;obtain⟨v0,rfl,u0⟩:=h0.qE (k:= .i64) AP;obtain⟨v1,rfl⟩:=h1.aeh AP;obtain⟨v2,rfl,u2⟩:=h2.qE (k:= .i64) AP;exact⟨⟨v0,v1,v2⟩,rfl,trivial⟩
theorem apu {r:List TC} (h:zG C.tt WT r): ∃x:Vol,r=cj x∧x.name.size≤140737488355328∧x.size≤9223372036854775807:=by
 obtain⟨q0,r0,rfl,h0,k0⟩:=(h.tf (fs:=[(0,9),(1,3),(2,3),(3,4)]) AP).cons_inv;obtain⟨q1,r1,rfl,h1,k1⟩:=k0.cons_inv;obtain⟨q2,r2,rfl,h2,k2⟩:=k1.cons_inv;obtain⟨q3,r3,rfl,h3,k3⟩:=k2.cons_inv;have e:=k3.B4;subst e;obtain⟨v0,rfl,z0⟩:=h0.acf AP;obtain⟨v1,rfl,u1⟩:=h1.qE (k:= .i64) AP;obtain⟨v2,rfl,u2⟩:=h2.qE (k:= .i64) AP;obtain⟨v3,rfl⟩:=h3.aeh AP;exact⟨⟨v0,v1,v2,v3⟩,rfl,⟨uQ z0 (by decide),apr u2⟩⟩
theorem aqT {r:List TC} (h:zG C.tt abq r): ∃x:AF,r=DP x∧x.name.size≤140737488355328∧x.to.size≤140737488355328:=by
 obtain⟨q0,r0,rfl,h0,k0⟩:=(h.tf (fs:=[(0,3),(1,9),(2,9),(3,3),(4,3)]) AP).cons_inv;obtain⟨q1,r1,rfl,h1,k1⟩:=k0.cons_inv;obtain⟨q2,r2,rfl,h2,k2⟩:=k1.cons_inv;obtain⟨q3,r3,rfl,h3,k3⟩:=k2.cons_inv;obtain⟨q4,r4,rfl,h4,k4⟩:=k3.cons_inv;have e:=k4.B4;subst e;obtain⟨v0,rfl,u0⟩:=h0.qE (k:= .i64) AP;obtain⟨v1,rfl,z1⟩:=h1.acf AP;obtain⟨v2,rfl,z2⟩:=h2.acf AP;obtain⟨v3,rfl,u3⟩:=h3.qE (k:= .i64) AP;obtain⟨v4,rfl,u4⟩:=h4.qE (k:= .i64) AP
 exact⟨⟨v0,v1,v2,v3,v4⟩,rfl,⟨uQ z1 (by decide),uQ z2 (by decide)⟩⟩
theorem aiH {r:List TC} (h:zG C.tt am4 r): ∃l:List (Int),r=[.sub 1 (l.map bP)]∧l.length≤140737488355328∧ ∀x∈l,True:=by
 obtain⟨w,rfl,y,z⟩:=h.wo (e:=anW) AP;obtain⟨l,rfl,hl⟩:=qF fun r hr=>ald (y r hr);rw[bY] at z;exact⟨l,rfl,Kj z (by decide+kernel),hl⟩
theorem aiI {r:List TC} (h:zG C.tt Gf r): ∃l:List (Key),r=[.sub 5 (l.map bQ)]∧l.length≤140737488355328∧ ∀x∈l,True:=by
 obtain⟨w,rfl,y,z⟩:=h.wo (e:=WS) AP;obtain⟨l,rfl,hl⟩:=qF fun r hr=>aps (y r hr);rw[bY] at z;exact⟨l,rfl,Kj z (by decide+kernel),hl⟩
theorem aiJ {r:List TC} (h:zG C.tt acw r): ∃l:List (Age),r=[.sub 2 (l.map bR)]∧l.length≤140737488355328∧ ∀x∈l,True:=by
 obtain⟨w,rfl,y,z⟩:=h.wo (e:=WR) AP;obtain⟨l,rfl,hl⟩:=qF fun r hr=>apt (y r hr);rw[bY] at z;exact⟨l,rfl,Kj z (by decide+kernel),hl⟩
theorem agG {r:List TC} (h:zG C.tt YM r): ∃l:List (Cell),r=[.sub 3 (l.map bM)]∧l.length≤140737488355328∧ ∀x∈l,True:=by
 obtain⟨w,rfl,y,z⟩:=h.wo (e:=Sw) AP;obtain⟨l,rfl,hl⟩:=qF fun r hr=>ani (y r hr);rw[bY] at z;exact⟨l,rfl,Kj z (by decide+kernel),hl⟩
theorem aiK {r:List TC} (h:zG C.tt acy r): ∃l:List (Vol),r=[.sub 4 (l.map cj)]∧l.length≤140737488355328∧ ∀x∈l,x.name.size≤140737488355328∧x.size≤9223372036854775807:=by
 obtain⟨w,rfl,y,z⟩:=h.wo (e:=WT) AP;obtain⟨l,rfl,hl⟩:=qF fun r hr=>apu (y r hr);rw[bY] at z;exact⟨l,rfl,Kj z (by decide+kernel),hl⟩
theorem ale {r:List TC} (h:zG C.tt yN r): ∃l:List (AF),r=[.sub 5 (l.map DP)]∧l.length≤140737488355328∧ ∀x∈l,x.name.size≤140737488355328∧x.to.size≤140737488355328:=by
 obtain⟨w,rfl,y,z⟩:=h.wo (e:=abq) AP;obtain⟨l,rfl,hl⟩:=qF fun r hr=>aqT (y r hr);rw[bY] at z;exact⟨l,rfl,Kj z (by decide+kernel),hl⟩
theorem apv {r:List TC} (h:zG C.tt Gf r): ∃s:List Key,r=cW s∧s.length≤140737488355328:=by
 obtain⟨l,rfl,hl,_⟩:=aiI h;exact⟨l,rfl,hl⟩
theorem aiL {r:List TC} (h:zG C.tt YL r): ∃l:List (List Key),r=[.sub 1 (l.map cW)]∧l.length≤140737488355328∧ ∀x∈l,x.length≤140737488355328:=by
 obtain⟨w,rfl,y,z⟩:=h.wo (e:=Gf) AP;obtain⟨l,rfl,hl⟩:=qF fun r hr=>apv (y r hr);rw[bY] at z;exact⟨l,rfl,Kj z (by decide+kernel),hl⟩
theorem anj {r:List TC} (h:zG C.tt Sx r): ∃n:List (List Key),r=aQ n∧(n.length≤140737488355328∧ ∀s∈n,s.length≤140737488355328):=by
 obtain⟨q0,r0,rfl,h0,k0⟩:=(h.tf (fs:=[(0,178)]) AP).cons_inv;have e:=k0.B4;subst e;obtain⟨l,rfl,hl,hs⟩:=aiL h0;exact⟨l,rfl,hl,hs⟩
theorem agH {r:List TC} (h:zG C.tt YO r): ∃l:List (List (List Key)),r=[.sub 1 (l.map aQ)]∧l.length≤140737488355328∧ ∀x∈l,x.length≤140737488355328∧ ∀s∈x,s.length≤140737488355328:=by
 obtain⟨w,rfl,y,z⟩:=h.wo (e:=Sx) AP;obtain⟨l,rfl,hl⟩:=qF fun r hr=>anj (y r hr);rw[bY] at z;exact⟨l,rfl,Kj z (by decide+kernel),hl⟩
theorem ank {r:List TC} (h:zG C.tt aeS r): ∃t:Tree,r=ahs t∧akX t:=by
 obtain⟨q0,r0,rfl,h0,k0⟩:=(h.tf (fs:=[(0,22),(1,23)]) AP).cons_inv;obtain⟨q1,r1,rfl,h1,k1⟩:=k0.cons_inv;have e:=k1.B4;subst e;obtain⟨l,rfl,hl,_⟩:=aiH h0;obtain⟨n,rfl,hn,hs⟩:=agH h1;exact⟨⟨l,n⟩,rfl,⟨hl,hn,hs⟩⟩
theorem anl {r:List TC} (h:zG C.tt yO r): ∃p:Pool,r=wq p∧ahD p:=by
 obtain⟨q0,r0,rfl,h0,k0⟩:=(h.tf (fs:=[(0,25),(2,26),(3,27),(4,28),(5,3)]) AP).cons_inv;obtain⟨q1,r1,rfl,h1,k1⟩:=k0.cons_inv;obtain⟨q2,r2,rfl,h2,k2⟩:=k1.cons_inv;obtain⟨q3,r3,rfl,h3,k3⟩:=k2.cons_inv;obtain⟨q4,r4,rfl,h4,k4⟩:=k3.cons_inv;have e:=k4.B4;subst e;obtain⟨t,rfl,ht⟩:=ank h0;obtain⟨a,rfl,ha,_⟩:=aiJ h1;obtain⟨c,rfl,hc,_⟩:=agG h2;obtain⟨v,rfl,hv,hw⟩:=aiK h3;obtain⟨n,rfl,_⟩:=ald h4;exact⟨⟨t,a,c,v,n⟩,rfl,⟨ht,ha,hc,hv,fun v h=>(hw v h).1,fun v h=>(hw v h).2⟩⟩
theorem aqU {v:TV} (h:WfV C.tt yN v): ∃l:List AF,v=Wv l∧l.length≤140737488355328∧ ∀x∈l,x.name.size≤140737488355328∧x.to.size≤140737488355328:=by
 have ht:(C.tt yN).ti= .slice 46:=by kernel_rfl
 cases h with
 |c _ hw=>
  obtain⟨l,h1,h2,h3⟩:=ale hw
  cases h1
  exact⟨l,rfl,h2,h3⟩
 |ag h1 _=>rw[ht] at h1;cases h1
theorem apw {v:TV} (h:WfV C.tt yO v): ∃x:Pool,v=c6 x∧ahD x:=by
 have ht:(C.tt yO).ti= .struct [(0,25),(2,26),(3,27),(4,28),(5,3)]:=by kernel_rfl
 cases h with
 |c hs hw=>exact absurd ht (hs _)
 |ag _ hw=>
  obtain⟨x,rfl,hx⟩:=anl hw;exact⟨x,rfl,hx⟩
theorem alf {a:Int} {n:Nat} (h:bL (nG a n) 0=false) (h0:0≤a∧a≤1048576):(n:Int)≤a∧(0≤nG a n∧nG a n≤1048576)∧nG a n=a-n:=by
 rw[dm] at h;have h: ¬nG a n<0:=of_decide_eq_false h;unfold nG at*
 split at h<;>simp_all<;>omega
theorem alg {t:Tree} (h:cH t≤4194304):abr t:=by
 unfold cH wY at h;refine⟨by omega,by omega,fun n hn=> ?_⟩;have h1:=oE (w:=aP) hn;have e:aP n=n.length+tot bZ n:=rfl
 exact⟨by omega,fun s hs=>by
  have h2:=oE (w:=bZ) hs;have e2:bZ s=s.length:=rfl
  omega⟩
theorem alh (l:List Key):tot MU l=5*l.length:=Aj 5 l
theorem ali (n:List (List Key)):tot nM n≤5*tot bZ n:=by
 induction n with
 |nil=>simp[tot]
 |cons s r ih=>
  simp only[tot];have:nM s=5*s.length:=alh s;have e:bZ s=s.length:=rfl;omega
theorem aiM (l:List (List (List Key))):tot pR l≤5*tot aP l:=by
 induction l with
 |nil=>simp[tot]
 |cons n r ih=>
  simp only[tot];have h1:=ali n;have h2:aP n=n.length+tot bZ n:=rfl;have h3:pR n=tot nM n:=rfl;omega
theorem alj (t:Tree):GN t≤5*cH t:=by
 have h1:=aiM t.nodes;have h2:tot OE t.aE=1*t.aE.length:=Aj 1 t.aE;unfold GN cH wY;omega
theorem aeY {p:Pool} (h:aJ p≤4194304):aeT p:=by
 unfold aJ DQ at h;exact⟨alg ay,by omega,by omega,by omega⟩
theorem aeZ (p:Pool):SC p≤5*aJ p:=by
 have h1:=alj p.t;have h2:tot MV p.aL=2*p.aL.length:=Aj 2 p.aL;have h3:tot Ct p.cells=3*p.cells.length:=Aj 3 p.cells;have h4:tot QW p.au=4*p.au.length:=Aj 4 p.au;unfold SC aJ DQ;omega
theorem Qb {α:Type} {w:α→Nat} {c:Nat}: ∀{l:List α},(∀a∈l,w a≤c)→tot w l≤c*l.length
 |[],_=>Ee _
 |a::r,h=>by
  have h1:=h a (.head _);have h2:=Qb (l:=r) fun b hb=>h b (.tail _ hb);simp only[tot,fX,Nat.mul_add];omega
theorem acG (p:Pool) (w_p:ahD p) (l:List AF) (w_l:l.length≤140737488355328) (y_l: ∀x∈l,x.name.size≤140737488355328∧x.to.size≤140737488355328):ai C tw [c6 p,Wv l] (vB true) []:=by
 refine(Gp _ _ _ _ _ _ _ _ ?_).run;refine⟨_,agB _ _ (by first|omega|assumption) zYs,?_⟩;refine td (fun _=>⟨rfl,by trivial⟩) fun VH=> ?_;obtain⟨avb,avc,avd⟩:=alf VH (by first|omega|assumption);refine⟨_,aqQ _ _ (by first|omega|assumption) ay zYs,?_⟩;refine td (fun _=>⟨rfl,by trivial⟩) fun hz1=> ?_;obtain⟨ave,avf,avg⟩:=alf hz1 (by first|omega|assumption);have hB:=aeY (p:=p) ay
 have hS:aJ p≤4194304:=by omega
 have hP:=cD hS
 have hL: ∀o∈l,o.name.size≤1048576∧o.to.size≤1048576:=fun o ho=>by have h1:=oE (w:=Lm) ho;have h2:Lm o=o.name.size+o.to.size:=rfl;have h3:aqC l=l.length+tot Lm l:=rfl;omega
 have hw3:tot wOp l≤5*l.length:=Qb fun m h=>cX _
 have hL2: ∀o∈l,o.name.size≤1073741824∧o.to.size≤1073741824:=fun o ho=>by have:=hL o ho;omega
 have hsz:aJ (AK p l)≤4194304:=uQ (abp (l.take 200) p) ay;have hB2:=aeY (p:=(AK p l)) hsz;have hw:=aeZ p;have Yv:=aeZ (AK p l);refine⟨_,_,_,_,_,_,acz _ zYs,?_⟩;refine⟨_,ahC _ ay,?_⟩;refine⟨_,_,_,_,_,_,OD p l ay ay hL,?_⟩;refine⟨_,_,_,_,_,_,acz _ zYs,?_⟩;refine⟨_,ahC _ ay,?_⟩;refine⟨_,_,_,_,_,_,Cs p l ay ay hL,?_⟩;refine⟨_,acA _ zYs,?_⟩;refine an zYa ?_;refine⟨_,_,_,_,_,_,acz _ zYs,?_⟩;refine⟨_,acA _ zYs,?_⟩
 refine an zYa ?_;refine⟨_,ahC _ ay,?_⟩;refine⟨_,aqP _ ay,?_⟩;refine an zYa ?_;refine⟨_,_,_,_,_,_,_,aeW _ 1 ay ay zYs,?_⟩;refine⟨_,_,anh _ _ ay ay ay,?_⟩;refine an zYa ?_;refine⟨_,acA _ zYs,?_⟩;refine an zYa ?_;refine⟨_,_,_,_,_,_,_,aeW _ 1 ay ay zYs,?_⟩;refine⟨_,aeX _ 1 ay ay zYs,?_⟩;refine an zYa ?_;refine an zYa ?_;refine⟨_,_,_,_,_,_,acz _ zYs,?_⟩;refine⟨_,ahC _ ay,?_⟩;refine⟨_,_,_,_,_,_,Cs p l ay ay hL,?_⟩
 refine⟨_,acA _ zYs,?_⟩;refine an zYa ?_;refine⟨_,aeX _ 1 ay ay zYs,?_⟩;refine an zYa ?_;refine an zYa ?_;exact⟨rfl,by trivial⟩
theorem acH (vs:List TV) (h:aee C.tt [yO,yN] vs): ∃k,lJ C k tw vs (vB true) []:=by
 cases h with
 |cons h0 h=>
  cases h with
  |cons h1 h=>
   cases h
   obtain⟨p,rfl,wp⟩:=apw h0;obtain⟨l,rfl,wl,yl⟩:=aqU h1;exact acG p wp l wl yl
end Go.T.R
