import Derived.Test.YtiinnfilgnhjfaaGreatTP0
set_option linter.all false
set_option maxRecDepth 100000
set_option maxHeartbeats 4000000
namespace Go.T.R
open Go Go.T
theorem Gg (p:Pool) (s:ByteArray) (hS:aN p≤4194304) (hz:s.size≤140737488355328):au C B2 [dQ p,vS s] (vI (if uA p s=true then(if cj p.av s<0 then 2 else 0) else 1)) []:=by
 have hP:=cJ hS;refine(YH _ _ _ _ _ _ _ _ ⟨_,xV p s hS hz,?_⟩).run
 cases h1:uA p s with
 |false=>exact aa dh c7
 |true=>
  refine ai dh ⟨_,ju p s an,?_⟩
  by_cases h2:cj p.av s<0
  ·exact ai (by simp[h2]) ⟨by simp[h2],by trivial⟩
  ·exact aa fj ⟨by simp[h2],by trivial⟩
theorem X4 (p:Pool) (s:ByteArray) (hS:aN p≤4194304) (hz:s.size≤140737488355328):au C Pu [dQ p,vS s] (Pf (Ji p s)) []:=by
 have hP:=cJ hS;refine(ad8 _ _ _ _ _ _ _ _ ⟨_,_,_,_,_,_,cG p hS,_,Gg p s hS hz,?_⟩).run;unfold Ji
 cases h0:uA p s with
 |false=>exact ai dh c7
 |true=>
  simp only[if_true]
  by_cases hn:cj p.av s<0
  ·simp only[aJ hn]
   exact ai dh (by first|exact c7|exact⟨trivial,trivial⟩|simp)
  ·simp only[aF hn]
   obtain⟨v,hv⟩:=FR hn
   have h1:aE (p.av.map cu) 0 (cj p.av s)=(p.av.take (cj p.av s).toNat).map cu:=by rw[cO];rfl
   have h2:aE (p.av.map cu) (cj p.av s+1) (Int.ofNat p.av.length)=(p.av.drop ((cj p.av s).toNat+1)).map cu:=by
    rw[cO,show(cj p.av s+1).toNat=(cj p.av s).toNat+1 by omega,show(Int.ofNat p.av.length).toNat=p.av.length from rfl,we]
   have h3:List.append ((p.av.take (cj p.av s).toNat).map cu) ((p.av.drop ((cj p.av s).toNat+1)).map cu)=(Fz p (cj p.av s)).av.map cu:=(ux (f:=cu) (l₁:=p.av.take (cj p.av s).toNat) (l₂:=p.av.drop ((cj p.av s).toNat+1))).symm;have hX:aN (Fz p (cj p.av s))≤4194304:=uO (Pg p _) hS
   have Q9:(p.av.take (cj p.av s).toNat).length≤p.av.length:=by rw[fu];omega
   have FY:(p.av.drop ((cj p.av s).toNat+1)).length≤p.av.length:=by rw[jd];omega
   have hi:0≤cj p.av s∧cj p.av s<p.av.length:=Classical.byContradiction fun hn=>by rw[gR hn] at hv;cases hv
   refine aa dh ⟨_,ju p s an,?_⟩
   (try dsimp only)
   rw[ct,aG an,h1,h2,h3];refine ai fj (ai fj (ai (by rw[wm,cT fj];rfl) (ai (by rw[wm,cT fj];rfl) ?_)));exact⟨_,_,_,_,_,_,_,Gf p (Fz p (cj p.av s)) hS hX,c7⟩
theorem X5 (p:Pool) (s:ByteArray) (hS:aN p≤4194304) (hz:s.size≤140737488355328):au C Px [dQ p,vS s] (Pf (Ji p s)) []:=by
 have hP:=cJ hS;refine(ad3 _ _ _ _ _ _ _ _ ⟨_,lX p s an,_,fq p hS,?_⟩).run;unfold Ji uA
 cases ha:dg p with
 |false=>exact ai rfl ⟨_,_,_,_,_,_,bR p hS,c7⟩
 |true=>
 refine aa rfl ⟨_,(ng s hz (j5 s)).2 rfl,?_⟩
 cases hb:j5 s with
 |false=>exact ai rfl ⟨_,_,_,_,_,_,bR p hS,c7⟩
 |true=>
  refine aa rfl ?_;simp only[Bool.and_self,if_true]
  by_cases hn:cj p.av s<0
  ·simp only[aJ hn]
   exact ai (by simp[hn]) ⟨_,_,_,_,_,_,bR p hS,c7⟩
  ·simp only[aF hn]
   obtain⟨v,hv⟩:=FR hn
   have h1:aE (p.av.map cu) 0 (cj p.av s)=(p.av.take (cj p.av s).toNat).map cu:=by rw[cO];rfl
   have h2:aE (p.av.map cu) (cj p.av s+1) (Int.ofNat p.av.length)=(p.av.drop ((cj p.av s).toNat+1)).map cu:=by
    rw[cO,show(cj p.av s+1).toNat=(cj p.av s).toNat+1 by omega,show(Int.ofNat p.av.length).toNat=p.av.length from rfl,we]
   have h3:List.append ((p.av.take (cj p.av s).toNat).map cu) ((p.av.drop ((cj p.av s).toNat+1)).map cu)=(Fz p (cj p.av s)).av.map cu:=(ux (f:=cu) (l₁:=p.av.take (cj p.av s).toNat) (l₂:=p.av.drop ((cj p.av s).toNat+1))).symm;have hX:aN (Fz p (cj p.av s))≤4194304:=uO (Pg p _) hS
   have Q9:(p.av.take (cj p.av s).toNat).length≤p.av.length:=by rw[fu];omega
   have FY:(p.av.drop ((cj p.av s).toNat+1)).length≤p.av.length:=by rw[jd];omega
   have hi:0≤cj p.av s∧cj p.av s<p.av.length:=Classical.byContradiction fun hn=>by rw[gR hn] at hv;cases hv
   refine aa fj ⟨_,_,_,_,_,_,bR p hS,?_⟩
   (try dsimp only)
   rw[ct,aG an,h1,h2,h3];refine ai fj (ai fj (ai (by rw[wm,cT fj];rfl) ?_));exact⟨_,_,_,_,_,_,_,Ea p (Fz p (cj p.av s)) hS hX,c7⟩
theorem V8 (l:List Age) (id fr:Int) (k:Nat) (hk:k≤l.length) (hl:l.length≤1073741824):au C so [gL l,vI (k:Int),.c (.sub 2 [[iI id,iI fr]])] (gL (l.take k++⟨id,fr⟩::l.drop k)) []:=by
 refine au.ext (p:=ajE 2 16) rfl ?_;unfold ajE;simp only[];rw[aJ ⟨trivial,trivial,by omega,by simp<;>omega,cT rV⟩,mT];unfold gL;rw[ux,List.map_cons,IM,DN]
 rfl
theorem yY (l:List Age) (id fr:Int) (hl:l.length≤1073741800):au C jh [gL l,vI id,vI fr] (TV.tu [(0,[TC.sub 2 ((iR l id fr).1.map bW)]),(0,[iB (iR l id fr).2])]) []:=by
 refine(YJ _ _ _ _ ?_).run
 have key:(l.take 0).all (leA id)=true→ah C jh NX 4 0 (rA (l.map bW) id fr ((0:Nat):Int)) (fun x st=>ax C jh NX x st fun r fs=>r=(TV.tu [(0,[TC.sub 2 ((iR l id fr).1.map bW)]),(0,[iB (iR l id fr).2])])∧fs=[]):=by
  have fin: ∀k:Nat,k≤l.length→(l.takeWhile (leA id)).length=k→ ∀Q:QV,Q (TV.tu [(0,[TC.sub 2 ((iR l id fr).1.map bW)]),(0,[iB (iR l id fr).2])]) []→
   ∃(l7:RR),au C ga ([TV.c (TC.sub 2 (l.map bW))]) (TV.c (TC.sub 2 l7)) []∧(∃(l8:RR),au C so ([TV.c (TC.sub 2 l7),TV.c (iI (k:Int)),TV.c (TC.sub 2 [[iI id,iI fr]])]) (TV.c (TC.sub 2 l8)) []∧(∃(n9:Int),au C jb ([TV.c (TC.sub 2 (l.map bW)),TV.c (iI id)]) (TV.c (iI n9)) []∧(aq (nv 0 n9) (∃(l10:RR),au C ga ([TV.c (TC.sub 2 (l.map bW))]) (TV.c (TC.sub 2 l10)) []∧(Q (TV.tu [(0,[TC.sub 2 l10]),(0,[iB false])]) ([]))) (∃(b11:Bool),au C dK ([TV.c (TC.sub 2 l8)]) (TV.c (iB b11)) []∧(aq (!b11) (∃(l12:RR),au C ga ([TV.c (TC.sub 2 (l.map bW))]) (TV.c (TC.sub 2 l12)) []∧(Q (TV.tu [(0,[TC.sub 2 l12]),(0,[iB false])]) ([]))) (Q (TV.tu [(0,[TC.sub 2 l8]),(0,[iB true])]) ([]))))))):=by
   intro k hk he Q hQ;have hi:=VI (leA id) (⟨id,fr⟩:Age) l he
   have hln:(r5 l id fr).length≤1073741824:=by unfold r5;rw[Aa];omega
   refine⟨_,oV l an,_,V8 l id fr k hk an,_,w9 l id an,?_⟩;unfold iR at hQ;rw[hi]
   by_cases h1:0≤fA l id
   ·rw[aJ h1] at hQ
    exact ai (by simpa using h1) ⟨_,oV l an,hQ⟩
   ·rw[aF h1] at hQ
    have hok:au C dK [gL (r5 l id fr)] (vB (g9 (r5 l id fr))) []:=yR (r5 l id fr) hln;refine aa rV ⟨_,hok,?_⟩
    by_cases h2:g9 (r5 l id fr)=true
    ·rw[aJ h2] at hQ
     rw[h2];exact aa rfl hQ
    ·rw[aF h2] at hQ
     have h2:g9 (r5 l id fr)=false:=by simpa using h2
     rw[h2];exact ai rfl ⟨_,oV l an,hQ⟩
  refine bh l (fun i=>(l.take i).all (leA id)=true→ah C jh NX 4 0 (rA (l.map bW) id fr (i:Int)) _) ?_ ?_
  ·intro h0
   refine HO _ _ _ _ _ (aa dh (S9 _ _ _ _ _ (fin l.length (de _) (ae3 _ l _ (de _) h0 fun a ha=> ?_) (fun r fs=>r=(TV.tu [(0,[TC.sub 2 ((iR l id fr).1.map bW)]),(0,[iB (iR l id fr).2])])∧fs=[]) c7)));rw[US (de _)] at ha;cases ha
  ·intro i a hi ha hd ht hn h0
   refine HO _ _ _ _ _ (ai rV ⟨a.id,a.fr,by rw[aV,aI,ha];rfl,?_⟩)
   by_cases hle:a.id≤id
   ·refine ai (by simpa using hle) ?_
    rw[aG an];exact hn (by rw[ht,List.all_append,h0];simp[leA,hle])
   ·refine aa (by simpa using hle) (S8 _ _ _ _ _ _ (fin i an (ae3 _ l i an h0 fun b hb=> ?_) (fun r fs=>r=(TV.tu [(0,[TC.sub 2 ((iR l id fr).1.map bW)]),(0,[iB (iR l id fr).2])])∧fs=[]) c7))
    rw[ha] at hb;cases hb;simp[leA];omega
 exact key rfl
theorem yZ (l:List Age) (id fr:Int) (hl:l.length≤1073741800):au C iD [gL l,vI id,vI fr] (TV.tu [(0,[TC.sub 2 ((iR l id fr).1.map bW)]),(0,[iB (iR l id fr).2])]) []:=by
 refine(Zo _ _ _ _ ⟨_,qg l id an,?_⟩).run
 obtain⟨T,hT⟩: ∃T,T=if 0≤fA l id then l else r5 l id fr:=⟨_,rfl⟩
 have hTl:T.length≤l.length+1:=by
  rw[hT];split
  ·omega
  ·unfold r5;rw[Aa];omega
 have key: ∀(b:Bool) (acc:List Age),acc++(if b=true then l.drop 0 else r5 (l.drop 0) id fr)=T→ah C iD ay 4 0 (mQ (l.map bW) id fr b ((0:Nat):Int) (acc.map bW)) (fun x st=>ax C iD ay x st fun r fs=>r=(TV.tu [(0,[TC.sub 2 ((iR l id fr).1.map bW)]),(0,[iB (iR l id fr).2])])∧fs=[]):=by
  have fin: ∀Q:QV,Q (TV.tu [(0,[TC.sub 2 ((iR l id fr).1.map bW)]),(0,[iB (iR l id fr).2])]) []→
   ∃(n17:Int),au C ez ([TV.c (TC.sub 2 (l.map bW)),TV.c (iI id)]) (TV.c (iI n17)) []∧(aq (nv 0 n17) (aq (bT (l.map bW)&&fits (Nat.add 0 (List.length (l.map bW))) 16) (Q (TV.tu [(0,[TC.sub 2 (l.map bW)]),(0,[iB false])]) ([])) (False)) (∃(b18:Bool),au C dI ([TV.c (TC.sub 2 (T.map bW))]) (TV.c (iB b18)) []∧(aq (!b18) (aq (bT (l.map bW)&&fits (Nat.add 0 (List.length (l.map bW))) 16) (Q (TV.tu [(0,[TC.sub 2 (l.map bW)]),(0,[iB false])]) ([])) (False)) (Q (TV.tu [(0,[TC.sub 2 (T.map bW)]),(0,[iB true])]) ([]))))):=by
   intro Q hQ
   have IK:(bT (l.map bW)&&fits (Nat.add 0 (List.length (l.map bW))) 16)=true:=by rw[zZ,cT rV];rfl
   refine⟨_,qg l id an,?_⟩;unfold iR at hQ
   by_cases h1:0≤fA l id
   ·rw[aJ h1] at hQ
    exact ai (by simpa using h1) (ai IK hQ)
   ·rw[aF h1] at hQ hT
    have hok:au C dI [gL T] (vB (g9 T)) []:=yP T an;refine aa rV ⟨_,hok,?_⟩;subst hT
    by_cases h2:g9 (r5 l id fr)=true
    ·rw[aJ h2] at hQ
     rw[h2];exact aa rfl hQ
    ·rw[aF h2] at hQ
     have h2:g9 (r5 l id fr)=false:=by simpa using h2
     rw[h2];exact ai rfl (ai IK hQ)
  refine bh l (fun i=> ∀(b:Bool) (acc:List Age),acc++(if b=true then l.drop i else r5 (l.drop i) id fr)=T→ah C iD ay 4 0 (mQ (l.map bW) id fr b (i:Int) (acc.map bW)) _) ?_ ?_
  ·intro b acc h0
   have hlen:=congrArg List.length h0;rw[cM] at hlen;refine Io _ _ _ _ _ _ _ (aa dh (Ua _ _ _ _ _ _ _ _ ?_));rw[eK] at h0
   cases b with
   |true=>
    simp only[if_true,qv] at h0;subst h0;exact aa rfl (fin (fun r fs=>r=(TV.tu [(0,[TC.sub 2 ((iR l id fr).1.map bW)]),(0,[iB (iR l id fr).2])])∧fs=[]) c7)
   |false=>
    have e:acc++[(⟨id,fr⟩:Age)]=T:=by simpa [r5,yt] using h0
    refine ai rfl (ai (by rw[vP,cT rV];rfl) ?_);rw[BR,e];exact fin (fun r fs=>r=(TV.tu [(0,[TC.sub 2 ((iR l id fr).1.map bW)]),(0,[iB (iR l id fr).2])])∧fs=[]) c7
  ·intro i a hi ha hd ht hn b acc h0
   have hlen:=congrArg List.length h0;rw[cM] at hlen;refine Io _ _ _ _ _ _ _ (ai rV ?_)
   have hrow:rowAt (l.map bW) (i:Int)=some [iI a.id,iI a.fr]:=by rw[aV,aI,ha];rfl
   have v8:aA (i:Int) 1=((i+1:Nat):Int):=aG an
   cases b with
   |true=>
    rw[hd] at h0;simp only[if_true] at h0;refine aa rfl ⟨_,_,hrow,ai (by rw[vP,cT rV];rfl) ?_⟩;rw[v8,BR];exact hn true (acc++[a]) (by rw[←h0];simp)
   |false=>
    rw[hd] at h0;simp only[MM,if_false] at h0;unfold r5 at h0;rw[LM] at h0;refine ai rfl ⟨_,_,hrow,?_⟩
    by_cases hlt:id<a.id
    ·have hle:leA id a=false:=by simp[leA];omega
     rw[hle] at h0;simp only[MM,if_false] at h0;refine ai (by simpa using hlt) (ai (by rw[vP,cT rV];rfl) ⟨_,_,hrow,ai (by rw[vP,BR,cT rV];rfl) ?_⟩);rw[v8,BR,BR];exact hn true (acc++[⟨id,fr⟩]++[a]) (by rw[←h0];simp)
    ·have hle:leA id a=true:=by simp[leA];omega
     rw[hle] at h0;simp only[if_true] at h0;refine aa (by simpa using hlt) ⟨_,_,hrow,ai (by rw[vP,cT rV];rfl) ?_⟩;rw[v8,BR];exact hn false (acc++[a]) (by rw[←h0];simp[r5])
 refine key (nv 0 (fA l id)) [] ?_;rw[hT,gy]
 by_cases h1:0≤fA l id<;>simp[h1]
theorem AG (l:List Vol) (v:Vol) (hl:l.length≤1073741800):au C fY [qV l,.ag (cu v)] (qV (lU l v)) []:=by
 refine(QJ _ _ _ _ _ _ ?_).run;have hTl:(lU l v).length=l.length+1:=Aa _ _ _
 have key: ∀(b:Bool) (acc:List Vol),acc++(if b=true then l.drop 0 else lU (l.drop 0) v)=lU l v→ah C fY ay 4 0 (jL b (l.map cu) ((0:Nat):Int) v.name v.cY v.size v.fx (acc.map cu)) (fun x st=>ax C fY ay x st fun r fs=>r=qV (lU l v)∧fs=[]):=by
  refine bh l (fun i=> ∀(b:Bool) (acc:List Vol),acc++(if b=true then l.drop i else lU (l.drop i) v)=lU l v→ah C fY ay 4 0 (jL b (l.map cu) (i:Int) v.name v.cY v.size v.fx (acc.map cu)) _) ?_ ?_
  ·intro b acc h0
   have hlen:=congrArg List.length h0;rw[cM] at hlen;refine Bf _ _ _ _ _ _ _ _ _ (aa dh (Mz _ _ _ _ _ _ _ _ _ _ _ ?_));rw[eK] at h0
   cases b with
   |true=>
    simp only[if_true,qv] at h0;exact aa rfl (by rw[h0];exact c7)
   |false=>
    have e:acc++[v]=lU l v:=by rw[←h0];simp[lU,yt]
    refine ai rfl (ai (by rw[vQ,cT rV];rfl) ?_);rw[Fx];exact⟨by rw[e],rfl⟩
  ·intro i a hi ha hd ht hn b acc h0
   have hlen:=congrArg List.length h0;rw[cM] at hlen
   have hrow:rowAt (l.map cu) (i:Int)=some [iS a.name,iI a.cY,iI a.size,iB a.fx]:=by rw[aV,aI,ha];rfl
   have v8:aA (i:Int) 1=((i+1:Nat):Int):=aG an;refine Bf _ _ _ _ _ _ _ _ _ (ai rV ⟨_,_,_,_,hrow,?_⟩)
   cases b with
   |true=>
    rw[hd] at h0;simp only[if_true] at h0;refine aa rfl (ai (by rw[vQ,cT rV];rfl) ?_);rw[v8,Fx];exact hn true (acc++[a]) (by rw[←h0];simp)
   |false=>
    rw[hd] at h0;simp only[MM,if_false] at h0;unfold lU at h0;rw[LM] at h0;refine ai rfl ?_
    cases hle:RA v a with
    |false=>
     rw[hle] at h0;simp only[MM,if_false] at h0;refine ai (by unfold RA at hle;rw[hle];rfl) (ai (by rw[vQ,cT rV];rfl) (ai (by rw[vQ,Fx,cT rV];rfl) ?_));rw[v8,Fx,Fx];exact hn true (acc++[v]++[a]) (by rw[show lU l v=yt (RA v) v l from rfl,←h0];simp)
    |true=>
     rw[hle] at h0;simp only[if_true] at h0;refine aa (by unfold RA at hle;rw[hle];rfl) (ai (by rw[vQ,cT rV];rfl) ?_);rw[v8,Fx];exact hn false (acc++[a]) (by rw[show lU l v=yt (RA v) v l from rfl,←h0];simp[lU])
 exact key false [] rfl
theorem AH (l:List Vol) (v:Vol) (hr:Ds l) (hl:l.length≤1073741800):au C eR [qV l,.ag (cu v)] (qV (lU l v)) []:=by
 have key: ∀(k:Nat) (y:Vol),k≤l.length→(∀u∈l.drop k,RA v u=false)→ah C eR kZ 4 0 (lg (k:Int) v.name v.cY v.size v.fx ((l.take k++y::l.drop k).map cu)) (fun x st=>ax C eR kZ x st fun r fs=>r=qV (lU l v)∧fs=[]):=by
  intro k
  induction k with
  |zero=>
   intro y hk hg
   have Bt:rowAt ((l.take 0++y::l.drop 0).map cu) ((0:Nat):Int)=some [iS y.name,iI y.cY,iI y.size,iB y.fx]:=by rw[aV,aI];rfl
   refine Bb _ _ _ _ _ _ _ (aa dh (Mu _ _ _ _ _ _ _ ⟨_,_,_,_,Bt,_,_,_,_,Bt,?_⟩));refine⟨?_,rfl⟩;have:=VI (RA v) v l (hr.cut (k:=0) hk hg fun u h=>absurd h an);rw[show lU l v=yt (RA v) v l from rfl,←this,show((0:Nat):Int)=0 from rfl];simp[setRow,cu]
  |succ k ih=>
   intro y hk hg
   have Ki:k<l.length:=by omega
   obtain⟨a,ha⟩: ∃a,l[k]?=some a:=⟨_,cw Ki⟩
   have hsub:cV ((k+1:Nat):Int) 1=(k:Int):=by rw[dx an];omega
   have htl:(l.take (k+1)).length=k+1:=by rw[fu];omega
   have hgk:(l.take (k+1)++y::l.drop (k+1))[k]?=some a:=by rw[nw an,DL,aJ an,ha]
   have aqi:(l.take (k+1)++y::l.drop (k+1))[k+1]?=some y:=by rw[pP an,htl,qT];rfl
   have hra:rowAt ((l.take (k+1)++y::l.drop (k+1)).map cu) (k:Int)=some [iS a.name,iI a.cY,iI a.size,iB a.fx]:=by rw[aV,aI,hgk];rfl
   have hry:rowAt ((l.take (k+1)++y::l.drop (k+1)).map cu) ((k+1:Nat):Int)=some [iS y.name,iI y.cY,iI y.size,iB y.fx]:=by rw[aV,aI,aqi];rfl
   have DI: ∀u:Vol,setRow ((l.take (k+1)++y::l.drop (k+1)).map cu) ((k+1:Nat):Int) 0 [iS u.name,iI u.cY,iI u.size,iB u.fx]=(l.take (k+1)++u::l.drop (k+1)).map cu:=fun u=>by
    rw[LG (a:=y) (a':=u) aqi rfl]
    congr 1
    rw[List.set_append_right _ _ an,htl,qT]
    rfl
   refine Bb _ _ _ _ _ _ _ (ai rV ?_);rw[hsub];refine⟨_,_,_,_,hra,_,_,_,_,hra,?_⟩
   cases hle:RA v a with
   |false=>
    refine ai (by unfold RA at hle;rw[hle];rfl) ⟨_,_,_,_,hra,_,_,_,_,hra,_,_,_,_,hry,_,_,_,_,hry,?_⟩;rw[DI a]
    have e:l.take (k+1)++a::l.drop (k+1)=l.take k++a::l.drop k:=by
     rw[List.take_add_one,ha,KT Ki,show l[k]=a from by rw[cw Ki] at ha;exact Option.some.inj ha];simp
    rw[e];refine ih a an fun u hu=> ?_;rw[KT Ki,show l[k]=a from by rw[cw Ki] at ha;exact Option.some.inj ha] at hu;rcases gj.1 hu with rfl|hu
    ·exact hle
    ·exact hg u hu
   |true=>
    refine aa (by unfold RA at hle;rw[hle];rfl) (Mt _ _ _ _ _ _ _ _ ⟨_,_,_,_,hry,_,_,_,_,hry,?_⟩);rw[DI v];refine⟨?_,rfl⟩;have:=VI (RA v) v l (hr.cut (k:=k+1) hk hg fun u _ hu=>by rw[Nat.add_sub_cancel,ha] at hu;cases hu;exact hle);rw[show lU l v=yt (RA v) v l from rfl,←this]
 have h0:(bT (l.map cu)&&fits (Nat.add 0 (l.map cu).length) 40)=true:=by rw[wm,cT rV];rfl
 have h00:(bT [[iS v.name,iI v.cY,iI v.size,iB v.fx]]&&fits (Nat.succ (l.map cu).length) 40)=true:=by rw[vQ,cT rV];rfl
 have hstart:ah C eR kZ 4 0 (lg (cV (Int.ofNat (List.length (List.append (l.map cu) [[iS v.name,iI v.cY,iI v.size,iB v.fx]]))) 1) v.name v.cY v.size v.fx (List.append (l.map cu) [[iS v.name,iI v.cY,iI v.size,iB v.fx]])) (fun x st=>ax C eR kZ x st fun r fs=>(r,fs)=(qV (lU l v),([]:List TV))):=by
  have hk:=key l.length v (de _) (by rw[eK];intro u hu;cases hu);rw[we,eK] at hk;rw[Fx]
  have e:cV (Int.ofNat ((l++[(⟨v.name,v.cY,v.size,v.fx⟩:Vol)]).map cu).length) 1=(l.length:Int):=by
   rw[dx rV];simp
  rw[e]
  have eQ:(fun(r:TV) (fs:List TV)=>(r,fs)=(qV (lU l v),([]:List TV)))=fun r fs=>r=qV (lU l v)∧fs=[]:=by
   funext r fs;simp
  rw[eQ];exact hk
 have S:=ai (B:=False) h0 (ai (B:=False) h00 hstart);exact(Qh _ _ _ _ _ _ ⟨(qV (lU l v),[]),⟨(qV (lU l v),[]),S,S,rfl⟩,S,c7⟩).run
theorem kr (p x:Pool) (ok:Bool) (hS:aN p≤4194304) (hX:aN x≤4194304):au C gP [dQ p,dQ x,vB ok] (Pf (D5 p x ok)) []:=by
 cases ok with
 |true=>exact Gf p x hS hX
 |false=>
  refine(Lm _ _ _ _ _ _ _ _ _ _ _ _ _ _ ?_).run;exact ai rfl ⟨_,_,_,_,_,_,cG p hS,c7⟩
theorem jI (p x:Pool) (ok:Bool) (hS:aN p≤4194304) (hX:aN x≤4194304):au C jx [dQ p,dQ x,vB ok] (Pf (D5 p x ok)) []:=by
 cases ok with
 |true=>exact Ea p x hS hX
 |false=>
  refine(J6 _ _ _ _ _ _ _ _ _ _ _ _ _ _ ?_).run;exact ai rfl ⟨_,_,_,_,_,_,bR p hS,c7⟩
theorem Sb (p:Pool) (s:ByteArray) (n:Int) (hS:aN p≤1048576) (hz:s.size≤1048576):au C Jx [dQ p,vS s,vI n] (Pf (x9 p s n)) []:=by
 have hX:aN (FA p s n)≤4194304:=by have:=VJ p s n;omega
 have r8:aN p≤4194304:=by omega
 have hP:=cJ r8;refine(Yh _ _ _ _ _ _ _ _ _ ⟨_,xV p s r8 an,?_⟩).run;unfold x9
 cases h0:uA p s with
 |false=>exact ai dh ⟨_,_,_,_,_,_,cG p r8,c7⟩
 |true=>
  have hPO:dg p=true:=by unfold uA at h0;simp only[fk] at h0;exact h0.1
  have hnx:1≤p.next∧p.next≤61:=by
   have:=hPO;unfold dg at this;simp only[fk] at this;have h:=this.2.2.2.2.1;unfold iM at h;simpa using h
  refine aa dh ⟨_,ju p s an,?_⟩;simp only[if_true]
  by_cases h1:0≤cj p.av s
  ·rw[aJ h1]
   exact ai (by simpa using h1) ⟨_,_,_,_,_,_,cG p r8,c7⟩
  ·rw[aF h1]
   refine aa rV ⟨_,tE n 1 12,?_⟩
   cases h2:iM n 1 12 with
   |false=>exact ai rfl ⟨_,_,_,_,_,_,cG p r8,c7⟩
   |true=>
    refine aa rfl ⟨_,_,_,_,_,_,cG p r8,_,_,yZ p.aL p.next 0 an,_,AH p.av ⟨s,p.next,n,false⟩ (Pj hPO) an,?_⟩;rw[aG an];exact⟨_,_,_,_,_,_,_,kr p (FA p s n) _ r8 hX,c7⟩
theorem Sc (p:Pool) (s:ByteArray) (n:Int) (hS:aN p≤1048576) (hz:s.size≤1048576):au C Jy [dQ p,vS s,vI n] (Pf (x9 p s n)) []:=by
 have hX:aN (FA p s n)≤4194304:=by have:=VJ p s n;omega
 have r8:aN p≤4194304:=by omega
 have hP:=cJ r8;refine(Zj _ _ _ _ _ _ _ _ _ ⟨_,fq p r8,?_⟩).run;unfold x9 uA
 cases hPO:dg p with
 |false=>exact ai rfl ⟨_,_,_,_,_,_,bR p r8,c7⟩
 |true=>
  have hnx:1≤p.next∧p.next≤61:=by
   have:=hPO;unfold dg at this;simp only[fk] at this;have h:=this.2.2.2.2.1;unfold iM at h;simpa using h
  refine aa rfl ⟨_,(ng s an (j5 s)).2 rfl,?_⟩
  cases hb:j5 s with
  |false=>exact ai rfl ⟨_,_,_,_,_,_,bR p r8,c7⟩
  |true=>
   refine aa rfl ⟨_,lX p s an,?_⟩;simp only[Bool.and_self,if_true]
   by_cases h1:0≤cj p.av s
   ·rw[aJ h1]
    exact ai (by simpa using h1) ⟨_,_,_,_,_,_,bR p r8,c7⟩
   ·rw[aF h1]
    refine aa rV ⟨_,nM n 1 12,?_⟩
    cases h2:iM n 1 12 with
    |false=>exact ai rfl ⟨_,_,_,_,_,_,bR p r8,c7⟩
    |true=>
     refine aa rfl ⟨_,_,_,_,_,_,bR p r8,_,_,yY p.aL p.next 0 an,_,AG p.av ⟨s,p.next,n,false⟩ an,?_⟩;rw[aG an];exact⟨_,_,_,_,_,_,_,jI p (FA p s n) _ r8 hX,c7⟩
theorem X6 (p:Pool) (s to:ByteArray) (fx:Bool) (hS:aN p≤1048576) (hz:s.size≤1048576) (hz2:to.size≤1048576):au C Pt [dQ p,vS s,vS to,vB fx] (Pf (K5 p s to fx)) []:=by
 have hX: ∀v,aN (Nu p to (cj p.av s) v fx)≤4194304:=fun v=>by have:=adm p to (cj p.av s) v fx;omega
 have r8:aN p≤4194304:=by omega
 have hP:=cJ r8;refine(adZ _ _ _ _ _ _ _ _ _ _ ⟨_,xV p s r8 an,?_⟩).run;unfold K5
 cases h0:uA p s with
 |false=>exact ai dh ⟨_,_,_,_,_,_,cG p r8,⟨by simp,by trivial⟩⟩
 |true=>
 have hPO:dg p=true:=by unfold uA at h0;simp only[fk] at h0;exact h0.1
 have hnx:1≤p.next∧p.next≤61:=by
  have:=hPO;unfold dg at this;simp only[fk] at this;have h:=this.2.2.2.2.1;unfold iM at h;simpa using h
 refine aa dh ⟨_,(uX to an (j5 to)).2 rfl,?_⟩
 cases hb:j5 to with
 |false=>exact ai rfl ⟨_,_,_,_,_,_,cG p r8,⟨by simp,by trivial⟩⟩
 |true=>
 rw[aJ c7];refine aa rfl ⟨_,ju p s an,?_⟩
 by_cases hn:cj p.av s<0
 ·rw[gR an]
  exact ai (by simpa using hn) ⟨_,_,_,_,_,_,cG p r8,c7⟩
 ·obtain⟨v,hv,_⟩:=wU _ p.av (show ¬fe (fun v:Vol=>decide (v.name=s)) p.av 0<0 from hn)
  have hv:fE p.av (cj p.av s)=some v:=hv
  have hrow:rowAt (p.av.map cu) (cj p.av s)=some [iS v.name,iI v.cY,iI v.size,iB v.fx]:=by rw[aV,hv];rfl
  have Q9:=Av p.aL p.next v.cY;have amZ:Ds (p.av.modify (cj p.av s).toNat fun u=>{u with cY:=p.next}):=Ds.modify (f:=fun u:Vol=>{u with cY:=p.next}) (fun _=>rfl) _ (Pj hPO)
  have hml:(p.av.modify (cj p.av s).toNat fun u=>{u with cY:=p.next}).length≤4194304:=by rw[Re];omega
  have ha1:aA p.next 1=p.next+1:=aG an;have ha2:aA p.next 2=p.next+2:=aG an;have ZG:=hX v;rw[hv];refine aa (by simpa using hn) ⟨_,ju p to an,?_⟩;simp only[]
  by_cases h1:0≤cj p.av to
  ·rw[aJ h1]
   exact ai (by simpa using h1) ⟨_,_,_,_,_,_,cG p r8,c7⟩
  ·rw[aF h1]
   rw[ha1,ha2];refine aa rV ⟨_,_,_,_,_,_,cG p r8,_,ju p s an,_,_,_,_,hrow,_,_,yZ p.aL p.next v.cY an,_,_,_,_,hrow,_,_,yZ (iR p.aL p.next v.cY).1 (p.next+1) v.cY an,_,_,_,_,hrow,_,_,_,_,hrow,_,_,_,_,hrow,?_⟩
   (try dsimp only)
   rw[LJ];refine⟨_,AH _ ⟨to,p.next+1,v.size,fx⟩ amZ an,?_⟩
   cases hq:(iR p.aL p.next v.cY).2 with
   |true=>exact ai rfl ⟨_,_,_,_,_,_,_,kr p (Nu p to (cj p.av s) v fx) _ r8 ZG,c7⟩
   |false=>exact aa rfl ⟨_,_,_,_,_,_,_,kr p (Nu p to (cj p.av s) v fx) _ r8 ZG,c7⟩
theorem X7 (p:Pool) (s to:ByteArray) (fx:Bool) (hS:aN p≤1048576) (hz:s.size≤1048576) (hz2:to.size≤1048576):au C Pw [dQ p,vS s,vS to,vB fx] (Pf (K5 p s to fx)) []:=by
 have hX: ∀v,aN (Nu p to (cj p.av s) v fx)≤4194304:=fun v=>by have:=adm p to (cj p.av s) v fx;omega
 have r8:aN p≤4194304:=by omega
 have hP:=cJ r8;refine(adV _ _ _ _ _ _ _ _ _ _ ⟨_,lX p s an,_,fq p r8,?_⟩).run;unfold K5 uA
 cases hPO:dg p with
 |false=>exact ai rfl ⟨_,_,_,_,_,_,bR p r8,⟨by simp,by trivial⟩⟩
 |true=>
 have hnx:1≤p.next∧p.next≤61:=by
  have:=hPO;unfold dg at this;simp only[fk] at this;have h:=this.2.2.2.2.1;unfold iM at h;simpa using h
 refine aa rfl ⟨_,(ng s an (j5 s)).2 rfl,?_⟩
 cases ha:j5 s with
 |false=>exact ai rfl ⟨_,_,_,_,_,_,bR p r8,⟨by simp,by trivial⟩⟩
 |true=>
 refine aa rfl ⟨_,(ng to an (j5 to)).2 rfl,?_⟩
 cases hb:j5 to with
 |false=>exact ai rfl ⟨_,_,_,_,_,_,bR p r8,⟨by simp,by trivial⟩⟩
 |true=>
 rw[aJ c7];refine aa rfl ?_
 by_cases hn:cj p.av s<0
 ·rw[gR an]
  exact ai (by simpa using hn) ⟨_,_,_,_,_,_,bR p r8,c7⟩
 ·obtain⟨v,hv,_⟩:=wU _ p.av (show ¬fe (fun v:Vol=>decide (v.name=s)) p.av 0<0 from hn)
  have hv:fE p.av (cj p.av s)=some v:=hv
  have hrow:rowAt (p.av.map cu) (cj p.av s)=some [iS v.name,iI v.cY,iI v.size,iB v.fx]:=by rw[aV,hv];rfl
  have Q9:=Av p.aL p.next v.cY;have amZ:Ds (p.av.modify (cj p.av s).toNat fun u=>{u with cY:=p.next}):=Ds.modify (f:=fun u:Vol=>{u with cY:=p.next}) (fun _=>rfl) _ (Pj hPO)
  have hml:(p.av.modify (cj p.av s).toNat fun u=>{u with cY:=p.next}).length≤4194304:=by rw[Re];omega
  have ha1:aA p.next 1=p.next+1:=aG an;have ha2:aA p.next 2=p.next+2:=aG an;have ZG:=hX v;rw[hv];refine aa (by simpa using hn) ⟨_,lX p to an,?_⟩;simp only[]
  by_cases h1:0≤cj p.av to
  ·rw[aJ h1]
   exact ai (by simpa using h1) ⟨_,_,_,_,_,_,bR p r8,c7⟩
  ·rw[aF h1]
   rw[ha1];refine aa rV ⟨_,_,_,_,_,_,bR p r8,_,_,_,_,hrow,_,_,yY p.aL p.next v.cY an,_,_,yY (iR p.aL p.next v.cY).1 (p.next+1) v.cY an,_,_,_,_,hrow,_,_,_,_,hrow,?_⟩
   (try dsimp only)
   rw[LJ,ha2];refine⟨_,AG _ ⟨to,p.next+1,v.size,fx⟩ an,?_⟩
   cases hq:(iR p.aL p.next v.cY).2 with
   |true=>exact ai rfl ⟨_,_,_,_,_,_,_,jI p (Nu p to (cj p.av s) v fx) _ r8 ZG,c7⟩
   |false=>exact aa rfl ⟨_,_,_,_,_,_,_,jI p (Nu p to (cj p.av s) v fx) _ r8 ZG,c7⟩
theorem mB (l:List Key) (hl:l.length≤1073741824):au C aW [dP l] (iu (dR l)) []:=by
 refine(J1 _ _ ?_).run;unfold dR
 by_cases h:l.length=0
 ·exact ai (by simp[h]) ⟨by rw[aJ h];rfl,rfl⟩
 ·refine aa (by rw[ct,pO,bF];exact fO an) ?_
  rw[show bT (l.map bP)=true from ni _,cT fj];exact⟨by rw[aF h];rfl,rfl⟩
theorem sq (l:List Key) (hl:l.length≤1073741824):au C ee [dP l] (iu (dR l)) []:=by
 refine(J5 _ _ ?_).run;unfold dR
 by_cases h:l.length=0
 ·exact ai (by simp[h]) ⟨by rw[aJ h];rfl,rfl⟩
 ·refine aa (by rw[ct,pO,bF];exact fO an) ?_
  exact⟨_,oU l an,⟨by rw[aF h];rfl,rfl⟩⟩
theorem Cb (n:List (List Key)) (k:Key) (hb:n.length≤1073740000) (hl:tot cg n≤1073740000):au C iG [iu n,uG k] (dP (dz n k)) []:=by
 have h1:=dy n;have h2:=tj (aU n) k;exact(TH _ _ _ _ _ _ _ ⟨_,(kN n an an _).2 rfl,_,vg (aU n) k an,_,K9 (iP (aU n) k) an,c7⟩).run
theorem PW (n:List (List Key)) (k:Key) (hb:n.length≤1073740000) (hl:tot cg n≤1073740000):au C FK [iu n,uG k] (tNB (c8 n k)) []:=by
 have hs: ∀s∈n,s.length≤1073741824:=fun s hm=>by have:=pX (w:=cg) hm;unfold cg at this hl;omega
 have IK:=xb n an hs;have hXl:=LO n k;have hXt:=LP n k
 have tail: ∀(X:List (List Key)) (Q:QV),X=mZ n k→Q (tNB (c8 n k)) []→ ∃(b18:Bool),au C cv ([TV.ag [TC.sub 1 (X.map cZ)]]) (TV.c (iB b18)) []∧(aq b18 (Q (TV.tu [(1,[TC.sub 1 (X.map cZ)]),(0,[iB true])]) ([])) (∃(l19:RR),au C iG ([TV.ag [TC.sub 1 (n.map cZ)],uG k]) (TV.c (TC.sub 5 l19)) []∧(∃(l20:RR),au C ee ([TV.c (TC.sub 5 l19)]) (TV.ag [TC.sub 1 l20]) []∧(aq (bG 8 (Int.ofNat (List.length l19))) (∃(l21:RR),au C bC ([TV.ag [TC.sub 1 (n.map cZ)]]) (TV.ag [TC.sub 1 l21]) []∧(Q (TV.tu [(1,[TC.sub 1 l21]),(0,[iB false])]) ([]))) (∃(b22:Bool),au C cv ([TV.ag [TC.sub 1 l20]]) (TV.c (iB b22)) []∧(aq (!b22) (∃(l23:RR),au C bC ([TV.ag [TC.sub 1 (n.map cZ)]]) (TV.ag [TC.sub 1 l23]) []∧(Q (TV.tu [(1,[TC.sub 1 l23]),(0,[iB false])]) ([]))) (Q (TV.tu [(1,[TC.sub 1 l20]),(0,[iB true])]) ([])))))))):=by
  intro X Q hX hQ;rw[←hX] at hXl hXt;have hok:au C cv [iu X] (vB (iQ X)) []:=yQ X an an;have hkl:=tU n k;have hnl:=BT (dz n k);have hnt:=BU (dz n k);have aoM:au C cv [iu (dR (dz n k))] (vB (iQ (dR (dz n k)))) []:=yQ _ an an;refine⟨_,hok,?_⟩;unfold c8 at hQ;rw[←hX] at hQ
  cases h1:iQ X with
  |true=>
   rw[aJ h1] at hQ;exact ai rfl hQ
  |false=>
   rw[aF (by rw[h1];simp)] at hQ;refine aa rfl ⟨_,Cb n k an an,_,sq (dz n k) an,?_⟩
   by_cases h2:8<(dz n k).length
   ·rw[aJ h2] at hQ
    exact ai rV ⟨_,IK,hQ⟩
   ·rw[aF h2] at hQ
    refine aa rV ⟨_,aoM,?_⟩
    cases h3:iQ (dR (dz n k)) with
    |true=>
     rw[aJ h3] at hQ;exact aa rfl hQ
    |false=>
     rw[aF (by rw[h3];simp)] at hQ;exact ai rfl ⟨_,IK,hQ⟩
 refine(WJ _ _ _ _ _ _ _ ⟨_,IK,?_⟩).run
 (try dsimp only)
 rw[ct]
 cases u7:n[n.length-1]? with
 |none=>
  have h0:n.length=0:=Classical.byContradiction fun h=>by rw[cw an] at u7;cases u7
  have hX:n++[[k]]=mZ n k:=by unfold mZ;rw[u7]
  refine aa (by rw[h0,dx dh];simp) ((ai (cT rV) ?_));rw[show List.append (n.map cZ) [[TC.sub 5 [[iI k.b,iI k.a,iI k.k,iI k.c,iI k.g]]]]=(n++[[k]]).map cZ from by simp[cZ,bP]];exact tail _ (fun r fs=>r=tNB (c8 n k)∧fs=[]) hX c7
 |some s=>
  have hlt:=(List.getElem?_eq_some_iff.1 u7).1
  have hsub:cV (Int.ofNat n.length) 1=((n.length-1:Nat):Int):=by rw[dx rV];simp;omega
  have hrow:rowAt (n.map cZ) ((n.length-1:Nat):Int)=some [TC.sub 5 (s.map bP)]:=by rw[aV,aI,u7];rfl
  have hsl:=hs s (iV u7);have DI:setRow (n.map cZ) ((n.length-1:Nat):Int) 0 [TC.sub 5 ((iP s k).map bP)]=(n.set (n.length-1) (iP s k)).map cZ:=LG (a:=s) (a':=iP s k) u7 rfl
  have aoN:List.append (n.map cZ) [[TC.sub 5 [[iI k.b,iI k.a,iI k.k,iI k.c,iI k.g]]]]=(n++[[k]]).map cZ:=by simp[cZ,bP]
  have hfit:fits (Nat.succ n.length) 24=true:=cT rV;rw[hsub];refine ai dh ⟨_,hrow,?_⟩
  have key: ∀Q:QV,Q (tNB (c8 n k)) []→ ∃(n8:Int) (n9:Int) (n10:Int) (n11:Int) (n12:Int) (b13:Bool),au C jc ([TV.c (TC.sub 5 (s.map bP)),TV.c (iI k.b),TV.c (iI k.a)]) (TV.tu [(1,[iI n8,iI n9,iI n10,iI n11,iI n12]),(0,[iB b13])]) []∧(aq b13 (∃(l14:RR),rowAt (n.map cZ) ((n.length-1:Nat):Int)=some [TC.sub 5 l14]∧(∃(l15:RR),au C eO ([TV.c (TC.sub 5 l14),uG k]) (TV.c (TC.sub 5 l15)) []∧(∃(l16:RR),rowAt (n.map cZ) ((n.length-1:Nat):Int)=some [TC.sub 5 l16]∧(∃(l17:RR),rowAt (n.map cZ) ((n.length-1:Nat):Int)=some [TC.sub 5 l17]∧(∃(b18:Bool),au C cv ([TV.ag [TC.sub 1 (setRow (n.map cZ) ((n.length-1:Nat):Int) 0 [TC.sub 5 l15])]]) (TV.c (iB b18)) []∧(aq b18 (Q (TV.tu [(1,[TC.sub 1 (setRow (n.map cZ) ((n.length-1:Nat):Int) 0 [TC.sub 5 l15])]),(0,[iB true])]) ([])) (∃(l19:RR),au C iG ([TV.ag [TC.sub 1 (n.map cZ)],uG k]) (TV.c (TC.sub 5 l19)) []∧(∃(l20:RR),au C ee ([TV.c (TC.sub 5 l19)]) (TV.ag [TC.sub 1 l20]) []∧(aq (bG 8 (Int.ofNat (List.length l19))) (∃(l21:RR),au C bC ([TV.ag [TC.sub 1 (n.map cZ)]]) (TV.ag [TC.sub 1 l21]) []∧(Q (TV.tu [(1,[TC.sub 1 l21]),(0,[iB false])]) ([]))) (∃(b22:Bool),au C cv ([TV.ag [TC.sub 1 l20]]) (TV.c (iB b22)) []∧(aq (!b22) (∃(l23:RR),au C bC ([TV.ag [TC.sub 1 (n.map cZ)]]) (TV.ag [TC.sub 1 l23]) []∧(Q (TV.tu [(1,[TC.sub 1 l23]),(0,[iB false])]) ([]))) (Q (TV.tu [(1,[TC.sub 1 l20]),(0,[iB true])]) ([])))))))))))))
   (∃(l24:RR),rowAt (n.map cZ) ((n.length-1:Nat):Int)=some [TC.sub 5 l24]∧(aq (bG (Int.ofNat (List.length l24)) 4) (∃(l25:RR),rowAt (n.map cZ) ((n.length-1:Nat):Int)=some [TC.sub 5 l25]∧(∃(l26:RR),au C eO ([TV.c (TC.sub 5 l25),uG k]) (TV.c (TC.sub 5 l26)) []∧(∃(l27:RR),rowAt (n.map cZ) ((n.length-1:Nat):Int)=some [TC.sub 5 l27]∧(∃(l28:RR),rowAt (n.map cZ) ((n.length-1:Nat):Int)=some [TC.sub 5 l28]∧(∃(b18:Bool),au C cv ([TV.ag [TC.sub 1 (setRow (n.map cZ) ((n.length-1:Nat):Int) 0 [TC.sub 5 l26])]]) (TV.c (iB b18)) []∧(aq b18 (Q (TV.tu [(1,[TC.sub 1 (setRow (n.map cZ) ((n.length-1:Nat):Int) 0 [TC.sub 5 l26])]),(0,[iB true])]) ([])) (∃(l19:RR),au C iG ([TV.ag [TC.sub 1 (n.map cZ)],uG k]) (TV.c (TC.sub 5 l19)) []∧(∃(l20:RR),au C ee ([TV.c (TC.sub 5 l19)]) (TV.ag [TC.sub 1 l20]) []∧(aq (bG 8 (Int.ofNat (List.length l19))) (∃(l21:RR),au C bC ([TV.ag [TC.sub 1 (n.map cZ)]]) (TV.ag [TC.sub 1 l21]) []∧(Q (TV.tu [(1,[TC.sub 1 l21]),(0,[iB false])]) ([]))) (∃(b22:Bool),au C cv ([TV.ag [TC.sub 1 l20]]) (TV.c (iB b22)) []∧(aq (!b22) (∃(l23:RR),au C bC ([TV.ag [TC.sub 1 (n.map cZ)]]) (TV.ag [TC.sub 1 l23]) []∧(Q (TV.tu [(1,[TC.sub 1 l23]),(0,[iB false])]) ([]))) (Q (TV.tu [(1,[TC.sub 1 l20]),(0,[iB true])]) ([]))))))))))))) (aq (fits (Nat.succ (List.length n)) 24) (∃(b18:Bool),au C cv ([TV.ag [TC.sub 1 (List.append (n.map cZ) [[TC.sub 5 [[iI k.b,iI k.a,iI k.k,iI k.c,iI k.g]]]])]]) (TV.c (iB b18)) []∧(aq b18 (Q (TV.tu [(1,[TC.sub 1 (List.append (n.map cZ) [[TC.sub 5 [[iI k.b,iI k.a,iI k.k,iI k.c,iI k.g]]]])]),(0,[iB true])]) ([])) (∃(l19:RR),au C iG ([TV.ag [TC.sub 1 (n.map cZ)],uG k]) (TV.c (TC.sub 5 l19)) []∧(∃(l20:RR),au C ee ([TV.c (TC.sub 5 l19)]) (TV.ag [TC.sub 1 l20]) []∧(aq (bG 8 (Int.ofNat (List.length l19))) (∃(l21:RR),au C bC ([TV.ag [TC.sub 1 (n.map cZ)]]) (TV.ag [TC.sub 1 l21]) []∧(Q (TV.tu [(1,[TC.sub 1 l21]),(0,[iB false])]) ([]))) (∃(b22:Bool),au C cv ([TV.ag [TC.sub 1 l20]]) (TV.c (iB b22)) []∧(aq (!b22) (∃(l23:RR),au C bC ([TV.ag [TC.sub 1 (n.map cZ)]]) (TV.ag [TC.sub 1 l23]) []∧(Q (TV.tu [(1,[TC.sub 1 l23]),(0,[iB false])]) ([]))) (Q (TV.tu [(1,[TC.sub 1 l20]),(0,[iB true])]) ([]))))))))) (False))))):=by
   intro Q hQ;refine⟨_,_,_,_,_,_,JK s k.b k.a hsl,?_⟩
   cases h1:(D3 s k.b k.a).2 with
   |true=>
    have hX:n.set (n.length-1) (iP s k)=mZ n k:=by unfold mZ LN;rw[u7];simp[h1]
    refine ai rfl ⟨_,hrow,_,vg s k hsl,_,hrow,_,hrow,?_⟩;rw[DI];exact tail _ _ hX hQ
   |false=>
    refine aa rfl ⟨_,hrow,?_⟩
    by_cases h2:s.length<4
    ·have hX:n.set (n.length-1) (iP s k)=mZ n k:=by unfold mZ LN;rw[u7];simp[h1,h2]
     refine ai rV ⟨_,hrow,_,vg s k hsl,_,hrow,_,hrow,?_⟩;rw[DI];exact tail _ _ hX hQ
    ·have hX:n++[[k]]=mZ n k:=by unfold mZ LN;rw[u7];simp[h1,h2]
     refine aa rV (ai hfit ?_);rw[aoN];exact tail _ _ hX hQ
  exact⟨(tNB (c8 n k),[]),key (fun a b=>(a,b)=(tNB (c8 n k),([]:List TV))) rfl,key (fun a b=>(a,b)=(tNB (c8 n k),([]:List TV))) rfl,⟨rfl,rfl⟩⟩
theorem PX (n:List (List Key)) (k:Key) (hb:n.length≤1073740000) (hl:tot cg n≤1073740000):au C FJ [iu n,uG k] (tNB (c8 n k)) []:=by
 have hs: ∀s∈n,s.length≤1073741824:=fun s hm=>by have:=pX (w:=cg) hm;unfold cg at this hl;omega
 have IK:=yW n an hs;have hXl:=LO n k;have hXt:=LP n k
 have tail: ∀(X:List (List Key)) (Q:QV),X=mZ n k→Q (tNB (c8 n k)) []→ ∃(b22:Bool),au C cC ([TV.ag [TC.sub 1 (X.map cZ)]]) (TV.c (iB b22)) []∧(aq b22 (Q (TV.tu [(1,[TC.sub 1 (X.map cZ)]),(0,[iB true])]) ([])) (∃(l23:RR),au C bw ([TV.ag [TC.sub 1 (n.map cZ)]]) (TV.c (TC.sub 5 l23)) []∧(∃(l24:RR),au C cD ([TV.c (TC.sub 5 l23),uG k]) (TV.c (TC.sub 5 l24)) []∧(∃(l25:RR),au C fm ([TV.c (TC.sub 5 l24)]) (TV.c (TC.sub 5 l25)) []∧(aq (bG 8 (Int.ofNat (List.length l25))) (∃(l26:RR),au C cm ([TV.ag [TC.sub 1 (n.map cZ)]]) (TV.ag [TC.sub 1 l26]) []∧(Q (TV.tu [(1,[TC.sub 1 l26]),(0,[iB false])]) ([]))) (∃(l27:RR),au C aW ([TV.c (TC.sub 5 l25)]) (TV.ag [TC.sub 1 l27]) []∧(∃(b28:Bool),au C cC ([TV.ag [TC.sub 1 l27]]) (TV.c (iB b28)) []∧(aq (!b28) (∃(l29:RR),au C cm ([TV.ag [TC.sub 1 (n.map cZ)]]) (TV.ag [TC.sub 1 l29]) []∧(Q (TV.tu [(1,[TC.sub 1 l29]),(0,[iB false])]) ([]))) (∃(l30:RR),au C aW ([TV.c (TC.sub 5 l25)]) (TV.ag [TC.sub 1 l30]) []∧(Q (TV.tu [(1,[TC.sub 1 l30]),(0,[iB true])]) ([]))))))))))):=by
  intro X Q hX hQ;rw[←hX] at hXl hXt;have hok:au C cC [iu X] (vB (iQ X)) []:=yO X an an;have hkl:=tU n k;have hnl:=BT (dz n k);have hnt:=BU (dz n k);have aoM:au C cC [iu (dR (dz n k))] (vB (iQ (dR (dz n k)))) []:=yO _ an an;refine⟨_,hok,?_⟩;unfold c8 at hQ;rw[←hX] at hQ
  cases h1:iQ X with
  |true=>
   rw[aJ h1] at hQ;exact ai rfl hQ
  |false=>
   rw[aF (by rw[h1];simp)] at hQ;have g1:=dy n;have g2:=tj (aU n) k;refine aa rfl ⟨_,(gu n an an _).2 rfl,_,qZ (aU n) k an,_,DD (iP (aU n) k) an,?_⟩;change aq (bG 8 (Int.ofNat (List.length ((dz n k).map bP)))) _ _
   by_cases h2:8<(dz n k).length
   ·rw[aJ h2] at hQ
    exact ai rV ⟨_,IK,hQ⟩
   ·rw[aF h2] at hQ
    refine aa rV ⟨_,mB (dz n k) an,_,aoM,?_⟩
    cases h3:iQ (dR (dz n k)) with
    |true=>
     rw[aJ h3] at hQ;exact aa rfl ⟨_,mB (dz n k) an,hQ⟩
    |false=>
     rw[aF (by rw[h3];simp)] at hQ;exact ai rfl ⟨_,IK,hQ⟩
 refine(WV _ _ _ _ _ _ _ ⟨_,IK,?_⟩).run
 (try dsimp only)
 rw[ct]
 cases u7:n[n.length-1]? with
 |none=>
  have h0:n.length=0:=Classical.byContradiction fun h=>by rw[cw an] at u7;cases u7
  have hX:n++[[k]]=mZ n k:=by unfold mZ;rw[u7]
  refine aa (by rw[h0,dx dh];simp) (aa (by rw[h0,dx dh];simp) (ai (cT rV) ?_));rw[show List.append (n.map cZ) [[TC.sub 5 [[iI k.b,iI k.a,iI k.k,iI k.c,iI k.g]]]]=(n++[[k]]).map cZ from by simp[cZ,bP]];exact tail _ (fun r fs=>r=tNB (c8 n k)∧fs=[]) hX c7
 |some s=>
  have hlt:=(List.getElem?_eq_some_iff.1 u7).1
  have hsub:cV (Int.ofNat n.length) 1=((n.length-1:Nat):Int):=by rw[dx rV];simp;omega
  have hrow:rowAt (n.map cZ) ((n.length-1:Nat):Int)=some [TC.sub 5 (s.map bP)]:=by rw[aV,aI,u7];rfl
  have hsl:=hs s (iV u7);have DI:setRow (n.map cZ) ((n.length-1:Nat):Int) 0 [TC.sub 5 ((iP s k).map bP)]=(n.set (n.length-1) (iP s k)).map cZ:=LG (a:=s) (a':=iP s k) u7 rfl
  have aoN:List.append (n.map cZ) [[TC.sub 5 [[iI k.b,iI k.a,iI k.k,iI k.c,iI k.g]]]]=(n++[[k]]).map cZ:=by simp[cZ,bP]
  have hfit:fits (Nat.succ n.length) 24=true:=cT rV;rw[hsub];refine ai dh ⟨_,hrow,_,hrow,_,_,_,_,_,_,JJ s k.b k.a hsl,ai dh ⟨_,hrow,_,hrow,?_⟩⟩
  by_cases h2:s.length<4
  ·have hX:n.set (n.length-1) (iP s k)=mZ n k:=by unfold mZ LN;rw[u7];simp[h2]
   refine ai rV ⟨_,hrow,_,hrow,_,qZ s k hsl,_,hrow,_,hrow,?_⟩;rw[DI];exact tail _ (fun r fs=>r=tNB (c8 n k)∧fs=[]) hX c7
  ·refine aa rV ?_
   cases h1:(D3 s k.b k.a).2 with
   |true=>
    have hX:n.set (n.length-1) (iP s k)=mZ n k:=by unfold mZ LN;rw[u7];simp[h1]
    refine ai rfl ⟨_,hrow,_,hrow,_,qZ s k hsl,_,hrow,_,hrow,?_⟩;rw[DI];exact tail _ (fun r fs=>r=tNB (c8 n k)∧fs=[]) hX c7
   |false=>
    have hX:n++[[k]]=mZ n k:=by unfold mZ LN;rw[u7];simp[h1,h2]
    refine aa rfl (ai hfit ?_);rw[aoN];exact tail _ (fun r fs=>r=tNB (c8 n k)∧fs=[]) hX c7
theorem AI (t:Tree) (i:Nat) (lw:List Int) (nd:List (List (List Key))) (h1:i+1≤t.aD.length) (h2:i+1≤t.nodes.length) (hl:t.aD.length≤1073741824) (hn:t.nodes.length≤1073741824) (hlw:lw.length≤1073741824) (hnd:nd.length≤1073741824):au C dV [ef t,vI (i:Int),oD lw,As nd] (ef (oG t i 1 lw nd)) []:=by
 have e1:aE (t.aD.map bS) 0 (i:Int)=(t.aD.take i).map bS:=by rw[cO];rfl
 have e2:aE (t.aD.map bS) ((i:Int)+1) (Int.ofNat (t.aD.map bS).length)=(t.aD.drop (i+1)).map bS:=by
  rw[cO,ct,show((i:Int)+1).toNat=i+1 from by omega,show(Int.ofNat t.aD.length).toNat=t.aD.length from rfl,we]
 have e3:aE (t.nodes.map aR) 0 (i:Int)=(t.nodes.take i).map aR:=by rw[cO];rfl
 have ea:aA (i:Int) 1=(i:Int)+1:=aG an
 have k1:(t.aD.take i).length≤t.aD.length:=by rw[fu];omega
 have k2:(t.aD.drop (i+1)).length≤t.aD.length:=by rw[jd];omega
 have k3:(t.nodes.take i).length≤t.nodes.length:=by rw[fu];omega
 have k4:(t.nodes.drop (i+1)).length≤t.nodes.length:=by rw[jd];omega
 have e4:aE (t.nodes.map aR) ((i:Int)+1) (Int.ofNat (t.nodes.map aR).length)=(t.nodes.drop (i+1)).map aR:=by
  rw[cO,ct,show((i:Int)+1).toNat=i+1 from by omega,show(Int.ofNat t.nodes.length).toNat=t.nodes.length from rfl,we]
 refine(abW _ _ _ _ _ _ ?_).run;rw[ea,e1,e2,e3,e4,nI,nI,nI,nI]
 refine ai rV (ai rV (ai (by rw[nY,cT rV];rfl) (ai (by rw[nY,cT (by simp only[ct,wH];omega)];rfl) (ai (by rw[nY,cT (by simp only[ct,cM,wH];omega)];rfl)
  (ai rV (ai rV (ai (cT rV) (ai (cT (by simp only[ct,wH];omega)) (ai (cT (by simp only[ct,cM,wH];omega)) ?_)))))))))
 exact c7
attribute [local semireducible] kV aE in
theorem aho {rows:RR} {i c:Nat} (hk:i+c≤rows.length):aE (kV 1 rows 0 (i:Int)) ((i:Int)+(c:Int)) (Int.ofNat rows.length)=rows.drop (i+c):=by
 unfold aE kV;rw[mT,show((i:Int)+(c:Int)).toNat=i+c from by omega,show(0:Int).toNat=0 from rfl,show(Int.ofNat rows.length).toNat=rows.length from rfl,List.take_zero,xy,Nat.sub_zero];rw[MO rV,List.drop_append,List.length_replicate,Rc dh,xy,List.drop_drop]
 congr 1;omega
theorem xe (t:Tree) (i c:Nat) (lw:List Int) (nd:List (List (List Key))) (h1:i+c≤t.aD.length) (h2:i+c≤t.nodes.length) (hl:t.aD.length≤1073741824) (hn:t.nodes.length≤1073741824) (hlw:lw.length≤1073741824) (hnd:nd.length≤1073741824):au C lN [ef t,vI (i:Int),vI (c:Int),oD lw,As nd] (ef (oG t i c lw nd)) []:=by
 have e1:aE (t.aD.map bS) 0 (i:Int)=(t.aD.take i).map bS:=by rw[cO];rfl
 have e2:aE (t.aD.map bS) ((i:Int)+(c:Int)) (Int.ofNat (t.aD.map bS).length)=(t.aD.drop (i+c)).map bS:=by
  rw[cO,ct,show((i:Int)+(c:Int)).toNat=i+c from by omega,show(Int.ofNat t.aD.length).toNat=t.aD.length from rfl,we]
 have e3:aE (t.nodes.map aR) 0 (i:Int)=(t.nodes.take i).map aR:=by rw[cO];rfl
 have ea:aA (i:Int) (c:Int)=(i:Int)+(c:Int):=aG an
 have k1:(t.aD.take i).length≤t.aD.length:=by rw[fu];omega
 have k2:(t.aD.drop (i+c)).length≤t.aD.length:=by rw[jd];omega
 have k3:(t.nodes.take i).length≤t.nodes.length:=by rw[fu];omega
 have k4:(t.nodes.drop (i+c)).length≤t.nodes.length:=by rw[jd];omega
 have e4:aE (kV 1 (t.nodes.map aR) 0 (i:Int)) ((i:Int)+(c:Int)) (Int.ofNat (t.nodes.map aR).length)=(t.nodes.drop (i+c)).map aR:=by
  rw[aho (by rw[ct];exact h2),DN]
 refine(Uh _ _ _ _ _ _ _ ?_).run;rw[ea,e1,e2,e3,e4];refine ai rV ⟨_,Ca (t.aD.take i) an,?_⟩
 (try dsimp only)
 rw[nI,nI,nI,nI]
 refine ai rV (ai (by rw[nY,cT (by simp only[ct,wH];omega)];rfl) (ai (by rw[nY,cT (by simp only[ct,cM,wH];omega)];rfl)
  (ai rV (ai rV (ai (cT rV) (ai (cT (by simp only[ct,wH];omega)) (ai (cT (by simp only[ct,cM,wH];omega)) ?_)))))))
 exact c7
def aau:Option Nat→Int
 |some i=>i
 |none=> -1
theorem y5 (t:Tree) (hn:t.nodes.length≤1073741824) (hz:tot aO t.nodes≤1073740000):au C jV [ef t] (vI (aau (uH t))) []:=by
 refine(ZA _ _ _ ?_).run
 have key: ∀(d i:Nat),i+d=t.nodes.length→yu t d i=uH t→ah C jV aj 4 0 (vD (i:Int) (t.aD.map bS) (t.nodes.map aR)) (fun x st=>ax C jV aj x st fun r fs=>r=vI (aau (uH t))∧fs=[]):=by
  intro d
  induction d with
  |zero=>
   intro i h he;have ea:aA (i:Int) 1=(i:Int)+1:=aG an;refine Ix _ _ _ _ ?_;rw[ea];exact aa rV (Iy _ _ _ _ _ ⟨by rw[←he];rfl,rfl⟩)
  |succ d ih=>
   intro i h he;have ea:aA (i:Int) 1=(i:Int)+1:=aG an
   have ec:(i:Int)+1=((i+1:Nat):Int):=by omega
   unfold yu at he;refine Ix _ _ _ _ ?_;rw[ea,ec]
   by_cases h1:i+1<t.nodes.length
   ·rw[aJ h1] at he
    obtain⟨a,ha⟩: ∃a,t.nodes[i]?=some a:=⟨_,cw an⟩;obtain⟨b,hb⟩: ∃b,t.nodes[i+1]?=some b:=⟨_,cw h1⟩;have za:a.length+tot cg a≤tot aO t.nodes:=oF (w:=aO) ha;have zb:b.length+tot cg b≤tot aO t.nodes:=oF (w:=aO) hb
    have ka:lV t i=aU a:=by unfold lV;rw[wG,ha];rfl
    have kb:lV t (i+1)=aU b:=by unfold lV;rw[wG,hb];rfl
    have la:=dy a;have lb:=dy b;rw[ka,kb] at he;refine ai rV ⟨_,by rw[aV,aI,ha];rfl,_,by rw[aV,aI,hb];rfl,_,(gu a an an _).2 rfl,_,(gu b an an _).2 rfl,?_⟩
    (try dsimp only)
    rw[ct,ct,show aA (Int.ofNat (aU a).length) (Int.ofNat (aU b).length)=((aU a).length:Int)+(aU b).length from aG rV]
    by_cases h2:(aU a).length+(aU b).length≤6
    ·rw[aJ h2] at he
     exact ai rV (Uo _ _ _ _ _ _ ⟨by rw[←he];rfl,rfl⟩)
    ·rw[aF h2] at he
     exact aa rV (ih (i+1) an he)
   ·rw[aF h1] at he
    exact aa rV (Iy _ _ _ _ _ ⟨by rw[←he];rfl,rfl⟩)
 exact key t.nodes.length 0 an rfl
theorem Sd (t0:Tree) (hw0:t0.aD.length=t0.nodes.length) (UQ:tot aO t0.nodes+t0.nodes.length≤1073700000):au C bE [ef t0] (ef (oH t0.nodes.length t0)) []:=by
 refine(YL _ _ _ ⟨_,y5 t0 an an,?_⟩).run
 have key: ∀(m:Nat) (t:Tree),t.nodes.length=m→t.aD.length=t.nodes.length→tot aO t.nodes+t.nodes.length≤1073700000→oH m t=oH t0.nodes.length t0→ah C bE aj 4 0 (rB (aau (uH t)) (t.aD.map bS) (t.nodes.map aR)) (fun x st=>ax C bE aj x st fun r fs=>r=ef (oH t0.nodes.length t0)∧fs=[]):=by
  intro m
  induction m with
  |zero=>
   intro t hm hw hz he
   have hp:uH t=none:=by unfold uH;rw[hm];rfl
   rw[hp];exact zc _ _ _ _ (aa (by simp[aau]) (HR _ _ _ _ _ ⟨by rw[←he];rfl,rfl⟩))
  |succ m ih=>
   intro t hm hw hz he;rw[xT] at he
   cases hp:uH t with
   |none=>
    rw[hp] at he;have he:t=oH t0.nodes.length t0:=he;exact zc _ _ _ _ (aa (by simp[aau]) (HR _ _ _ _ _ ⟨by rw[←he],rfl⟩))
   |some i=>
   rw[hp] at he;have he:oH m (dX t i)=oH t0.nodes.length t0:=he;have hlt:=xS hp;show ah C bE aj 4 0 (rB (i:Int) (t.aD.map bS) (t.nodes.map aR)) _;obtain⟨a,ha⟩: ∃a,t.nodes[i]?=some a:=⟨_,cw an⟩;obtain⟨b,hb⟩: ∃b,t.nodes[i+1]?=some b:=⟨_,cw hlt.1⟩;have za:a.length+tot cg a≤tot aO t.nodes:=oF (w:=aO) ha;have zb:b.length+tot cg b≤tot aO t.nodes:=oF (w:=aO) hb;have la:=dy a;have lb:=dy b;have h6:=hlt.2;rw[kC ha,kC hb] at h6
   have ea:aA (i:Int) 1=((i+1:Nat):Int):=by rw[aG an];omega
   have eb:aA (i:Int) 2=((i+2:Nat):Int):=by rw[aG an];omega
   have ra:rowAt (t.nodes.map aR) (i:Int)=some [TC.sub 1 (a.map cZ)]:=by rw[aV,aI,ha];rfl
   have rb:rowAt (t.nodes.map aR) ((i+1:Nat):Int)=some [TC.sub 1 (b.map cZ)]:=by rw[aV,aI,hb];rfl
   have c1:aE (t.aD.map bS) 0 ((i+1:Nat):Int)=(t.aD.take (i+1)).map bS:=by rw[cO];rfl
   have c2:aE (t.aD.map bS) ((i+2:Nat):Int) (Int.ofNat (t.aD.map bS).length)=(t.aD.drop (i+2)).map bS:=by
    rw[cO,ct,mT,show(Int.ofNat t.aD.length).toNat=t.aD.length from rfl,we]
   have c3:aE (t.nodes.map aR) 0 (i:Int)=(t.nodes.take i).map aR:=by rw[cO];rfl
   have c4:aE (t.nodes.map aR) ((i+2:Nat):Int) (Int.ofNat (t.nodes.map aR).length)=(t.nodes.drop (i+2)).map aR:=by
    rw[cO,ct,mT,show(Int.ofNat t.nodes.length).toNat=t.nodes.length from rfl,we]
   have hlo:i<t.aD.length:=by omega
   have eL:List.append ((t.aD.take (i+1)).map bS) ((t.aD.drop (i+2)).map bS)=(dX t i).aD.map bS:=by
    rw[nI];unfold dX oG;simp only[];rw[List.take_add_one,wG,cw hlo];simp
   have eN:List.append (List.append ((t.nodes.take i).map aR) [[TC.sub 1 ((dR (aU a++aU b)).map cZ)]]) ((t.nodes.drop (i+2)).map aR)=(dX t i).nodes.map aR:=by
    rw[Nq,nI];unfold dX oG;simp only[];rw[kC ha,kC hb]
   have hsz:=BZ hlt.1;have hjl:=zL hlt.1
   have hjw:(dX t i).aD.length+1=t.aD.length:=by
    have:=FB t i 2 [t.aD.getD i 0] [dR (lV t i++lV t (i+1))] an;unfold dX;simp only[gX] at this;omega
   have k1:(t.aD.take (i+1)).length≤t.aD.length:=by rw[fu];omega
   have k2:(t.aD.drop (i+2)).length≤t.aD.length:=by rw[jd];omega
   have k3:(t.nodes.take i).length≤t.nodes.length:=by rw[fu];omega
   have k4:(t.nodes.drop (i+2)).length≤t.nodes.length:=by rw[jd];omega
   refine zc _ _ _ _ (ai dh ?_);rw[ea,eb];refine⟨_,ra,_,ra,_,rb,_,rb,_,(gu a an an _).2 rfl,_,(gu b an an _).2 rfl,?_⟩
   (try dsimp only)
   rw[nI,c1,c2,c3,c4]
   refine ai (by rw[ni,cT (by simp only[ct,wH];omega)];rfl) (ai rV (ai rV (ai (by rw[nY,cT (by simp only[ct,wH];omega)];rfl) (ai (by rw[nY,cT (by simp only[ct,wH];omega)];rfl)
    (ai rV (ai rV (ai (cT (by simp only[ct,wH];omega)) ⟨_,mB (aU a++aU b) (by rw[cM];omega),ai (cT (by simp only[ct,Nat.succ_eq_add_one];omega)) ?_⟩)))))))
   rw[eL,eN];refine ai (cT (by rw[Nq];simp only[ct,cM,gX,wH];omega)) ⟨_,y5 (dX t i) an an,?_⟩;exact ih (dX t i) an an an he
 cases hp:uH t0 with
 |none=>
  have hj:oH t0.nodes.length t0=t0:=by
   cases hm:t0.nodes.length with
   |zero=>rfl
   |succ m=>rw[xT,hp]
  exact HQ _ _ _ _ (aa (by simp[aau]) (Tb _ _ _ _ _ ⟨by rw[hj],rfl⟩))
 |some i=>
  have hlt:=xS hp;obtain⟨t,ht⟩: ∃t,t=t0:=⟨_,rfl⟩;rw[←ht] at hlt hw0 UQ hp ⊢;show ah C bE aj 4 0 (y8 (i:Int) (t.aD.map bS) (t.nodes.map aR)) _;obtain⟨a,ha⟩: ∃a,t.nodes[i]?=some a:=⟨_,cw an⟩;obtain⟨b,hb⟩: ∃b,t.nodes[i+1]?=some b:=⟨_,cw hlt.1⟩;have za:a.length+tot cg a≤tot aO t.nodes:=oF (w:=aO) ha;have zb:b.length+tot cg b≤tot aO t.nodes:=oF (w:=aO) hb;have la:=dy a;have lb:=dy b;have h6:=hlt.2;rw[kC ha,kC hb] at h6
  have ea:aA (i:Int) 1=((i+1:Nat):Int):=by rw[aG an];omega
  have eb:aA (i:Int) 2=((i+2:Nat):Int):=by rw[aG an];omega
  have ra:rowAt (t.nodes.map aR) (i:Int)=some [TC.sub 1 (a.map cZ)]:=by rw[aV,aI,ha];rfl
  have rb:rowAt (t.nodes.map aR) ((i+1:Nat):Int)=some [TC.sub 1 (b.map cZ)]:=by rw[aV,aI,hb];rfl
  have c1:aE (t.aD.map bS) 0 ((i+1:Nat):Int)=(t.aD.take (i+1)).map bS:=by rw[cO];rfl
  have c2:aE (t.aD.map bS) ((i+2:Nat):Int) (Int.ofNat (t.aD.map bS).length)=(t.aD.drop (i+2)).map bS:=by
   rw[cO,ct,mT,show(Int.ofNat t.aD.length).toNat=t.aD.length from rfl,we]
  have c3:aE (t.nodes.map aR) 0 (i:Int)=(t.nodes.take i).map aR:=by rw[cO];rfl
  have c4:aE (t.nodes.map aR) ((i+2:Nat):Int) (Int.ofNat (t.nodes.map aR).length)=(t.nodes.drop (i+2)).map aR:=by
   rw[cO,ct,mT,show(Int.ofNat t.nodes.length).toNat=t.nodes.length from rfl,we]
  have hlo:i<t.aD.length:=by omega
  have eL:List.append ((t.aD.take (i+1)).map bS) ((t.aD.drop (i+2)).map bS)=(dX t i).aD.map bS:=by
   rw[nI];unfold dX oG;simp only[];rw[List.take_add_one,wG,cw hlo];simp
  have eN:List.append (List.append ((t.nodes.take i).map aR) [[TC.sub 1 ((dR (aU a++aU b)).map cZ)]]) ((t.nodes.drop (i+2)).map aR)=(dX t i).nodes.map aR:=by
   rw[Nq,nI];unfold dX oG;simp only[];rw[kC ha,kC hb]
  have hsz:=BZ hlt.1;have hjl:=zL hlt.1
  have hjw:(dX t i).aD.length+1=t.aD.length:=by
   have:=FB t i 2 [t.aD.getD i 0] [dR (lV t i++lV t (i+1))] an;unfold dX;simp only[gX] at this;omega
  have k1:(t.aD.take (i+1)).length≤t.aD.length:=by rw[fu];omega
  have k2:(t.aD.drop (i+2)).length≤t.aD.length:=by rw[jd];omega
  have k3:(t.nodes.take i).length≤t.nodes.length:=by rw[fu];omega
  have k4:(t.nodes.drop (i+2)).length≤t.nodes.length:=by rw[jd];omega
  refine HQ _ _ _ _ (ai dh ?_);rw[ea,eb];refine⟨_,ra,_,rb,_,(gu a an an _).2 rfl,_,(gu b an an _).2 rfl,?_⟩
  (try dsimp only)
  rw[nI,c1,c2,c3,c4]
  refine ai (by rw[ni,cT (by simp only[ct,wH];omega)];rfl) (ai rV (ai rV (ai (by rw[nY,cT (by simp only[ct,wH];omega)];rfl) (ai (by rw[nY,cT (by simp only[ct,wH];omega)];rfl)
   (ai rV (ai rV (ai (cT (by simp only[ct,wH];omega)) ⟨_,mB (aU a++aU b) (by rw[cM];omega),ai (cT (by simp only[ct,Nat.succ_eq_add_one];omega)) ?_⟩)))))))
  rw[eL,eN];refine ai (cT (by rw[Nq];simp only[ct,cM,gX,wH];omega)) ⟨_,y5 (dX t i) an an,?_⟩;refine ht▸key (dX t i).nodes.length (dX t i) rfl an an ?_;rw[←ht]
  have:t.nodes.length=(dX t i).nodes.length+1:=by omega
  rw[this];rw[xT,hp]
theorem RH (t u:Tree) (hw:t.aD.length=t.nodes.length) (hz:tot aO t.nodes+t.nodes.length≤1073700000) (E:uH t=none→t=u)
 (N: ∀i,uH t=some i→ah C fh aj 4 0 (mN ((0:Nat):Int) ((dX t i).aD.map bS) ((dX t i).nodes.map aR)) (fun x st=>ax C fh aj x st fun r fs=>r=ef u∧fs=[])):
 ∀d i,i+d=t.nodes.length→yu t d i=uH t→ah C fh aj 4 0 (mN (i:Int) (t.aD.map bS) (t.nodes.map aR)) (fun x st=>ax C fh aj x st fun r fs=>r=ef u∧fs=[]):=by
 intro d
 induction d with
 |zero=>
  intro i h he;have ea:aA (i:Int) 1=(i:Int)+1:=aG an;refine H9 _ _ _ _ ?_;rw[ea];exact aa rV (Ia _ _ _ _ _ ⟨by rw[E (by rw[←he];rfl)],rfl⟩)
 |succ d ih=>
  intro i h he;have ea:aA (i:Int) 1=(i:Int)+1:=aG an
  have ec:(i:Int)+1=((i+1:Nat):Int):=by omega
  unfold yu at he;refine H9 _ _ _ _ ?_;rw[ea,ec]
  by_cases h1:i+1<t.nodes.length
  ·rw[aJ h1] at he
   obtain⟨a,ha⟩: ∃a,t.nodes[i]?=some a:=⟨_,cw an⟩;obtain⟨b,hb⟩: ∃b,t.nodes[i+1]?=some b:=⟨_,cw h1⟩;have za:a.length+tot cg a≤tot aO t.nodes:=oF (w:=aO) ha;have zb:b.length+tot cg b≤tot aO t.nodes:=oF (w:=aO) hb;have la:=dy a;have lb:=dy b;rw[kC ha,kC hb] at he
   have ra:rowAt (t.nodes.map aR) (i:Int)=some [TC.sub 1 (a.map cZ)]:=by rw[aV,aI,ha];rfl
   have rb:rowAt (t.nodes.map aR) ((i+1:Nat):Int)=some [TC.sub 1 (b.map cZ)]:=by rw[aV,aI,hb];rfl
   refine ai rV ⟨_,ra,_,ra,_,rb,_,rb,_,(kN a an an _).2 rfl,_,(kN b an an _).2 rfl,ai (by rw[ni,cT (by simp only[ct,wH];omega)];rfl) ?_⟩
   (try dsimp only)
   rw[nI]
   by_cases h2:(aU a).length+(aU b).length≤6
   ·rw[aJ h2] at he
    have hlo:i<t.aD.length:=by omega
    have hlw:rowAt (t.aD.map bS) (i:Int)=some [iI (t.aD.getD i 0)]:=by
     rw[aV,aI,wG,cw hlo];rfl
    have hnn:=sq (aU a++aU b) (by rw[cM];omega);have hrp:=xe t i 2 [t.aD.getD i 0] [dR (aU a++aU b)] an an an an dh dh
    have ej:oG t i 2 [t.aD.getD i 0] [dR (aU a++aU b)]=dX t i:=by unfold dX;rw[kC ha,kC hb]
    rw[ej] at hrp;have hN:=N i he.symm;rw[←show aA (-1) 1=((0:Nat):Int) from by rw[aG an];rfl] at hN;exact ai (by simp[gy]<;>omega) ⟨_,hlw,_,hlw,_,hnn,_,_,hrp,⟨_,hnn,_,_,hrp,⟨_,_,hrp,rfl⟩,rfl⟩,hN⟩
   ·rw[aF h2] at he
    exact aa (by simp[gy]<;>omega) (ih (i+1) an he)
  ·rw[aF h1] at he
   exact aa rV (Ia _ _ _ _ _ ⟨by rw[E he.symm],rfl⟩)
theorem Se (t0:Tree) (hw0:t0.aD.length=t0.nodes.length) (UQ:tot aO t0.nodes+t0.nodes.length≤1073700000):au C fh [ef t0] (ef (oH t0.nodes.length t0)) []:=by
 refine(Y5 _ _ _ ?_).run
 have key: ∀(m:Nat) (t:Tree),t.nodes.length=m→t.aD.length=t.nodes.length→tot aO t.nodes+t.nodes.length≤1073700000→ah C fh aj 4 0 (mN ((0:Nat):Int) (t.aD.map bS) (t.nodes.map aR)) (fun x st=>ax C fh aj x st fun r fs=>r=ef (oH m t)∧fs=[]):=by
  intro m
  induction m with
  |zero=>
   intro t hm hw hz;exact RH t (oH 0 t) hw hz (fun _=>rfl) (fun i hi=>by have:=(xS hi).1;omega) t.nodes.length 0 an rfl
  |succ m ih=>
   intro t hm hw hz;refine RH t (oH (m+1) t) hw hz (fun h=>(afb h).symm) (fun i hi=> ?_) t.nodes.length 0 an rfl;have h1:=zL (xS hi).1;have h2:=BZ (xS hi).1;have:=ih (dX t i) an (K6 (xS hi).1 hw) an;rw[xT,hi];exact this
 exact key t0.nodes.length t0 rfl hw0 UQ
theorem afp {t:Tree} {i:Nat} {n:List (List Key)} (h1:i<t.aD.length) (h2:i<t.nodes.length):oG t i 1 [t.aD.getD i 0] [n]=⟨t.aD,t.nodes.set i n⟩:=by
 unfold oG;rw[List.set_eq_take_append_cons_drop,aJ h2,wG,cw h1]
 have e:t.aD.take i++[t.aD[i]]++t.aD.drop (i+1)=t.aD:=by
  rw[Ac,List.singleton_append,←KT h1,MN]
 simp only[Option.getD_some,e,Ac,List.singleton_append]
theorem apy {n:Nat} (h:n≤1073741824):jm .i64 (aA (Int.ofNat n) 1) 2=(((n+1)/2:Nat):Int):=by
 rw[aG fj];unfold jm;rw[Int.tdiv_eq_ediv_of_nonneg fj,show IntKind.wrap .i64 ((Int.ofNat n+1)/2)=(Int.ofNat n+1)/2 from IntWalk.i64_in _ fj];simp
theorem tW (t:Tree) (k:Key) (hz:cN t≤4194304):au C tV [ef t,uG k] (E1 (bB t k)) []:=by
 have hN:=wC hz;have IK:au C bX [ef t] (ef t) []:=xd t hN.1 hN.2;refine(WR _ _ _ _ _ _ _ _ ⟨_,yT t an,?_⟩).run
 cases h1:gU t with
 |false=>exact ai rfl ⟨_,_,IK,⟨by unfold bB;rw[aF (by rw[h1];simp)],rfl⟩⟩
 |true=>
 refine aa rfl ⟨_,(NA _ _ _ _ _ _).2 rfl,?_⟩;change aq (!j8 k) _ _
 cases h2:j8 k with
 |false=>exact ai rfl ⟨_,_,IK,⟨by unfold bB;rw[aF (by rw[h2];simp)],rfl⟩⟩
 |true=>
 obtain⟨i,hi,hil⟩:=VS h1 h2;have hlen:=vR h1
 have hw:au C iT [ef t,vI k.b,vI k.a] (vI (i:Int)) []:=by rw[←hi];exact D9 t k.b k.a an
 have hrow:rowAt (t.nodes.map aR) (i:Int)=some [TC.sub 1 (t.nodes[i].map cZ)]:=by rw[aV,aI,cw hil];rfl
 have ab7:rowAt (t.aD.map bS) (i:Int)=some [iI (t.aD.getD i 0)]:=by
  rw[aV,aI,wG,cw an];rfl
 have hg:t.nodes.getD i []=t.nodes[i]:=by rw[wG,cw hil];rfl
 have hok:=BV h1 (DM hil);have hsz:=KA hok;have hps:=Jj t.nodes[i] k;have hpt:=Jk t.nodes[i] k;have hkl:=tU t.nodes[i] k;have hnk:=dy t.nodes[i];obtain⟨hp1,hp2,hp3⟩:=adA (k:=k) h1 hil
 have hR:bB t k=if gU (oH (nV t i k).nodes.length (nV t i k))=true then(oH (nV t i k).nodes.length (nV t i k),true) else(t,false):=by
  unfold bB;rw[aJ ⟨h1,h2⟩,hi,mT]
 have fin: ∀Q:QV,Q (E1 (bB t k)) []→ ∃(l39 l40:RR),au C fh [ef (nV t i k)] (.ag [.sub 1 l39,.sub 1 l40]) []∧(∃b:Bool,au C cU [.ag [.sub 1 l39,.sub 1 l40]] (vB b) []∧(aq (!b) (∃(l42 l43:RR),au C bX [ef t] (.ag [.sub 1 l42,.sub 1 l43]) []∧Q (.tu [(1,[.sub 1 l42,.sub 1 l43]),(0,[iB false])]) []) (Q (.tu [(1,[.sub 1 l39,.sub 1 l40]),(0,[iB true])]) []))):=by
  intro Q hQ;refine⟨_,_,Se (nV t i k) hp2 an,_,yT _ an,?_⟩;rw[hR] at hQ
  cases h3:gU (oH (nV t i k).nodes.length (nV t i k)) with
  |true=>rw[aJ h3] at hQ;exact aa rfl hQ
  |false=>rw[aF (by rw[h3];simp)] at hQ;exact ai rfl ⟨_,_,IK,hQ⟩
 have np:=PW t.nodes[i] k an an;refine aa rfl ⟨_,hw,_,_,IK,_,hrow,_,hrow,?_⟩
 cases hp:(c8 t.nodes[i] k).2 with
 |false=>
  have hno:=(VO hok h2 hp).1
  have cno:(!(c8 t.nodes[i] k).2)=true:=by rw[hp];rfl
  obtain⟨ks,hks⟩: ∃ks,ks=dz t.nodes[i] k:=⟨_,rfl⟩;rw[←hks] at hno hkl;have hh:=agl hno;obtain⟨h,hhe⟩: ∃h,h=(ks.length+1)/2:=⟨_,rfl⟩
  have hq:jm .i64 (aA (Int.ofNat (List.length (ks.map bP))) 1) 2=(h:Int):=by rw[ct,apy an,hhe]
  have hkk:rowAt (ks.map bP) (h:Int)=some [iI (ks.getD h gh).b,iI (ks.getD h gh).a,iI (ks.getD h gh).k,iI (ks.getD h gh).c,iI (ks.getD h gh).g]:=by
   rw[aV,aI,wG,cw an];rfl
  have ep:nV t i k=oG t i 1 [t.aD.getD i 0,j9 (ks.getD h gh).b (ks.getD h gh).a] [dR (ks.take h),dR (ks.drop h)]:=by
   unfold nV;rw[hg,aF (by rw[hp];simp),←hks,←hhe]
  have rp:=xe t i 1 [t.aD.getD i 0,j9 (ks.getD h gh).b (ks.getD h gh).a] [dR (ks.take h),dR (ks.drop h)] an an an an dh dh;rw[←ep] at rp
  have e1:aE (ks.map bP) 0 (h:Int)=(ks.take h).map bP:=by rw[cO];rfl
  have e2:aE (ks.map bP) (h:Int) (Int.ofNat (List.length (ks.map bP)))=(ks.drop h).map bP:=by
   rw[cO,ct,mT,show(Int.ofNat ks.length).toNat=ks.length from rfl,we]
  have nn1:au C ee [.c (.sub 5 (aE (ks.map bP) 0 (h:Int)))] (iu (dR (ks.take h))) []:=by rw[e1];exact sq _ (by rw[fu];omega)
  have nn2:au C ee [.c (.sub 5 (aE (ks.map bP) (h:Int) (Int.ofNat (List.length (ks.map bP)))))] (iu (dR (ks.drop h))) []:=by rw[e2];exact sq _ (by rw[jd];omega)
  have c1:gH 0 (h:Int) (Int.ofNat (List.length (ks.map bP)))=true:=by rw[Jd];simp;omega
  have c2:gH (h:Int) (Int.ofNat (List.length (ks.map bP))) (Int.ofNat (List.length (ks.map bP)))=true:=by rw[Jd];simp;omega
  have kw:au C iG [iu t.nodes[i],uG k] (dP ks) []:=by
   rw[hks];exact Cb t.nodes[i] k an an
  clear hks hhe hR
  repeat' first
   |refine⟨_,hrow,?_⟩
   |refine⟨_,ab7,?_⟩
   |refine⟨_,_,np,?_⟩
   |refine ai cno ?_
   |refine⟨_,kw,?_⟩
   |refine aa (by rw[bF];rfl) ?_
   |rw[hq]
   |refine⟨_,_,_,_,_,hkk,?_⟩
   |refine ai c1 ?_
   |refine ai c2 ?_
   |refine⟨_,(DE _ _ _).2 rfl,?_⟩
   |refine⟨_,nn1,?_⟩
   |refine⟨_,nn2,?_⟩
   |refine⟨_,_,rp,?_⟩
   |refine⟨(E1 (bB t k),([]:List TV)),?_,?_,rfl⟩
   |refine⟨(E1 (bB t k),([]:List TV)),?_,?_,c7⟩
   |exact fin (fun a b=>(a,b)=(E1 (bB t k),([]:List TV))) rfl
   |exact fin (fun r fs=>r=E1 (bB t k)∧fs=[]) c7
 |true=>
  have cno:(!(c8 t.nodes[i] k).2)=false:=by rw[hp];rfl
  by_cases hc:0<i∧(aU (c8 t.nodes[i] k).1).length=0
  ·have ci:bG 0 (i:Int)=true:=by rw[eX];simp;omega
   have nk:=(kN (c8 t.nodes[i] k).1 an an _).2 rfl
   have cl:bO (Int.ofNat (List.length ((aU (c8 t.nodes[i] k).1).map bP))) 0=true:=by rw[bF,ct,hc.2];rfl
   have ep:nV t i k=oG t i 1 [] []:=by unfold nV;rw[hg,aJ hp,aJ hc]
   have rp:=xe t i 1 [] [] an an an an dh dh;rw[←ep] at rp;clear hR
   repeat' first
   |refine⟨_,hrow,?_⟩
   |refine⟨_,ab7,?_⟩
   |refine⟨_,_,np,?_⟩
   |refine aa cno ?_
   |refine ai ci ?_
   |refine⟨_,nk,?_⟩
   |refine ai cl ?_
   |refine⟨_,_,rp,?_⟩
   |refine⟨(E1 (bB t k),([]:List TV)),?_,?_,rfl⟩
   |refine⟨(E1 (bB t k),([]:List TV)),?_,?_,c7⟩
   |exact fin (fun a b=>(a,b)=(E1 (bB t k),([]:List TV))) rfl
   |exact fin (fun r fs=>r=E1 (bB t k)∧fs=[]) c7
  ·have eset:nV t i k=⟨t.aD,t.nodes.set i (c8 t.nodes[i] k).1⟩:=by
    unfold nV;rw[hg,aJ hp,aF hc,afp an hil]
   have es:setRow (t.nodes.map aR) (i:Int) 0 [TC.sub 1 ((c8 t.nodes[i] k).1.map cZ)]=(t.nodes.set i (c8 t.nodes[i] k).1).map aR:=ac7 (a:=t.nodes[i]) (by rw[aI,cw hil]) rfl;clear hR
   by_cases hi0:0<i
   ·have ci:bG 0 (i:Int)=true:=by rw[eX];simp;omega
    have nk:=(kN (c8 t.nodes[i] k).1 an an _).2 rfl
    have cl:bO (Int.ofNat (List.length ((aU (c8 t.nodes[i] k).1).map bP))) 0=false:=by
     rw[bF,ct];exact fO fun e=>hc ⟨hi0,by have e:((aU (c8 t.nodes[i] k).1).length:Int)=0:=e;omega⟩
    repeat' first
   |refine⟨_,hrow,?_⟩
   |refine⟨_,ab7,?_⟩
   |refine⟨_,_,np,?_⟩
   |refine aa cno ?_
   |refine ai ci ?_
   |refine⟨_,nk,?_⟩
   |refine aa cl ?_
   |refine⟨(E1 (bB t k),([]:List TV)),?_,?_,rfl⟩
   |refine⟨(E1 (bB t k),([]:List TV)),?_,?_,c7⟩
   |exact fin (fun a b=>(a,b)=(E1 (bB t k),([]:List TV))) rfl
   |exact fin (fun r fs=>r=E1 (bB t k)∧fs=[]) c7
   |(rw[es];rw[eset] at fin;exact fin (fun a b=>(a,b)=(E1 (bB t k),([]:List TV))) rfl)
   |(rw[es];rw[eset] at fin;exact fin (fun r fs=>r=E1 (bB t k)∧fs=[]) c7)
   ·have ci:bG 0 (i:Int)=false:=by rw[eX];simp;omega
    repeat' first
   |refine⟨_,hrow,?_⟩
   |refine⟨_,ab7,?_⟩
   |refine⟨_,_,np,?_⟩
   |refine aa cno ?_
   |refine aa ci ?_
   |refine⟨(E1 (bB t k),([]:List TV)),?_,?_,rfl⟩
   |refine⟨(E1 (bB t k),([]:List TV)),?_,?_,c7⟩
   |exact fin (fun a b=>(a,b)=(E1 (bB t k),([]:List TV))) rfl
   |exact fin (fun r fs=>r=E1 (bB t k)∧fs=[]) c7
   |(rw[es];rw[eset] at fin;exact fin (fun a b=>(a,b)=(E1 (bB t k),([]:List TV))) rfl)
   |(rw[es];rw[eset] at fin;exact fin (fun r fs=>r=E1 (bB t k)∧fs=[]) c7)
theorem tX (t:Tree) (k:Key) (hz:cN t≤4194304):au C oN [ef t,uG k] (E1 (bB t k)) []:=by
 have hN:=wC hz;have IK:au C dH [ef t] (ef t) []:=yX t hN.1 hN.2;refine(Wm _ _ _ _ _ _ _ _ ⟨_,_,IK,_,yS t an,?_⟩).run
 cases h1:gU t with
 |false=>exact ai rfl ⟨by unfold bB;rw[aF (by rw[h1];simp)],rfl⟩
 |true=>
 refine aa rfl ⟨_,(NC _ _ _ _ _ _).2 rfl,?_⟩;change aq (!j8 k) _ _
 cases h2:j8 k with
 |false=>exact ai rfl ⟨by unfold bB;rw[aF (by rw[h2];simp)],rfl⟩
 |true=>
 obtain⟨i,hi,hil⟩:=VS h1 h2;have hlen:=vR h1
 have hw:au C gV [ef t,vI k.b,vI k.a] (vI (i:Int)) []:=by rw[←hi];exact D8 t k.b k.a an
 have hrow:rowAt (t.nodes.map aR) (i:Int)=some [TC.sub 1 (t.nodes[i].map cZ)]:=by rw[aV,aI,cw hil];rfl
 have ab7:rowAt (t.aD.map bS) (i:Int)=some [iI (t.aD.getD i 0)]:=by
  rw[aV,aI,wG,cw an];rfl
 have hg:t.nodes.getD i []=t.nodes[i]:=by rw[wG,cw hil];rfl
 have hok:=BV h1 (DM hil);have hsz:=KA hok;have hps:=Jj t.nodes[i] k;have hpt:=Jk t.nodes[i] k;have hkl:=tU t.nodes[i] k;have hnk:=dy t.nodes[i];obtain⟨hp1,hp2,hp3⟩:=adA (k:=k) h1 hil
 have hR:bB t k=if gU (oH (nV t i k).nodes.length (nV t i k))=true then(oH (nV t i k).nodes.length (nV t i k),true) else(t,false):=by
  unfold bB;rw[aJ ⟨h1,h2⟩,hi,mT]
 have fin: ∀Q:QV,Q (E1 (bB t k)) []→ ∃(l39 l40:RR),au C bE [ef (nV t i k)] (.ag [.sub 1 l39,.sub 1 l40]) []∧(∃b:Bool,au C bu [.ag [.sub 1 l39,.sub 1 l40]] (vB b) []∧(aq (!b) (Q (.tu [(1,agd t),(0,[iB false])]) []) (Q (.tu [(1,[.sub 1 l39,.sub 1 l40]),(0,[iB true])]) []))):=by
  intro Q hQ;refine⟨_,_,Sd (nV t i k) hp2 an,_,yS _ an,?_⟩;rw[hR] at hQ
  cases h3:gU (oH (nV t i k).nodes.length (nV t i k)) with
  |true=>rw[aJ h3] at hQ;exact aa rfl hQ
  |false=>rw[aF (by rw[h3];simp)] at hQ;exact ai rfl hQ
 have np:=PX t.nodes[i] k an an;have hx:=AI t i [t.aD.getD i 0] [(c8 t.nodes[i] k).1] an an an an dh dh;refine aa rfl ⟨_,hw,_,hrow,?_⟩
 cases hp:(c8 t.nodes[i] k).2 with
 |false=>
  have hno:=(VO hok h2 hp).1
  have cno:(!(c8 t.nodes[i] k).2)=true:=by rw[hp];rfl
  obtain⟨ks,hks⟩: ∃ks,ks=dz t.nodes[i] k:=⟨_,rfl⟩;rw[←hks] at hno hkl;have hh:=agl hno;obtain⟨h,hhe⟩: ∃h,h=(ks.length+1)/2:=⟨_,rfl⟩
  have hq:jm .i64 (aA (Int.ofNat (List.length (ks.map bP))) 1) 2=(h:Int):=by rw[ct,apy an,hhe]
  have hkk:rowAt (ks.map bP) (h:Int)=some [iI (ks.getD h gh).b,iI (ks.getD h gh).a,iI (ks.getD h gh).k,iI (ks.getD h gh).c,iI (ks.getD h gh).g]:=by
   rw[aV,aI,wG,cw an];rfl
  have ep:nV t i k=oG t i 1 [t.aD.getD i 0,j9 (ks.getD h gh).b (ks.getD h gh).a] [dR (ks.take h),dR (ks.drop h)]:=by
   unfold nV;rw[hg,aF (by rw[hp];simp),←hks,←hhe]
  have rp:=AI t i [t.aD.getD i 0,j9 (ks.getD h gh).b (ks.getD h gh).a] [dR (ks.take h),dR (ks.drop h)] an an an an dh dh;rw[←ep] at rp
  have e1:aE (ks.map bP) 0 (h:Int)=(ks.take h).map bP:=by rw[cO];rfl
  have e2:aE (ks.map bP) (h:Int) (Int.ofNat (List.length (ks.map bP)))=(ks.drop h).map bP:=by
   rw[cO,ct,mT,show(Int.ofNat ks.length).toNat=ks.length from rfl,we]
  have nn1:au C aW [.c (.sub 5 (aE (ks.map bP) 0 (h:Int)))] (iu (dR (ks.take h))) []:=by rw[e1];exact mB _ (by rw[fu];omega)
  have nn2:au C aW [.c (.sub 5 (aE (ks.map bP) (h:Int) (Int.ofNat (List.length (ks.map bP)))))] (iu (dR (ks.drop h))) []:=by rw[e2];exact mB _ (by rw[jd];omega)
  have c1:gH 0 (h:Int) (Int.ofNat (List.length (ks.map bP)))=true:=by rw[Jd];simp;omega
  have c2:gH (h:Int) (Int.ofNat (List.length (ks.map bP))) (Int.ofNat (List.length (ks.map bP)))=true:=by rw[Jd];simp;omega
  have kw:au C fm [dP (iP (aU t.nodes[i]) k)] (dP ks) []:=by
   rw[hks];exact DD (iP (aU t.nodes[i]) k) (by have:=tj (aU t.nodes[i]) k;omega)
  clear hks hhe hR
  repeat' first
   |refine⟨_,hrow,?_⟩
   |refine⟨_,ab7,?_⟩
   |refine⟨_,_,np,?_⟩
   |refine⟨_,_,hx,?_⟩
   |refine ai cno ?_
   |refine⟨_,kw,?_⟩
   |refine⟨_,(gu t.nodes[i] an an _).2 rfl,?_⟩
   |refine⟨_,qZ (aU t.nodes[i]) k an,?_⟩
   |refine aa (by rw[bF];rfl) ?_
   |rw[hq]
   |refine⟨_,_,_,_,_,hkk,?_⟩
   |refine ai c1 ?_
   |refine ai c2 ?_
   |refine⟨_,(Ld _ _ _ _ _ _).2 rfl,?_⟩
   |refine⟨_,nn1,?_⟩
   |refine⟨_,nn2,?_⟩
   |refine⟨_,_,rp,?_⟩
   |refine⟨(E1 (bB t k),([]:List TV)),?_,?_,rfl⟩
   |refine⟨(E1 (bB t k),([]:List TV)),?_,?_,c7⟩
   |exact fin (fun a b=>(a,b)=(E1 (bB t k),([]:List TV))) rfl
   |exact fin (fun r fs=>r=E1 (bB t k)∧fs=[]) c7
 |true=>
  have cno:(!(c8 t.nodes[i] k).2)=false:=by rw[hp];rfl
  by_cases hc:0<i∧(aU (c8 t.nodes[i] k).1).length=0
  ·have ci:bG 0 (i:Int)=true:=by rw[eX];simp;omega
   have nk:=(gu (c8 t.nodes[i] k).1 an an _).2 rfl
   have cl:bO (Int.ofNat (List.length ((aU (c8 t.nodes[i] k).1).map bP))) 0=true:=by rw[bF,ct,hc.2];rfl
   have ep:nV t i k=oG t i 1 [] []:=by unfold nV;rw[hg,aJ hp,aJ hc]
   have rp:=AI t i [] [] an an an an dh dh;rw[←ep] at rp;clear hR
   repeat' first
   |refine⟨_,hrow,?_⟩
   |refine⟨_,ab7,?_⟩
   |refine⟨_,_,np,?_⟩
   |refine⟨_,_,hx,?_⟩
   |refine aa cno ?_
   |refine ai ci ?_
   |refine⟨_,nk,?_⟩
   |refine ai cl ?_
   |refine⟨_,_,rp,?_⟩
   |refine⟨(E1 (bB t k),([]:List TV)),?_,?_,rfl⟩
   |refine⟨(E1 (bB t k),([]:List TV)),?_,?_,c7⟩
   |exact fin (fun a b=>(a,b)=(E1 (bB t k),([]:List TV))) rfl
   |exact fin (fun r fs=>r=E1 (bB t k)∧fs=[]) c7
  ·have ep:oG t i 1 [t.aD.getD i 0] [(c8 t.nodes[i] k).1]=nV t i k:=by
    unfold nV;rw[hg,aJ hp,aF hc]
   rw[ep] at hx;clear hR
   by_cases hi0:0<i
   ·have ci:bG 0 (i:Int)=true:=by rw[eX];simp;omega
    have nk:=(gu (c8 t.nodes[i] k).1 an an _).2 rfl
    have cl:bO (Int.ofNat (List.length ((aU (c8 t.nodes[i] k).1).map bP))) 0=false:=by
     rw[bF,ct];exact fO fun e=>hc ⟨hi0,by have e:((aU (c8 t.nodes[i] k).1).length:Int)=0:=e;omega⟩
    repeat' first
   |refine⟨_,hrow,?_⟩
   |refine⟨_,ab7,?_⟩
   |refine⟨_,_,np,?_⟩
   |refine⟨_,_,hx,?_⟩
   |refine aa cno ?_
   |refine ai ci ?_
   |refine⟨_,nk,?_⟩
   |refine aa cl ?_
   |refine⟨(E1 (bB t k),([]:List TV)),?_,?_,rfl⟩
   |refine⟨(E1 (bB t k),([]:List TV)),?_,?_,c7⟩
   |exact fin (fun a b=>(a,b)=(E1 (bB t k),([]:List TV))) rfl
   |exact fin (fun r fs=>r=E1 (bB t k)∧fs=[]) c7
   ·have ci:bG 0 (i:Int)=false:=by rw[eX];simp;omega
    repeat' first
   |refine⟨_,hrow,?_⟩
   |refine⟨_,ab7,?_⟩
   |refine⟨_,_,np,?_⟩
   |refine⟨_,_,hx,?_⟩
   |refine aa cno ?_
   |refine aa ci ?_
   |refine⟨(E1 (bB t k),([]:List TV)),?_,?_,rfl⟩
   |refine⟨(E1 (bB t k),([]:List TV)),?_,?_,c7⟩
   |exact fin (fun a b=>(a,b)=(E1 (bB t k),([]:List TV))) rfl
   |exact fin (fun r fs=>r=E1 (bB t k)∧fs=[]) c7
theorem PY (p:Pool) (k:Key) (b:Bool) (hc:p.cells.length≤1073741824):au C FL [.bx (wk p),uG k,vB b] (.tu []) [.bx (wk ⟨p.t,p.aL,if b=true∧k.k=1 then ke p.cells k.c else p.cells,p.av,p.next⟩)]:=by
 refine(Ws _ _ _ _ _ _ _ _ _ _ _ _ _ ?_).run
 cases b with
 |false=>exact aa rfl c7
 |true=>
  refine ai rfl ?_
  by_cases h:k.k=1
  ·exact ai (by rw[bF];exact gq h) ⟨_,B6 p.cells k.c hc,rfl,by rw[aJ ⟨rfl,h⟩]⟩
  ·exact aa (by rw[bF];exact fO h) ⟨rfl,by rw[aF fun e=>h e.2]⟩
theorem vj (p:Pool) (hS:aN p≤4194304) (k:Key):au C oO [.bx (wk p),uG k] (vB (dZ p k).2) [.bx (wk (dZ p k).1)]:=by
 have hP:=cJ hS;have ta:=yV p.t k.b k.a an;have tp:=tX p.t k an;obtain⟨T,b,hT⟩: ∃T b,bB p.t k=(T,b):=⟨_,_,rfl⟩;obtain⟨o,f,hO⟩: ∃o f,wX p.t k.b k.a=(o,f):=⟨_,_,rfl⟩
 have e:dZ p k=if b=true then(⟨T,p.aL,if f=true∧o.k=1 then ke p.cells o.c else p.cells,p.av,p.next⟩,true) else(p,false):=by
  unfold dZ Jo;rw[hT,hO]
 have hno:=LQ (t:=p.t) (k:=k);rw[hT] at tp hno;rw[hO] at ta;rw[e];refine(Yi _ _ _ _ _ _ _ _ _ _ _ _ ?_).run
 cases b with
 |false=>
  have hno:T=p.t:=hno rfl;subst hno;rw[aF dh];exact bL
 |true=>
  rw[aJ rfl];have dr:=PY ⟨T,p.aL,p.cells,p.av,p.next⟩ o f (by simp only[];omega);exact bL
theorem nS (p:Pool) (hS:aN p≤4194304) (k:Key):au C ie [.bx (wk p),uG k] (vB (dZ p k).2) [.bx (wk (dZ p k).1)]:=by
 have hP:=cJ hS;have ta:=vi p.t k.b k.a an;have tp:=tW p.t k an;obtain⟨T,b,hT⟩: ∃T b,bB p.t k=(T,b):=⟨_,_,rfl⟩;obtain⟨o,f,hO⟩: ∃o f,wX p.t k.b k.a=(o,f):=⟨_,_,rfl⟩
 have e:dZ p k=if b=true then(⟨T,p.aL,if f=true∧o.k=1 then ke p.cells o.c else p.cells,p.av,p.next⟩,true) else(p,false):=by
  unfold dZ Jo;rw[hT,hO]
 have hno:=LQ (t:=p.t) (k:=k);rw[hT] at tp hno;rw[hO] at ta;rw[e];refine(KO _ _ _ _ _ _ _ _ _ _ _ _ ?_).run
 cases b with
 |false=>
  have hno:T=p.t:=hno rfl;subst hno;rw[aF dh];exact bL
 |true=>
  rw[aJ rfl]
  cases f with
  |false=>
   rw[aF dh];exact bL
  |true=>
   by_cases ho:o.k=1
   ·rw[aJ ⟨rfl,ho⟩]
    have ce:bO o.k 1=true:=by rw[bF];exact gq ho
    have fc:=B7 p.cells o.c an;exact bL
   ·rw[aF fun e=>ho e.2]
    have ce:bO o.k 1=false:=by rw[bF];exact fO ho
    exact bL
theorem V9 {l:List Vol} {s:ByteArray} (h:cj l s<0):fE l (cj l s)=none:=gR an
theorem xg (p:Pool) (s:ByteArray) (b:Int) (hS:aN p≤4194304) (hz:s.size≤140737488355328):au C uU [dQ p,vS s,vI b] (vI (ir p s b)) []:=by
 have hP:=cJ hS;have hva:=ju p s an;have hvl:=Gg p s hS hz;refine(Tw _ _ _ _ _ _ _ _ _ ?_).run;unfold ir
 by_cases h1:uA p s=true
 ·rw[aJ h1] at hvl ⊢
  by_cases h2:cj p.av s<0
  ·rw[aJ h2] at hvl
   rw[V9 h2];exact bL
  ·rw[aF h2] at hvl
   obtain⟨v,hv⟩:=FR h2;have hsz:=BS (wq (by unfold uA at h1;simp only[fk] at h1;exact h1.1)) hv
   have hrv:rowAt (p.av.map cu) (cj p.av s)=some [iS v.name,iI v.cY,iI v.size,iB v.fx]:=by rw[aV,hv];rfl
   have hin:=tE b 0 (v.size-1);have hsub:cV v.size 1=v.size-1:=dx an;rw[hv];simp only[]
   cases h3:v.fx with
   |true=>
    rw[h3] at hrv;rw[aJ rfl];exact bL
   |false=>
    rw[h3] at hrv;rw[aF dh]
    cases h4:iM b 0 (v.size-1) with
    |true=>
     rw[h4,←hsub] at hin;rw[aJ rfl];exact bL
    |false=>
     rw[h4,←hsub] at hin;rw[aF dh];exact bL
 ·rw[aF h1] at hvl ⊢
  exact bL
theorem vY (p:Pool) (s:ByteArray) (b:Int) (hS:aN p≤4194304) (hz:s.size≤140737488355328):au C tC [dQ p,vS s,vI b,vB true] (tII (cj p.av s,ir p s b)) []:=by
 have hP:=cJ hS;have hva:=lX p s an;have hok:=fq p hS;have hnm:=(ng s hz (j5 s)).2 rfl;refine(QY _ _ _ _ _ _ _ _ _ _ ?_).run;unfold ir uA
 cases h0:dg p with
 |false=>
  rw[h0] at hok;exact bL
 |true=>
 rw[h0] at hok
 cases h1:j5 s with
 |false=>
  rw[h1] at hnm;exact bL
 |true=>
  rw[h1] at hnm;rw[aJ (show(true&&true)=true from rfl)]
  by_cases h2:cj p.av s<0
  ·have cl:bG (cj p.av s) 0=true:=by rw[eX];exact gq h2
   rw[V9 h2];exact bL
  ·have cl:bG (cj p.av s) 0=false:=by rw[eX];exact fO h2
   obtain⟨v,hv⟩:=FR h2;have hsz:=BS (wq h0) hv
   have hrv:rowAt (p.av.map cu) (cj p.av s)=some [iS v.name,iI v.cY,iI v.size,iB v.fx]:=by rw[aV,hv];rfl
   have hin:=nM b 0 (v.size-1);have hsub:cV v.size 1=v.size-1:=dx an;rw[hv];simp only[]
   cases h3:v.fx with
   |true=>
    rw[h3] at hrv;rw[aJ rfl];exact bL
   |false=>
    rw[h3] at hrv;rw[aF dh]
    cases h4:iM b 0 (v.size-1) with
    |true=>
     rw[h4,←hsub] at hin;rw[aJ rfl];exact bL
    |false=>
     rw[h4,←hsub] at hin;rw[aF dh];exact bL
theorem zT {l:List Cell} {n i:Int} {cs:List Cell} (h:jQ l n=(cs,i,true)): ∃c,fE cs i=some c∧agk cs i=c.g:=by
 have h0:eY l=true∧iN n=true∧0≤fy l:=Classical.byContradiction fun hn=>by
  rw[qA hn] at h;cases h
 rw[wV h0] at h;obtain⟨rfl,h2⟩:=Prod.mk.inj h;obtain⟨rfl,_⟩:=Prod.mk.inj h2;have hl: -1≤fy l∧fy l<l.length:=agi At l;obtain⟨c,hc⟩:=mz (l:=l.modify (fy l).toNat fun c=>⟨c.g,true,n⟩) h0.2.2 (by rw[Re];exact hl.2);exact⟨c,hc,by unfold agk;rw[hc]⟩
theorem Wa (p:Pool) (s:ByteArray) (b n:Int) (hS:aN p≤1048576) (hz:s.size≤1048576):au C LV [dQ p,vS s,vI b,vI n] (Pf (m0 p s b n)) []:=by
 have r8:aN p≤4194304:=by omega
 have hP:=cJ r8;have IK:=cG p r8;have hva:=ju p s an;have Xm:=xg p s b r8 an;have zp:=(ye n (iN n)).2 rfl;refine(abE _ _ _ _ _ _ _ _ _ _ ?_).run
 by_cases h1:ir p s b=0
 ·rw[h1] at Xm
  obtain⟨v,hv,_⟩:=wu h1
  have hrv:rowAt (p.av.map cu) (cj p.av s)=some [iS v.name,iI v.cY,iI v.size,iB v.fx]:=by rw[aV,hv];rfl
  cases h2:iN n with
  |false=>
   rw[h2] at zp
   have e:m0 p s b n=(p,4):=by unfold m0;rw[aJ h1,aF (by rw[h2];simp)]
   rw[e];exact bL
  |true=>
   rw[h2] at zp;have tk:=B9 p.cells n an;obtain⟨cs,i,ok,uD⟩: ∃cs i ok,jQ p.cells n=(cs,i,ok):=⟨_,_,_,rfl⟩
   have hcl:cs.length=p.cells.length:=by have:=Nt p.cells n;rw[uD] at this;exact this
   have hX:aN ⟨p.t,p.aL,cs,p.av,p.next⟩≤2000000:=by unfold aN at hS ⊢;simp only[];omega
   rw[uD] at tk
   cases ok with
   |false=>
    have e:m0 p s b n=(p,6):=by unfold m0;rw[aJ h1,aJ h2,hv];simp only[];rw[uD];rfl
    have en:=kr p ⟨p.t,p.aL,cs,p.av,p.next⟩ false r8 an;rw[e];exact bL
   |true=>
    obtain⟨c,hc,afD⟩:=zT uD
    have hrc:rowAt (cs.map bQ) i=some [iI c.g,iB c.u,iI c.n]:=by rw[aV,hc];rfl
    have pk:=vj ⟨p.t,p.aL,cs,p.av,p.next⟩ an ⟨b,v.cY,1,i,c.g⟩;have hpz:=tr ⟨p.t,p.aL,cs,p.av,p.next⟩ ⟨b,v.cY,1,i,c.g⟩
    have e:m0 p s b n=D5 p (dZ ⟨p.t,p.aL,cs,p.av,p.next⟩ ⟨b,v.cY,1,i,c.g⟩).1 (dZ ⟨p.t,p.aL,cs,p.av,p.next⟩ ⟨b,v.cY,1,i,c.g⟩).2:=by
     unfold m0;rw[aJ h1,aJ h2,hv];simp only[];unfold abl;rw[uD];simp only[];rw[afD];rfl
    rw[e];generalize dZ ⟨p.t,p.aL,cs,p.av,p.next⟩ ⟨b,v.cY,1,i,c.g⟩=X at*;have en:=kr p X.1 X.2 r8 an;exact bL
 ·have c1:bO (ir p s b) 0=false:=by rw[bF];exact fO h1
  have c2:(!bO (ir p s b) 0)=true:=by rw[c1];rfl
  have e:m0 p s b n=(p,ir p s b):=by unfold m0;rw[aF h1]
  rw[e];exact bL
theorem zo (p:Pool) (hS:aN p≤4194304) (i b:Int) (v:Vol) (hv:fE p.av i=some v):au C vf [.bx (wk p),vI i,vI b] (vB (cL p v.cY b).2) [.bx (wk (cL p v.cY b).1)]:=by
 have hP:=cJ hS
 have hrv:rowAt (p.av.map cu) i=some [iS v.name,iI v.cY,iI v.size,iB v.fx]:=by rw[aV,hv];rfl
 have sa:=AE p.t p.aL b v.cY an an;have ta:=yV p.t b v.cY an;have pg:=vj p hS ⟨b,v.cY,2,0,0⟩;have pn:=vj p hS ⟨b,v.cY,0,0,0⟩;obtain⟨a,f,hA⟩: ∃a f,tQ p.t p.aL b v.cY=(a,f):=⟨_,_,rfl⟩;obtain⟨o,q,hO⟩: ∃o q,wX p.t b v.cY=(o,q):=⟨_,_,rfl⟩
 have e:cL p v.cY b=if f=true∧a.k=1 then dZ p ⟨b,v.cY,2,0,0⟩ else if q=true then dZ p ⟨b,v.cY,0,0,0⟩ else(p,true):=by
  unfold cL;rw[hA,hO]
 rw[hA] at sa;rw[hO] at ta;rw[e];generalize dZ p ⟨b,v.cY,2,0,0⟩=X at*;generalize dZ p ⟨b,v.cY,0,0,0⟩=Y at*;refine(OA _ _ _ _ _ _ _ _ _ ?_).run
 by_cases h1:f=true∧a.k=1
 ·obtain⟨rfl,ha⟩:=h1
  have ce:bO a.k 1=true:=by rw[bF];exact gq ha
  rw[aJ ⟨rfl,ha⟩];exact bL
 ·rw[aF h1]
  have ce:f=true→bO a.k 1=false:=fun hf=>by rw[bF];exact fO fun ha=>h1 ⟨hf,ha⟩
  cases f with
  |false=>
   cases q with
   |false=>
    rw[aF dh];exact bL
   |true=>
    rw[aJ rfl];exact bL
  |true=>
   have ce:=ce rfl
   cases q with
   |false=>
    rw[aF dh];exact bL
   |true=>
    rw[aJ rfl];exact bL
theorem PZ (p:Pool) (s:ByteArray) (b:Int) (hS:aN p≤1048576) (hz:s.size≤1048576):au C FF [dQ p,vS s,vI b] (Pf (mU p s b)) []:=by
 have r8:aN p≤4194304:=by omega
 have hP:=cJ r8;have IK:=cG p r8;have hva:=ju p s an;have Xm:=xg p s b r8 an;refine(WO _ _ _ _ _ _ _ _ _ ?_).run
 by_cases h1:ir p s b=0
 ·rw[h1] at Xm
  obtain⟨v,hv,_⟩:=wu h1;have di:=zo p r8 (cj p.av s) b v hv;have hdz:=zM p v.cY b
  have e:mU p s b=D5 p (cL p v.cY b).1 (cL p v.cY b).2:=by unfold mU;rw[aJ h1,hv]
  rw[e];generalize cL p v.cY b=X at*;have en:=kr p X.1 X.2 r8 an;exact bL
 ·have c1:bO (ir p s b) 0=false:=by rw[bF];exact fO h1
  have c2:(!bO (ir p s b) 0)=true:=by rw[c1];rfl
  have e:mU p s b=(p,ir p s b):=by unfold mU;rw[aF h1]
  rw[e];exact bL
theorem Wb (p:Pool) (s:ByteArray) (b n:Int) (hS:aN p≤1048576) (hz:s.size≤1048576):au C LW [dQ p,vS s,vI b,vI n] (Pf (m0 p s b n)) []:=by
 have r8:aN p≤4194304:=by omega
 have hP:=cJ r8;have IK:=bR p r8;have hva:=lX p s an;have Xm:=vY p s b r8 an;have zp:=(yf n (iN n)).2 rfl;refine(abK _ _ _ _ _ _ _ _ _ _ ?_).run
 by_cases h1:ir p s b=0
 ·rw[h1] at Xm
  obtain⟨v,hv,_⟩:=wu h1
  have hrv:rowAt (p.av.map cu) (cj p.av s)=some [iS v.name,iI v.cY,iI v.size,iB v.fx]:=by rw[aV,hv];rfl
  cases h2:iN n with
  |false=>
   rw[h2] at zp
   have e:m0 p s b n=(p,4):=by unfold m0;rw[aJ h1,aF (by rw[h2];simp)]
   rw[e];exact bL
  |true=>
   rw[h2] at zp;have tk:=B8 p.cells n an;obtain⟨cs,i,ok,uD⟩: ∃cs i ok,jQ p.cells n=(cs,i,ok):=⟨_,_,_,rfl⟩
   have hcl:cs.length=p.cells.length:=by have:=Nt p.cells n;rw[uD] at this;exact this
   have hX:aN ⟨p.t,p.aL,cs,p.av,p.next⟩≤2000000:=by unfold aN at hS ⊢;simp only[];omega
   rw[uD] at tk
   cases ok with
   |false=>
    have e:m0 p s b n=(p,6):=by unfold m0;rw[aJ h1,aJ h2,hv];simp only[];rw[uD];rfl
    have en:=jI p ⟨p.t,p.aL,cs,p.av,p.next⟩ false r8 an;rw[e];exact bL
   |true=>
    obtain⟨c,hc,afD⟩:=zT uD
    have hrc:rowAt (cs.map bQ) i=some [iI c.g,iB c.u,iI c.n]:=by rw[aV,hc];rfl
    have pk:=nS ⟨p.t,p.aL,cs,p.av,p.next⟩ an ⟨b,v.cY,1,i,c.g⟩;have hpz:=tr ⟨p.t,p.aL,cs,p.av,p.next⟩ ⟨b,v.cY,1,i,c.g⟩
    have e:m0 p s b n=D5 p (dZ ⟨p.t,p.aL,cs,p.av,p.next⟩ ⟨b,v.cY,1,i,c.g⟩).1 (dZ ⟨p.t,p.aL,cs,p.av,p.next⟩ ⟨b,v.cY,1,i,c.g⟩).2:=by
     unfold m0;rw[aJ h1,aJ h2,hv];simp only[];unfold abl;rw[uD];simp only[];rw[afD];rfl
    rw[e];generalize dZ ⟨p.t,p.aL,cs,p.av,p.next⟩ ⟨b,v.cY,1,i,c.g⟩=X at*;have en:=jI p X.1 X.2 r8 an;exact bL
 ·have c1:bO (ir p s b) 0=false:=by rw[bF];exact fO h1
  have c2:(!bO (ir p s b) 0)=true:=by rw[c1];rfl
  have e:m0 p s b n=(p,ir p s b):=by unfold m0;rw[aF h1]
  rw[e];exact bL
theorem xh (p:Pool) (hS:aN p≤4194304) (i b:Int) (v:Vol) (hv:fE p.av i=some v):au C qI [.bx (wk p),vI i,vI b] (vB (cL p v.cY b).2) [.bx (wk (cL p v.cY b).1)]:=by
 have hP:=cJ hS
 have hrv:rowAt (p.av.map cu) i=some [iS v.name,iI v.cY,iI v.size,iB v.fx]:=by rw[aV,hv];rfl
 have sa:=AF p.t p.aL b v.cY an an;have ta:=vi p.t b v.cY an;have pg:=nS p hS ⟨b,v.cY,2,0,0⟩;have pn:=nS p hS ⟨b,v.cY,0,0,0⟩;obtain⟨a,f,hA⟩: ∃a f,tQ p.t p.aL b v.cY=(a,f):=⟨_,_,rfl⟩;obtain⟨o,q,hO⟩: ∃o q,wX p.t b v.cY=(o,q):=⟨_,_,rfl⟩
 have e:cL p v.cY b=if f=true∧a.k=1 then dZ p ⟨b,v.cY,2,0,0⟩ else if q=true then dZ p ⟨b,v.cY,0,0,0⟩ else(p,true):=by
  unfold cL;rw[hA,hO]
 rw[hA] at sa;rw[hO] at ta;rw[e];generalize dZ p ⟨b,v.cY,2,0,0⟩=X at*;generalize dZ p ⟨b,v.cY,0,0,0⟩=Y at*;refine(J0 _ _ _ _ _ _ _ _ _ ?_).run
 by_cases h1:f=true∧a.k=1
 ·obtain⟨rfl,ha⟩:=h1
  have ce:bO a.k 1=true:=by rw[bF];exact gq ha
  rw[aJ ⟨rfl,ha⟩];exact bL
 ·rw[aF h1]
  have ce:f=true→bO a.k 1=false:=fun hf=>by rw[bF];exact fO fun ha=>h1 ⟨hf,ha⟩
  cases f with
  |false=>
   cases q with
   |false=>
    rw[aF dh];exact bL
   |true=>
    rw[aJ rfl];exact bL
  |true=>
   have ce:=ce rfl
   cases q with
   |false=>
    rw[aF dh];exact bL
   |true=>
    rw[aJ rfl];exact bL
theorem P0 (p:Pool) (s:ByteArray) (b:Int) (hS:aN p≤1048576) (hz:s.size≤1048576):au C FG [dQ p,vS s,vI b] (Pf (mU p s b)) []:=by
 have r8:aN p≤4194304:=by omega
 have hP:=cJ r8;have IK:=bR p r8;have hva:=lX p s an;have Xm:=vY p s b r8 an;refine(W4 _ _ _ _ _ _ _ _ _ ?_).run
 by_cases h1:ir p s b=0
 ·rw[h1] at Xm
  obtain⟨v,hv,_⟩:=wu h1;have di:=xh p r8 (cj p.av s) b v hv;have hdz:=zM p v.cY b
  have e:mU p s b=D5 p (cL p v.cY b).1 (cL p v.cY b).2:=by unfold mU;rw[aJ h1,hv]
  rw[e];generalize cL p v.cY b=X at*;have en:=jI p X.1 X.2 r8 an;exact bL
 ·have c1:bO (ir p s b) 0=false:=by rw[bF];exact fO h1
  have c2:(!bO (ir p s b) 0)=true:=by rw[c1];rfl
  have e:mU p s b=(p,ir p s b):=by unfold mU;rw[aF h1]
  rw[e];exact bL
theorem Sf (p:Pool) (s:ByteArray) (n:Int) (hS:aN p≤1048576) (hz:s.size≤1048576):au C gM [dQ p,vS s,vI n] (Pf (p5 p s n)) []:=by
 have r8:aN p≤4194304:=by omega
 have hP:=cJ r8;have IK:=cG p r8;have hva:=ju p s an;have Xm:=xg p s 0 r8 an;have hin:=tE n 1 12;obtain⟨Z,hZe⟩: ∃Z,Z=p5 p s n:=⟨_,rfl⟩;rw[←hZe];refine(Ye _ _ _ _ _ _ _ _ _ ?_).run
 by_cases h1:ir p s 0=0
 ·rw[h1] at Xm
  obtain⟨v,hv,hfm,_⟩:=wu h1;have hvz:=BS (wq (by unfold uA at hfm;simp only[fk] at hfm;exact hfm.1)) hv
  have hrv:rowAt (p.av.map cu) (cj p.av s)=some [iS v.name,iI v.cY,iI v.size,iB v.fx]:=by rw[aV,hv];rfl
  cases h2:iM n 1 12 with
  |false=>
   rw[h2] at hin
   have e:Z=(p,4):=by rw[hZe];unfold p5;rw[aJ h1,aF (by rw[h2];simp)]
   rw[e];exact bL
  |true=>
  rw[h2] at hin
  have hn:1≤n∧n≤12:=by unfold iM at h2;simpa using h2
  have hZ:D5 p (BW (yw v.cY (v.size-n).toNat (v.size-1) p).1 (cj p.av s) n) (yw v.cY (v.size-n).toNat (v.size-1) p).2=Z:=by
   rw[hZe];unfold p5;rw[aJ h1,aJ h2,hv]
  clear hZe;have hsb:cV v.size 1=v.size-1:=dx an
  have fin: ∀(ok:Bool) (X:Pool),aN X≤4000000→X.av=p.av→D5 p (BW X (cj p.av s) n) ok=Z→ ∀Q:QV,Q (Pf Z) []→ ∃(s62:ByteArray) (n63:Int) (n64:Int) (b65:Bool),rowAt (X.av.map cu) (cj p.av s)=some [iS s62,iI n63,iI n64,iB b65]∧(∃(s66:ByteArray) (n67:Int) (n68:Int) (b69:Bool),rowAt (X.av.map cu) (cj p.av s)=some [iS s66,iI n67,iI n68,iB b69]∧(∃(l70:RR) (l71:RR) (l72:RR) (l73:RR) (l74:RR) (n75:Int) (n76:Int),au C gP ([dQ p,TV.ag [TC.sub 1 (X.t.aD.map bS),TC.sub 1 (X.t.nodes.map aR),TC.sub 2 (X.aL.map bW),TC.sub 3 (X.cells.map bQ),TC.sub 4 (setRow (X.av.map cu) (cj p.av s) 2 [iI n]),iI X.next],TV.c (iB ok)]) (TV.tu [(1,[TC.sub 1 l70,TC.sub 1 l71,TC.sub 2 l72,TC.sub 3 l73,TC.sub 4 l74,iI n75]),(0,[iI n76])]) []∧(Q (TV.tu [(1,[TC.sub 1 l70,TC.sub 1 l71,TC.sub 2 l72,TC.sub 3 l73,TC.sub 4 l74,iI n75]),(0,[iI n76])]) ([])))):=by
   intro ok X hX ZG hZ Q hQ
   have hrx:rowAt (X.av.map cu) (cj p.av s)=some [iS v.name,iI v.cY,iI v.size,iB v.fx]:=by rw[ZG];exact hrv
   have en:=kr p (BW X (cj p.av s) n) ok r8 (by rw[adB];omega);have e1:setRow (X.av.map cu) (cj p.av s) 2 [iI n]=(BW X (cj p.av s) n).av.map cu:=Je;rw[hZ] at en;rw[e1];exact⟨_,_,_,_,hrx,_,_,_,_,hrx,_,_,_,_,_,_,_,en,hQ⟩
  have Q0:(fun r fs=>r=Pf Z∧fs=([]:List TV)) (Pf Z) []:=c7
  have bad:(p,(6:Int))=Z→ ∀(b:Int) (X:Pool),aN X≤4000000→X.av=p.av→ah C gM ji 4 0 (mJ n (cj p.av s) false b (p.t.aD.map bS) (p.t.nodes.map aR) (p.aL.map bW) (p.cells.map bQ) (p.av.map cu) p.next (X.t.aD.map bS) (X.t.nodes.map aR) (X.aL.map bW) (X.cells.map bQ) X.next (X.av.map cu)) (fun x st=>ax C gM ji x st fun r fs=>r=Pf Z∧fs=[]):=by
   intro hZ b X hX ZG
   by_cases h:n≤b
   ·exact vG _ _ _ _ _ _ _ _ _ _ _ _ _ _ _ _ _ (ai (by rw[gy];exact gq h) (aa rfl (Su _ _ _ _ _ _ _ _ _ _ _ _ _ _ _ _ _ (fin false X hX ZG hZ (fun r fs=>r=Pf Z∧fs=[]) Q0))))
   ·exact vG _ _ _ _ _ _ _ _ _ _ _ _ _ _ _ _ _ (aa (by rw[gy];exact fO h) (HA _ _ _ _ _ _ _ _ _ _ _ _ _ _ _ _ _ (fin false X hX ZG hZ (fun r fs=>r=Pf Z∧fs=[]) Q0)))
  have key: ∀(k:Nat) (b:Int) (X:Pool),k=(b+1-n).toNat→ -1≤b→b≤12→aN X+300*k≤4000000→X.av=p.av→D5 p (BW (yw v.cY k b X).1 (cj p.av s) n) (yw v.cY k b X).2=Z→ah C gM ji 4 0 (mJ n (cj p.av s) true b (p.t.aD.map bS) (p.t.nodes.map aR) (p.aL.map bW) (p.cells.map bQ) (p.av.map cu) p.next (X.t.aD.map bS) (X.t.nodes.map aR) (X.aL.map bW) (X.cells.map bQ) X.next (X.av.map cu)) (fun x st=>ax C gM ji x st fun r fs=>r=Pf Z∧fs=[]):=by
   intro k
   induction k with
   |zero=>
    intro b X hk hb1 hb hX ZG hZ
    have h: ¬n≤b:=by omega
    have hZ:D5 p (BW X (cj p.av s) n) true=Z:=hZ;exact vG _ _ _ _ _ _ _ _ _ _ _ _ _ _ _ _ _ (aa (by rw[gy];exact fO h) (HA _ _ _ _ _ _ _ _ _ _ _ _ _ _ _ _ _ (fin true X an ZG hZ (fun r fs=>r=Pf Z∧fs=[]) Q0)))
   |succ k ih=>
    intro b X hk hb1 hb hX ZG hZ
    ·have h:n≤b:=by omega
     have hsub:cV b 1=b-1:=dx an;have hr:=(Jp X v.cY b).2.1;have hdz:=zM X v.cY b;have di:=zo X an (cj p.av s) b v (by rw[ZG];exact hv);unfold yw at hZ;rw[show(if(cL X v.cY b).2=true then yw v.cY k (b-1) (cL X v.cY b).1 else(X,false))=if(cL X v.cY b).2=true then yw v.cY k (b-1) (cL X v.cY b).1 else(X,false) from rfl] at hZ;refine vG _ _ _ _ _ _ _ _ _ _ _ _ _ _ _ _ _ (ai (by rw[gy];exact gq h) (ai rfl ⟨_,_,_,_,_,_,_,di,?_⟩))
     rw[hsub]
     cases hd:(cL X v.cY b).2 with
     |false=>
      rw[hd] at hZ;exact bad hZ (b-1) (cL X v.cY b).1 an (by rw[hr];exact ZG)
     |true=>
      rw[hd] at hZ;exact ih (b-1) (cL X v.cY b).1 an an an an (by rw[hr];exact ZG) hZ
  have k0:=key (v.size-n).toNat (v.size-1) p an an an an rfl hZ;rw[←hsb] at k0;exact bL
 ·have c1:bO (ir p s 0) 0=false:=by rw[bF];exact fO h1
  have c2:(!bO (ir p s 0) 0)=true:=by rw[c1];rfl
  have e:Z=(p,ir p s 0):=by rw[hZe];unfold p5;rw[aF h1]
  rw[e];exact bL
theorem Sg (p:Pool) (s:ByteArray) (n:Int) (hS:aN p≤1048576) (hz:s.size≤1048576):au C iC [dQ p,vS s,vI n] (Pf (p5 p s n)) []:=by
 have r8:aN p≤4194304:=by omega
 have hP:=cJ r8;have IK:=bR p r8;have hva:=lX p s an;have Xm:=vY p s 0 r8 an;have hin:=nM n 1 12;obtain⟨Z,hZe⟩: ∃Z,Z=p5 p s n:=⟨_,rfl⟩;rw[←hZe];refine(Yy _ _ _ _ _ _ _ _ _ ?_).run
 by_cases h1:ir p s 0=0
 ·rw[h1] at Xm
  obtain⟨v,hv,hfm,_⟩:=wu h1;have hvz:=BS (wq (by unfold uA at hfm;simp only[fk] at hfm;exact hfm.1)) hv
  have hrv:rowAt (p.av.map cu) (cj p.av s)=some [iS v.name,iI v.cY,iI v.size,iB v.fx]:=by rw[aV,hv];rfl
  cases h2:iM n 1 12 with
  |false=>
   rw[h2] at hin
   have e:Z=(p,4):=by rw[hZe];unfold p5;rw[aJ h1,aF (by rw[h2];simp)]
   rw[e];exact bL
  |true=>
  rw[h2] at hin
  have hn:1≤n∧n≤12:=by unfold iM at h2;simpa using h2
  have hZ:D5 p (BW (yw v.cY (v.size-n).toNat (v.size-1) p).1 (cj p.av s) n) (yw v.cY (v.size-n).toNat (v.size-1) p).2=Z:=by
   rw[hZe];unfold p5;rw[aJ h1,aJ h2,hv]
  clear hZe;have hsb:cV v.size 1=v.size-1:=dx an
  have key: ∀(k:Nat) (b:Int) (X:Pool),k=(b+1-n).toNat→ -1≤b→b≤12→aN X+300*k≤4000000→X.av=p.av→D5 p (BW (yw v.cY k b X).1 (cj p.av s) n) (yw v.cY k b X).2=Z→ah C iC fQ 4 0 (nZ n (cj p.av s) b (p.t.aD.map bS) (p.t.nodes.map aR) (p.aL.map bW) (p.cells.map bQ) (p.av.map cu) p.next X.next (X.t.aD.map bS) (X.t.nodes.map aR) (X.aL.map bW) (X.cells.map bQ) (X.av.map cu)) (fun x st=>ax C iC fQ x st fun r fs=>r=Pf Z∧fs=[]):=by
   intro k
   induction k with
   |zero=>
    intro b X hk hb1 hb hX ZG hZ
    have h: ¬n≤b:=by omega
    have hZ:D5 p (BW X (cj p.av s) n) true=Z:=hZ
    have hrx:rowAt (X.av.map cu) (cj p.av s)=some [iS v.name,iI v.cY,iI v.size,iB v.fx]:=by rw[ZG];exact hrv
    have en:=jI p (BW X (cj p.av s) n) true r8 (by rw[adB];omega);have e1:setRow (X.av.map cu) (cj p.av s) 2 [iI n]=(BW X (cj p.av s) n).av.map cu:=Je;rw[hZ] at en;refine HH _ _ _ _ _ _ _ _ _ _ _ _ _ _ _ _ (aa (by rw[gy];exact fO h) (SP _ _ _ _ _ _ _ _ _ _ _ _ _ _ _ _ _ ?_));rw[e1];exact⟨_,_,_,_,hrx,_,_,_,_,hrx,_,_,_,_,_,_,_,en,rfl,rfl⟩
   |succ k ih=>
    intro b X hk hb1 hb hX ZG hZ
    ·have h:n≤b:=by omega
     have hsub:cV b 1=b-1:=dx an;have hr:=(Jp X v.cY b).2.1;have hdz:=zM X v.cY b;have di:=xh X an (cj p.av s) b v (by rw[ZG];exact hv);unfold yw at hZ;rw[show(if(cL X v.cY b).2=true then yw v.cY k (b-1) (cL X v.cY b).1 else(X,false))=if(cL X v.cY b).2=true then yw v.cY k (b-1) (cL X v.cY b).1 else(X,false) from rfl] at hZ;refine HH _ _ _ _ _ _ _ _ _ _ _ _ _ _ _ _ (ai (by rw[gy];exact gq h) ⟨_,_,_,_,_,_,_,di,?_⟩)
     cases hd:(cL X v.cY b).2 with
     |false=>
      rw[hd] at hZ;have hZ:(p,(6:Int))=Z:=hZ;exact ai rfl ⟨_,_,_,_,_,_,IK,SO _ _ _ _ _ _ _ _ _ _ _ _ _ _ _ _ _ _ _ ⟨by rw[←hZ],rfl⟩⟩
     |true=>
      rw[hd] at hZ;rw[hsub];exact aa rfl (ih (b-1) (cL X v.cY b).1 an an an an (by rw[hr];exact ZG) hZ)
  have k0:=key (v.size-n).toNat (v.size-1) p an an an an rfl hZ;rw[←hsb] at k0;exact bL
 ·have c1:bO (ir p s 0) 0=false:=by rw[bF];exact fO h1
  have c2:(!bO (ir p s 0) 0)=true:=by rw[c1];rfl
  have e:Z=(p,ir p s 0):=by rw[hZe];unfold p5;rw[aF h1]
  rw[e];exact bL
theorem Gh (p:Pool) (hS:aN p≤4194304) (i:Int):au C jf [dQ p,vI i] (uG (jZ p i)) []:=by
 have hP:=cJ hS;have htl:=fz p.t;refine(Y1 _ _ _ _ _ _ _ _ ⟨_,kk p.t an,?_⟩).run
 have key:((aC p.t).drop 0).find? (pK i)=(aC p.t).find? (pK i)→ah C jf ak 4 0 (oh i ((0:Nat):Int) ((aC p.t).map bP)) (fun x st=>ax C jf ak x st fun r fs=>r=uG (jZ p i)∧fs=[]):=by
  refine bh (aC p.t) (fun j=>((aC p.t).drop j).find? (pK i)=(aC p.t).find? (pK i)→ah C jf ak 4 0 (oh i (j:Int) ((aC p.t).map bP)) (fun x st=>ax C jf ak x st fun r fs=>r=uG (jZ p i)∧fs=[])) ?_ ?_
  ·intro h0
   rw[eK] at h0;exact HZ _ _ _ _ (aa dh (Tt _ _ _ _ _ ⟨by unfold jZ;rw[←h0];rfl,rfl⟩))
  ·intro j a hj ha hd ht hn h0
   rw[hd,List.find?_cons] at h0
   have hr:rowAt ((aC p.t).map bP) (j:Int)=some [iI a.b,iI a.a,iI a.k,iI a.c,iI a.g]:=by rw[aV,aI,ha];rfl
   have v8:aA (j:Int) 1=(j:Int)+1:=aG an;refine HZ _ _ _ _ (ai rV ⟨_,_,_,_,_,hr,_,_,_,_,_,hr,?_⟩);rw[v8]
   by_cases h1:a.k=1
   ·refine ai (by rw[bF];exact gq h1) ⟨_,_,_,_,_,hr,_,_,_,_,_,hr,?_⟩
    by_cases h2:a.c=i
    ·have ho:pK i a=true:=by unfold pK;simp[h1,h2]
     rw[ho] at h0;exact ai (by rw[bF];exact gq h2) ⟨_,_,_,_,_,hr,_,_,_,_,_,hr,Ts _ _ _ _ _ _ _ ⟨by unfold jZ;rw[←h0],rfl⟩⟩
    ·have ho:pK i a=false:=by unfold pK;simp[h2]
     rw[ho] at h0;exact aa (by rw[bF];exact fO h2) (hn h0)
   ·have ho:pK i a=false:=by unfold pK;simp[h1]
    rw[ho] at h0;exact aa (by rw[bF];exact fO h1) (hn h0)
 exact key rfl
theorem wD {p:Pool} {i:Int} {c:Cell} (hc:fE p.cells i=some c) (h: ¬(c.u=true∧0≤fy p.cells∧fy p.cells≤i)):jR p i=(p,false):=by
 unfold jR
 split
 ·rw[hc];exact aF h
 ·rfl
theorem NO {p:Pool} {i:Int} {c:Cell} (hp:dg p=true) (hc:fE p.cells i=some c) (h:c.u=true∧0≤fy p.cells∧fy p.cells≤i):jR p i=F7 p (F6 p i c.n):=by
 unfold jR;rw[aJ hp,hc];exact aJ h
theorem NP {p:Pool} {i:Int} (hc:fE p.cells i=none):jR p i=(p,false):=by
 unfold jR
 split
 ·rw[hc]
 ·rfl
theorem NQ {p:Pool} {i:Int} (hp:dg p=false):jR p i=(p,false):=by
 unfold jR;rw[aF (by rw[hp];simp)]
theorem tF {p:Pool} {x:Pool×Bool} (h:x.2=false):F7 p x=(p,false):=by
 unfold F7;rw[aF fun e=>by rw[h] at e;cases e.1]
theorem rR {p:Pool} {x:Pool×Bool} (h:dg x.1=false):F7 p x=(p,false):=by
 unfold F7;rw[aF fun e=>by rw[h] at e;cases e.2]
theorem rS {p:Pool} {x:Pool×Bool} (h1:x.2=true) (h2:dg x.1=true):F7 p x=(x.1,true):=by
 unfold F7;rw[aJ ⟨h1,h2⟩]
theorem Wc {p:Pool} {i:Int} {c:Cell} (hp:dg p=true) (hc:fE p.cells i=some c):iN c.n=true:=by
 have h:=wZ hp;simp only[eY,fk] at h;have:=List.all_eq_true.1 h.1 c (D2 hc);simp only[kU,fk] at this;exact this.2.1
theorem ahp {p:Pool} (hp:dg p=true):p.cells.length=24:=by
 have h:=wZ hp;simp only[eY,fk,decide_eq_true_eq] at h;exact h.2
theorem NR (p:Pool) (i:Int) (hS:aN p≤1048576):au C Dt [dQ p,vI i] (tPB (jR p i)) []:=by
 have KS:aN p≤4194304:=by omega
 have hP:=cJ KS;have htl:=fz p.t;have IK:=cG p KS;have hok:=gY p KS;have hin:=tE i 0 ((p.cells.length:Int)-1)
 have hsl:cV (Int.ofNat (p.cells.map bQ).length) 1=(p.cells.length:Int)-1:=by rw[ct];exact dx rV
 rw[←hsl] at hin;refine(St _ _ _ _ _ _ _ _ ?_).run
 cases hg:dg p with
 |false=>
  rw[hg] at hok;rw[NQ hg];exact bL
 |true=>
 rw[hg] at hok
 cases hc:fE p.cells i with
 |none=>
  have h1:iM i 0 (cV (Int.ofNat (p.cells.map bQ).length) 1)=false:=by
   rw[hsl];unfold iM;refine fO fun h=> ?_
   obtain⟨a,ha⟩:=mz (l:=p.cells) h.1 an;rw[hc] at ha;cases ha
  rw[h1] at hin;rw[NP hc];exact bL
 |some c=>
  have hi:0≤i∧i<p.cells.length:=Classical.byContradiction fun hn=>by rw[gR hn] at hc;cases hc
  have h1:iM i 0 (cV (Int.ofNat (p.cells.map bQ).length) 1)=true:=by rw[hsl];unfold iM;exact gq an
  rw[h1] at hin
  have hrc:rowAt (p.cells.map bQ) i=some [iI c.g,iB c.u,iI c.n]:=by rw[aV,hc];rfl
  cases hu:c.u with
  |false=>
   rw[hu] at hrc;rw[wD hc fun h=>by rw[hu] at h;cases h.1];exact bL
  |true=>
  rw[hu] at hrc;have tk:=B9 p.cells c.n an;have hk:=Gh p KS i
  by_cases hf:0≤fy p.cells
  ·have uD:=wV ⟨wZ hg,Wc hg hc,hf⟩
   obtain⟨cs,hcs⟩: ∃cs,cs=p.cells.modify (fy p.cells).toNat (fun d=>⟨d.g,true,c.n⟩):=⟨_,rfl⟩;rw[←hcs] at uD
   have hcl:cs.length=p.cells.length:=by rw[hcs,Re]
   obtain⟨d,hd,afD⟩:=zT uD
   have hrd:rowAt (cs.map bQ) (fy p.cells)=some [iI d.g,iB d.u,iI d.n]:=by rw[aV,hd];rfl
   clear hcs;rw[uD] at tk
   by_cases hle:fy p.cells≤i
   ·have cl:bG i (fy p.cells)=false:=by rw[eX];exact fO an
    rw[NO hg hc ⟨hu,hf,hle⟩];have tp:=tX p.t (sn p i c.n) an;have fc:=B6 cs i an;have hk:=Gh p KS i
    have hmk:sn p i c.n=⟨(jZ p i).b,(jZ p i).a,(jZ p i).k,fy p.cells,d.g⟩:=by unfold sn;rw[uD];simp only[];rw[afD]
    have hX:F6 p i c.n=(⟨(bB p.t (sn p i c.n)).1,p.aL,ke cs i,p.av,p.next⟩,(bB p.t (sn p i c.n)).2):=by unfold F6;rw[uD]
    have hsz:=vT p.t (sn p i c.n)
    have hXs:aN (F6 p i c.n).1≤4194304:=by
     have h1:=Fy cs i;rw[hX];unfold aN at hS ⊢;simp only[];omega
    have pk2:=gY (F6 p i c.n).1 hXs;rw[hmk] at tp hX;obtain⟨T,b,hT⟩: ∃T b,bB p.t ⟨(jZ p i).b,(jZ p i).a,(jZ p i).k,fy p.cells,d.g⟩=(T,b):=⟨_,_,rfl⟩;rw[hT] at tp hX
    cases b with
    |false=>
     rw[tF (by rw[hX])];exact bL
    |true=>
     cases hg:dg (F6 p i c.n).1 with
     |false=>
      rw[rR hg];rw[hg,hX] at pk2;exact bL
     |true=>
      rw[rS (by rw[hX]) hg,hX];rw[hg,hX] at pk2;exact bL
   ·have cl:bG i (fy p.cells)=true:=by rw[eX];exact gq an
    rw[wD hc fun h=>hle h.2.2];exact bL
  ·rw[qA fun h=>hf h.2.2] at tk
   rw[wD hc fun h=>hf h.2.1];exact bL
theorem NS (p:Pool) (i:Int) (hS:aN p≤1048576):au C fF [dQ p,vI i] (tPB (jR p i)) []:=by
 have KS:aN p≤4194304:=by omega
 have hP:=cJ KS;have htl:=fz p.t;have IK:=bR p KS;have hok:=fq p KS;have hin:=nM i 0 23;have hfr:=Gd p.cells an;refine(SN _ _ _ _ _ _ _ _ ?_).run
 cases hg:dg p with
 |false=>
  rw[hg] at hok;rw[NQ hg];exact bL
 |true=>
 rw[hg] at hok;have h24:=ahp hg
 cases hc:fE p.cells i with
 |none=>
  have h1:iM i 0 23=false:=by
   unfold iM;refine fO fun h=> ?_
   obtain⟨a,ha⟩:=mz (l:=p.cells) h.1 an;rw[hc] at ha;cases ha
  rw[h1] at hin;rw[NP hc];exact bL
 |some c=>
  have hi:0≤i∧i<p.cells.length:=Classical.byContradiction fun hn=>by rw[gR hn] at hc;cases hc
  have h1:iM i 0 23=true:=by unfold iM;exact gq an
  rw[h1] at hin
  have hrc:rowAt (p.cells.map bQ) i=some [iI c.g,iB c.u,iI c.n]:=by rw[aV,hc];rfl
  cases hu:c.u with
  |false=>
   rw[hu] at hrc;rw[wD hc fun h=>by rw[hu] at h;cases h.1];exact bL
  |true=>
  rw[hu] at hrc
  by_cases hf:0≤fy p.cells
  ·have cf:bG (fy p.cells) 0=false:=by rw[eX];exact fO an
   by_cases hle:fy p.cells≤i
   ·have cl:bG i (fy p.cells)=false:=by rw[eX];exact fO an
    have tk:=B8 p.cells c.n an;have uD:=wV ⟨wZ hg,Wc hg hc,hf⟩;obtain⟨cs,hcs⟩: ∃cs,cs=p.cells.modify (fy p.cells).toNat (fun d=>⟨d.g,true,c.n⟩):=⟨_,rfl⟩;rw[←hcs] at uD
    have hcl:cs.length=p.cells.length:=by rw[hcs,Re]
    obtain⟨d,hd,afD⟩:=zT uD
    have hrd:rowAt (cs.map bQ) (fy p.cells)=some [iI d.g,iB d.u,iI d.n]:=by rw[aV,hd];rfl
    clear hcs;rw[uD] at tk;obtain⟨Z,hZ⟩: ∃Z,Z=jR p i:=⟨_,rfl⟩;rw[←hZ];rw[NO hg hc ⟨hu,hf,hle⟩] at hZ
    have hmk:sn p i c.n=⟨(jZ p i).b,(jZ p i).a,(jZ p i).k,fy p.cells,d.g⟩:=by unfold sn;rw[uD];simp only[];rw[afD]
    have hX:F6 p i c.n=(⟨(bB p.t (sn p i c.n)).1,p.aL,ke cs i,p.av,p.next⟩,(bB p.t (sn p i c.n)).2):=by unfold F6;rw[uD]
    have tp:=tW p.t (sn p i c.n) an;have fc:=B7 cs i an;have hsz:=vT p.t (sn p i c.n)
    have hXs:aN (F6 p i c.n).1≤4194304:=by
     have h1:=Fy cs i;rw[hX];unfold aN at hS ⊢;simp only[];omega
    have pk2:=fq (F6 p i c.n).1 hXs;rw[hmk] at tp hX;obtain⟨Tn,bn,hT⟩: ∃T b,bB p.t ⟨(jZ p i).b,(jZ p i).a,(jZ p i).k,fy p.cells,d.g⟩=(T,b):=⟨_,_,rfl⟩;rw[hT] at tp hX;obtain⟨m,hm,hmo,hmu⟩:=afd (ae8 hg) hc hu;obtain⟨hml,_⟩:=List.getElem?_eq_some_iff.1 hm
    have fin:bn=true→ ∀T:Tree,T=Tn→ax C fF fQ (TX.ex 0) (xk i (fy p.cells) (Int.ofNat (List.length ((aC p.t).map bP))) ((aC p.t).length:Int) (bG ((aC p.t).length:Int) (Int.ofNat (List.length ((aC p.t).map bP)))) (p.t.aD.map bS) (p.t.nodes.map aR) (p.aL.map bW) (p.cells.map bQ) (p.av.map cu) p.next p.next (cs.map bQ) ((aC p.t).map bP) (T.aD.map bS) (T.nodes.map aR) (p.aL.map bW) (p.cells.map bQ) (p.av.map cu)) fun r fs=>r=tPB Z∧fs=[]:=by
     intro hb T hTe;subst hTe hb;refine N3 _ _ _ _ _ _ _ _ _ _ _ _ _ _ _ _ _ _ _ _ ⟨_,fc,?_⟩
     cases hgx:dg (F6 p i c.n).1 with
     |false=>
      rw[rR hgx] at hZ;rw[hgx,hX] at pk2;exact⟨_,pk2,ai rfl ⟨_,_,_,_,_,_,IK,by rw[hZ],rfl⟩⟩
     |true=>
      rw[rS (by rw[hX]) hgx,hX] at hZ;rw[hgx,hX] at pk2;exact⟨_,pk2,aa rfl ⟨by rw[hZ],rfl⟩⟩
    have key: ∀T:Tree,(0≤m→T=p.t)→(m<0→T=Tn∧bn=true)→ah C fF fQ 4 0 (ku i (fy p.cells) ((aC p.t).map bP) ((0:Nat):Int) (p.t.aD.map bS) (p.t.nodes.map aR) (p.aL.map bW) (p.cells.map bQ) (p.av.map cu) p.next p.next (cs.map bQ) (T.aD.map bS) (T.nodes.map aR) (p.aL.map bW) (p.cells.map bQ) (p.av.map cu)) (fun x st=>ax C fF fQ x st fun r fs=>r=tPB Z∧fs=[]):=by
     refine bh (aC p.t) (fun j=> ∀T:Tree,(j≤m→T=p.t)→(m<j→T=Tn∧bn=true)→ah C fF fQ 4 0 (ku i (fy p.cells) ((aC p.t).map bP) (j:Int) (p.t.aD.map bS) (p.t.nodes.map aR) (p.aL.map bW) (p.cells.map bQ) (p.av.map cu) p.next p.next (cs.map bQ) (T.aD.map bS) (T.nodes.map aR) (p.aL.map bW) (p.cells.map bQ) (p.av.map cu)) (fun x st=>ax C fF fQ x st fun r fs=>r=tPB Z∧fs=[])) ?_ ?_
     ·intro T h1 h2
      have h2:=h2 hml;exact CS _ _ _ _ _ _ _ _ _ _ _ _ _ _ _ _ _ _ (aa dh (fin h2.2 T h2.1))
     ·intro j a hj ha hd2 ht hn T h1 h2
      have hr:rowAt ((aC p.t).map bP) (j:Int)=some [iI a.b,iI a.a,iI a.k,iI a.c,iI a.g]:=by rw[aV,aI,ha];rfl
      have v8:aA (j:Int) 1=(j:Int)+1:=aG an;refine CS _ _ _ _ _ _ _ _ _ _ _ _ _ _ _ _ _ _ (ai rV ⟨_,_,_,_,_,hr,_,_,_,_,_,hr,?_⟩);rw[v8]
      by_cases hjm:j=m
      ·have hak:a=jZ p i:=by rw[hjm,hm] at ha;exact(Option.some.inj ha).symm
       subst hak;unfold pK at hmo;simp only[fk,decide_eq_true_eq] at hmo;refine ai (by rw[bF];exact gq hmo.1) (ai (by rw[bF];exact gq hmo.2) ⟨_,_,_,hrd,_,_,_,hrd,_,_,_,tp,?_⟩)
       cases hb:bn with
       |false=>
        rw[tF (by rw[hX,hb])] at hZ;exact ai rfl ⟨_,_,_,_,_,_,IK,N2 _ _ _ _ _ _ _ _ _ _ _ _ _ _ _ _ _ _ _ _ _ _ _ _ _ _ _ _ ⟨by rw[hZ],rfl⟩⟩
       |true=>exact aa rfl (hn Tn (fun h=>by omega) (fun _=>⟨rfl,hb⟩))
      ·have hno:pK i a=false:=by
        cases ho:pK i a with
        |false=>rfl
        |true=>exact absurd (hmu j a ha ho) hjm
       have hgo:=hn T (fun h=>h1 an) (fun h=>h2 an);unfold pK at hno
       by_cases ha1:a.k=1
       ·have ha2: ¬a.c=i:=fun e=>by simp[ha1,e] at hno
        exact ai (by rw[bF];exact gq ha1) (aa (by rw[bF];exact fO ha2) hgo)
       ·exact aa (by rw[bF];exact fO ha1) hgo
    have k0:=key p.t (fun _=>rfl) (fun h=>by omega);have hkk:=ko p.t an;exact bL
   ·have cl:bG i (fy p.cells)=true:=by rw[eX];exact gq an
    rw[wD hc fun h=>hle h.2.2];exact bL
  ·have cf:bG (fy p.cells) 0=true:=by rw[eX];exact gq an
   rw[wD hc fun h=>hf h.2.1];exact bL
theorem RI {l:List Age} {id:Int} {a:Age} (h:g9 l=true) (ha:fE l (fA l id)=some a):vU l id=((pL l id a.fr).take (fA l id).toNat++(pL l id a.fr).drop ((fA l id).toNat+1),true):=by
 unfold vU;rw[aJ h,ha]
theorem RJ {l:List Age} {id:Int} (ha:fE l (fA l id)=none):vU l id=(l,false):=by
 unfold vU
 split
 ·rw[ha]
 ·rfl
theorem Wd {l:List Age} {id:Int} (h:g9 l=false):vU l id=(l,false):=by
 unfold vU;rw[aF (by rw[h];simp)]
theorem We {α:Type} (f:α→α): ∀(l1:List α) (x:α) (l2:List α),(l1++x::l2).modify l1.length f=l1++f x::l2
 |[],x,l2=>List.modify_zero_cons _ _ _
 |a::r,x,l2=>by rw[Rb,gn,List.modify_succ_cons,We f r x l2];rfl
theorem afq {l:List Age} {id fr:Int} {j:Nat} {x:Age} (h:l[j]?=some x):(pL l id fr)[j]?=some (if x.fr=id then {x with fr:=fr} else x):=by
 unfold pL;rw[mm,h];rfl
theorem Si (l:List Age) (id:Int) (hl:l.length≤1073741800):au C fC [gL l,vI id] (TV.tu [(0,[TC.sub 2 ((vU l id).1.map bW)]),(0,[iB (vU l id).2])]) []:=by
 have hat:=qg l id an;have hok:au C dI [gL l] (vB (g9 l)) []:=yP l an
 have IK:(bT (l.map bW)&&fits (Nat.add 0 (List.length (l.map bW))) 16)=true:=by rw[zZ,cT rV];rfl
 refine(YD _ _ _ ?_).run
 by_cases h1:fA l id<0
 ·have cl:bG (fA l id) 0=true:=by rw[eX];exact gq h1
  rw[RJ (gR an)];exact bL
 ·have cl:bG (fA l id) 0=false:=by rw[eX];exact fO h1
  cases hg:g9 l with
  |false=>
   rw[hg] at hok;rw[Wd hg];exact bL
  |true=>
   rw[hg] at hok;obtain⟨a,ha,_⟩:=Ky l id h1;rw[RI hg ha];have hlt:=adb l id;obtain⟨k,hk⟩: ∃k:Nat,fA l id=k:=⟨(fA l id).toNat,by omega⟩;rw[hk] at hat ha cl hlt ⊢;rw[mT]
   have hra:rowAt (l.map bW) (k:Int)=some [iI a.id,iI a.fr]:=by rw[aV,ha];rfl
   obtain⟨W,hW⟩: ∃W,W=pL l id a.fr:=⟨_,rfl⟩
   have hWl:W.length=l.length:=by rw[hW];exact FC _ _ _
   rw[←hW];obtain⟨U,hU⟩: ∃U,U=W.take k++W.drop (k+1):=⟨_,rfl⟩
   have hUl:U.length≤l.length:=by rw[hU,cM,fu,jd];omega
   rw[←hU]
   have key: ∀acc:List Age,acc++(if 0≤k then(W.drop 0).take (k-0)++W.drop (k+1) else W.drop 0)=U→ah C fC bN 4 0 (iJ (l.map bW) id (k:Int) ((0:Nat):Int) (acc.map bW)) (fun x st=>ax C fC bN x st fun r fs=>r=(TV.tu [(0,[TC.sub 2 (U.map bW)]),(0,[iB true])])∧fs=[]):=by
    refine bh l (fun j=> ∀acc:List Age,acc++(if j≤k then(W.drop j).take (k-j)++W.drop (k+1) else W.drop j)=U→ah C fC bN 4 0 (iJ (l.map bW) id (k:Int) (j:Int) (acc.map bW)) (fun x st=>ax C fC bN x st fun r fs=>r=(TV.tu [(0,[TC.sub 2 (U.map bW)]),(0,[iB true])])∧fs=[])) ?_ ?_
    ·intro acc h0
     have hk2: ¬l.length≤k:=by omega
     rw[aF hk2,←hWl,eK,qv] at h0;exact HK _ _ _ _ _ _ (aa dh (SZ _ _ _ _ _ _ _ ⟨by rw[h0],rfl⟩))
    ·intro j x hj hx hd ht hn acc h0
     have hlen:=congrArg List.length h0;rw[cM] at hlen
     have hr:rowAt (l.map bW) (j:Int)=some [iI x.id,iI x.fr]:=by rw[aV,aI,hx];rfl
     have v8:aA (j:Int) 1=(j:Int)+1:=aG an;have hw:=afq (id:=id) (fr:=a.fr) hx;rw[←hW] at hw
     obtain⟨y,hy⟩: ∃y:Age,y=if x.fr=id then {x with fr:=a.fr} else x:=⟨_,rfl⟩
     rw[←hy] at hw;obtain⟨hjw,hwe⟩:=List.getElem?_eq_some_iff.1 hw
     have hdw:W.drop j=y::W.drop (j+1):=by rw[KT hjw,hwe]
     have nx: ¬j=k→ah C fC bN 4 0 (iJ (l.map bW) id (k:Int) ((j:Int)+1) ((acc++[y]).map bW)) (fun x st=>ax C fC bN x st fun r fs=>r=(TV.tu [(0,[TC.sub 2 (U.map bW)]),(0,[iB true])])∧fs=[]):=by
      intro hne;refine hn (acc++[y]) ?_;rw[←h0]
      by_cases h:j≤k
      ·rw[aJ h,aJ an,hdw,show k-j=(k-(j+1))+1 from by omega,List.take_succ_cons];simp
      ·rw[aF h,aF an,hdw];simp
     have sk:j=k→ah C fC bN 4 0 (iJ (l.map bW) id (k:Int) ((j:Int)+1) (acc.map bW)) (fun x st=>ax C fC bN x st fun r fs=>r=(TV.tu [(0,[TC.sub 2 (U.map bW)]),(0,[iB true])])∧fs=[]):=by
      intro he;refine hn acc ?_;rw[←h0,he,aJ (de _),aF an,qT,List.take_zero,xy]
     refine HK _ _ _ _ _ _ (ai rV ⟨_,_,hr,?_⟩);rw[v8]
     have hfit: ∀u v:Int,(bT [[iI u,iI v]]&&fits (Nat.succ (List.length (acc.map bW))) 16)=true:=fun u v=>by rw[vP,cT rV];rfl
     by_cases hf:x.fr=id
     ·rw[aJ hf] at hy
      subst hy;refine ai (by rw[bF];exact gq hf) ⟨_,_,hra,?_⟩
      (try dsimp only)
      rw[BR]
      by_cases hjk:j=k
      ·exact aa (by rw[bF,hjk];simp) (sk hjk)
      ·exact ai (by rw[bF];simp;omega) (ai (hfit _ _) (nx hjk))
     ·rw[aF hf] at hy
      subst hy;refine aa (by rw[bF];exact fO hf) ?_;rw[BR]
      by_cases hjk:j=k
      ·exact aa (by rw[bF,hjk];simp) (sk hjk)
      ·exact ai (by rw[bF];simp;omega) (ai (hfit _ _) (nx hjk))
   have k0:=key [] (by rw[aJ (F1 _),xy,List.drop_zero,Nat.sub_zero,hU]);exact bL
theorem Wf (l:List Age) (k:Nat) (hk:k<l.length):au C B4 [gL l,vI (k:Int),vI ((k:Int)+1)] (gL (l.take k++l.drop (k+1))) []:=by
 refine au.ext (p:=ajF 2) rfl ?_;unfold ajF;simp only[];rw[aJ ⟨trivial,by omega,by simp<;>omega,trivial⟩,mT,show((k:Int)+1).toNat=k+1 from by omega];unfold gL;rw[ux,IM,DN]
theorem Sj (l:List Age) (id:Int) (hl:l.length≤1073741800):au C jU [gL l,vI id] (TV.tu [(0,[TC.sub 2 ((vU l id).1.map bW)]),(0,[iB (vU l id).2])]) []:=by
 have hat:=w9 l id an;have IK:=oV l an;have hok:au C dK [gL l] (vB (g9 l)) []:=yR l an;refine(YP _ _ _ ?_).run
 by_cases h1:fA l id<0
 ·have cl:bG (fA l id) 0=true:=by rw[eX];exact gq h1
  rw[RJ (gR an)];exact bL
 ·have cl:bG (fA l id) 0=false:=by rw[eX];exact fO h1
  cases hg:g9 l with
  |false=>
   rw[hg] at hok;rw[Wd hg];exact bL
  |true=>
   rw[hg] at hok;obtain⟨a,ha,_⟩:=Ky l id h1;rw[RI hg ha];have hlt:=adb l id;obtain⟨k,hk⟩: ∃k:Nat,fA l id=k:=⟨(fA l id).toNat,by omega⟩;rw[hk] at hat ha cl hlt ⊢;rw[mT]
   have hra:rowAt (l.map bW) (k:Int)=some [iI a.id,iI a.fr]:=by rw[aV,ha];rfl
   have key: ∀M:List Age,M=pL (l.take 0) id a.fr++l.drop 0→ah C jU bN 4 0 (oe (l.map bW) id (k:Int) (l.map bW) ((0:Nat):Int) (M.map bW)) (fun x st=>ax C jU bN x st fun r fs=>r=(TV.tu [(0,[TC.sub 2 (((pL l id a.fr).take k++(pL l id a.fr).drop (k+1)).map bW)]),(0,[iB true])])∧fs=[]):=by
    refine bh l (fun j=> ∀M:List Age,M=pL (l.take j) id a.fr++l.drop j→ah C jU bN 4 0 (oe (l.map bW) id (k:Int) (l.map bW) (j:Int) (M.map bW)) (fun x st=>ax C jU bN x st fun r fs=>r=(TV.tu [(0,[TC.sub 2 (((pL l id a.fr).take k++(pL l id a.fr).drop (k+1)).map bW)]),(0,[iB true])])∧fs=[])) ?_ ?_
    ·intro M hM
     rw[we,eK,qv] at hM;subst hM;have hdl:=Wf (pL l id a.fr) k (by rw[FC];omega);have v8:aA (k:Int) 1=(k:Int)+1:=aG an;rw[←v8] at hdl;exact HT _ _ _ _ _ _ _ (aa dh (Te _ _ _ _ _ _ _ _ ⟨_,hdl,rfl,rfl⟩))
    ·intro j x hj hx hd ht hn M hM
     have hml:(pL (l.take j) id a.fr).length=j:=by rw[FC,fu];omega
     have hmj:M[j]?=some x:=by rw[hM,pP an,hml,qT,hd];rfl
     have hr:rowAt (M.map bW) (j:Int)=some [iI x.id,iI x.fr]:=by rw[aV,aI,hmj];rfl
     have v8:aA (j:Int) 1=(j:Int)+1:=aG an
     have hre:pL (l.take (j+1)) id a.fr=pL (l.take j) id a.fr++[if x.fr=id then {x with fr:=a.fr} else x]:=by
      rw[ht];unfold pL;rw[ux];rfl
     refine HT _ _ _ _ _ _ _ (ai rV ⟨_,_,hr,_,_,hr,?_⟩);rw[v8]
     by_cases hf:x.fr=id
     ·refine ai (by rw[bF];exact gq hf) ⟨_,_,hra,_,_,hr,_,_,hr,?_⟩
      (try dsimp only)
      rw[aaj];refine hn _ ?_;rw[hre,aJ hf,hM,hd,mT];have hmm:=We (fun z:Age=>{z with fr:=a.fr}) (pL (l.take j) id a.fr) x (l.drop (j+1));rw[hml] at hmm;rw[hmm];simp
     ·refine aa (by rw[bF];exact fO hf) (hn M ?_)
      rw[hre,aF hf,hM,hd];simp
   have k0:=key l rfl;exact bL
theorem JL (p:Pool):dj p=(0,0)∨(∃i k,(dj p=(1,i)∨dj p=(2,i))∧fE (aC p.t) i=some k)∨
 (∃i k x,dj p=(3,i)∧fE (aC p.t) i=some k∧fE (eJ p.aL k.a) 0=some x∧D4 p k.a=x)∨ ∃i a,dj p=(4,i)∧fE p.aL i=some a:=by
 unfold dj
 split
 ·split
  ·rename_i h
   obtain⟨k,hk,_⟩:=wU (sj p 1) (aC p.t) (by unfold mY at h;omega);exact .inr (.inl ⟨_,k,.inl rfl,hk⟩)
  ·split
   ·rename_i h
    obtain⟨k,hk,_⟩:=wU (sj p 2) (aC p.t) (by unfold mY at h;omega);exact .inr (.inl ⟨_,k,.inr rfl,hk⟩)
   ·split
    ·rename_i h
     obtain⟨k,hk,h3⟩:=wU (sj p 3) (aC p.t) (by unfold mY at h;omega);have h3:aan p k=true:=h3;unfold aan at h3
     split at h3
     ·cases h3
     ·rename_i h0
      have hx: ∃x,fE (eJ p.aL k.a) 0=some x∧D4 p k.a=x:=by
       unfold D4 at h0 ⊢
       split
       ·rename_i hh
        obtain⟨x,hx⟩:=mz (l:=eJ p.aL k.a) (i:=0) an an;exact⟨x,hx,by rw[hx]⟩
       ·rename_i hh;rw[aF hh] at h0;exact absurd rfl h0
      obtain⟨x,hx1,hx2⟩:=hx;exact .inr (.inr (.inl ⟨_,k,x,rfl,hk,hx1,hx2⟩))
    ·split
     ·rename_i h
      obtain⟨a,ha,_⟩:=wU (ve p) p.aL (by unfold LK at h;omega);exact .inr (.inr (.inr ⟨_,a,rfl,ha⟩))
     ·exact .inl rfl
 ·exact .inl rfl
theorem adK (p:Pool) (k:Key):aN (BX p k).1≤aN p+520:=by
 have h1:=vT p.t (gi k);have h2:=vT (bB p.t (gi k)).1 (FD p k);unfold BX aN;simp only[];omega
theorem agq (p:Pool) (id:Int):aN (XD p id).1≤aN p:=by
 have:=afa p.aL id;unfold XD aN;simp only[];omega
theorem oW {p:Pool} {j i:Int} {X:Pool×Bool} (h:dj p=(j,i)) (hj: ¬j=0) (hX:RE p j i=X):jS p=F7 p X:=by
 unfold jS;rw[h,aF hj,hX]
theorem KG {p:Pool} {j i:Int} {k:Key} (hj:j=1∨j=2) (hk:fE (aC p.t) i=some k):RE p j i=dZ p (gi k):=by
 unfold RE UK;rw[aF an,aF an,hk]
theorem Wg {p:Pool} {i:Int} {k:Key} (hk:fE (aC p.t) i=some k):RE p 3 i=BX p k:=by
 unfold RE UK;rw[aF an,aJ rfl,hk]
theorem aav {p:Pool} {i:Int} {a:Age} (ha:fE p.aL i=some a):RE p 4 i=XD p a.id:=by
 unfold RE;rw[aJ rfl,ha]
theorem Eb (p:Pool) (hS:aN p≤4194304) (k:Key):au C zO [.bx (wk p),uG k] (vB (dZ p (gi k)).2) [.bx (wk (dZ p (gi k)).1)]:=
 (W7 _ _ _ _ _ _ _ _ _ _ _ _ ⟨_,_,_,_,_,_,_,vj p hS (gi k),rfl,by trivial⟩).run
theorem uB (p:Pool) (hS:aN p≤4194304) (j i:Int) (k:Key) (hj:j=1∨j=2) (hk:fE (aC p.t) i=some k):au C oP [.bx (wk p),vI j,vI i] (vB (dZ p (gi k)).2) [.bx (wk (dZ p (gi k)).1)]:=by
 have hP:=cJ hS;have htl:=fz p.t;have hkk:=ko p.t an
 have hrk:rowAt ((aC p.t).map bP) i=some [iI k.b,iI k.a,iI k.k,iI k.c,iI k.g]:=by rw[aV,hk];rfl
 have pk:=nS p hS (gi k);generalize dZ p (gi k)=X at*;refine(p8 _ _ _ _ _ _ _ _ _ ?_).run
 have c1:bO j 4=false:=by rw[bF];exact fO an
 have c2:(!bO j 3)=true:=by rw[bF,fO an];rfl
 exact bL
theorem Bs (p:Pool) (hS:aN p≤4194304) (i:Int) (a:Age) (ha:fE p.aL i=some a):au C oP [.bx (wk p),vI 4,vI i] (vB (XD p a.id).2) [.bx (wk (XD p a.id).1)]:=by
 have hP:=cJ hS
 have hra:rowAt (p.aL.map bW) i=some [iI a.id,iI a.fr]:=by rw[aV,ha];rfl
 have ca:=Sj p.aL a.id an;refine(p8 _ _ _ _ _ _ _ _ _ ?_).run;unfold XD;exact bL
theorem AJ (p:Pool) (hS:aN p≤4194304) (i:Int) (k:Key) (x:Int) (hk:fE (aC p.t) i=some k) (hx:fE (eJ p.aL k.a) 0=some x) (he:D4 p k.a=x): ∃X:Pool,au C oP [.bx (wk p),vI 3,vI i] (vB (BX p k).2) [.bx (wk X)]∧((BX p k).2=true→X=(BX p k).1):=by
 have hP:=cJ hS;have htl:=fz p.t;have hkk:=ko p.t an;have hkd:=vh p.aL k.a an
 have hrk:rowAt ((aC p.t).map bP) i=some [iI k.b,iI k.a,iI k.k,iI k.c,iI k.g]:=by rw[aV,hk];rfl
 have hrx:rowAt ((eJ p.aL k.a).map bS) 0=some [iI x]:=by rw[aV,hx];rfl
 have h1:=vT p.t (gi k);have tp:=tW p.t (gi k) an;have tq:=tW (bB p.t (gi k)).1 (FD p k) an
 have aql:FD p k=⟨k.b,x,k.k,k.c,k.g⟩:=by unfold FD;rw[he]
 rw[aql] at tq;unfold BX;rw[aql];obtain⟨T,b,hT⟩: ∃T b,bB p.t (gi k)=(T,b):=⟨_,_,rfl⟩;rw[hT] at tp tq ⊢;obtain⟨U,c,hU⟩: ∃U c,bB T ⟨k.b,x,k.k,k.c,k.g⟩=(U,c):=⟨_,_,rfl⟩;simp only[] at tq ⊢;rw[hU] at tq ⊢;simp only[]
 cases b with
 |false=>
  refine⟨p,?_,fun h=>by cases h⟩;refine(p8 _ _ _ _ _ _ _ _ _ ?_).run;exact bL
 |true=>
  refine⟨⟨U,p.aL,p.cells,p.av,p.next⟩,?_,fun _=>rfl⟩;refine(p8 _ _ _ _ _ _ _ _ _ ?_).run;exact bL
theorem Md (p:Pool) (hS:aN p≤1048576):au C Ax [dQ p] (tPB (jS p)) []:=by
 have KS:aN p≤4194304:=by omega
 have hP:=cJ KS;have htl:=fz p.t;have IK:=cG p KS;have hns:=NG p KS;have hkk:=kk p.t an;refine(QE _ _ _ _ _ _ _ ?_).run;rcases JL p with h0|⟨i,k,hn,hk⟩|⟨i,k,x,hn,hk,hx,he⟩|⟨i,a,hn,ha⟩
 ·have hps:jS p=(p,false):=by unfold jS;rw[h0];rfl
  rw[h0] at hns;rw[hps];exact bL
 ·have hrk:rowAt ((aC p.t).map bP) i=some [iI k.b,iI k.a,iI k.k,iI k.c,iI k.g]:=by rw[aV,hk];rfl
  rcases hn with hn|hn
  ·rw[hn] at hns
   have hj:(1:Int)=1∨(1:Int)=2:= .inl rfl;have hps:=oW hn an rfl;rw[hps];have hsz:=tr p (gi k);have hrun:=Eb p KS k;rw[KG hj hk];generalize dZ p (gi k)=X at*;have pk:=gY X.1 an
   cases hb:X.2 with
   |false=>
    rw[hb] at hrun;rw[tF hb];exact bL
   |true=>
    rw[hb] at hrun
    cases hg:dg X.1 with
    |false=>
     rw[hg] at pk;rw[rR hg];exact bL
    |true=>
     rw[hg] at pk;rw[rS hb hg];exact bL
  ·rw[hn] at hns
   have hj:(2:Int)=1∨(2:Int)=2:= .inr rfl;have hps:=oW hn an rfl;rw[hps];have hsz:=tr p (gi k);have hrun:=Eb p KS k;rw[KG hj hk];generalize dZ p (gi k)=X at*;have pk:=gY X.1 an
   cases hb:X.2 with
   |false=>
    rw[hb] at hrun;rw[tF hb];exact bL
   |true=>
    rw[hb] at hrun
    cases hg:dg X.1 with
    |false=>
     rw[hg] at pk;rw[rR hg];exact bL
    |true=>
     rw[hg] at pk;rw[rS hb hg];exact bL
 ·have hrk:rowAt ((aC p.t).map bP) i=some [iI k.b,iI k.a,iI k.k,iI k.c,iI k.g]:=by rw[aV,hk];rfl
  rw[hn] at hns;have hps:=oW hn an (Wg hk);have hsz:=adK p k;have h1:=vT p.t (gi k);have tp:=tX p.t (gi k) an;have tq:=tX (bB p.t (gi k)).1 (FD p k) an;have kd:=Ge p KS k.a;have pk:=gY (BX p k).1 an;rw[hps];unfold FD at tq
  cases hb1:(bB p.t (gi k)).2 with
  |false=>
   rw[tF (by unfold BX;simp only[];rw[hb1];rfl)];obtain⟨T,hT⟩: ∃T,bB p.t (gi k)=(T,false):=⟨(bB p.t (gi k)).1,by rw[←hb1]⟩;rw[hT] at tp tq;exact bL
  |true=>
   obtain⟨T,hT⟩: ∃T,bB p.t (gi k)=(T,true):=⟨(bB p.t (gi k)).1,by rw[←hb1]⟩;rw[hT] at tp tq;simp only[] at tq;obtain⟨U,c,hU⟩: ∃U c,bB T ⟨k.b,D4 p k.a,k.k,k.c,k.g⟩=(U,c):=⟨_,_,rfl⟩;rw[hU] at tq
   have hM:BX p k=(⟨U,p.aL,p.cells,p.av,p.next⟩,c):=by unfold BX FD;rw[hT];simp only[];rw[hU];rfl
   rw[hM] at pk ⊢
   cases c with
   |false=>
    rw[tF rfl];exact bL
   |true=>
    cases hg:dg ⟨U,p.aL,p.cells,p.av,p.next⟩ with
    |false=>
     rw[rR hg];rw[hg] at pk;exact bL
    |true=>
     rw[rS rfl hg];rw[hg] at pk;exact bL
 ·have hra:rowAt (p.aL.map bW) i=some [iI a.id,iI a.fr]:=by rw[aV,ha];rfl
  rw[hn] at hns;have hps:=oW hn an (aav ha);have hrun:=Si p.aL a.id an;have hsz:=agq p a.id;have pk:=gY (XD p a.id).1 an;rw[hps];unfold XD at pk ⊢;generalize vU p.aL a.id=Y at*;obtain⟨Y,b⟩:=Y
  cases b with
  |false=>
   rw[tF rfl];exact bL
  |true=>
   cases hg:dg ⟨p.t,Y,p.cells,p.av,p.next⟩ with
   |false=>
    rw[rR hg];simp only[] at pk;rw[hg] at pk;exact bL
   |true=>
    rw[rS rfl hg];simp only[] at pk;rw[hg] at pk;exact bL
theorem Me (p:Pool) (hS:aN p≤1048576):au C Ay [dQ p] (tPB (jS p)) []:=by
 have KS:aN p≤4194304:=by omega
 have hP:=cJ KS;have htl:=fz p.t;have IK:=bR p KS;have hns:=NH p KS;have hkk:=ko p.t an;refine(QU _ _ _ _ _ _ _ ?_).run;rcases JL p with h0|⟨i,k,hn,hk⟩|⟨i,k,x,hn,hk,hx,he⟩|⟨i,a,hn,ha⟩
 ·have hps:jS p=(p,false):=by unfold jS;rw[h0];rfl
  rw[h0] at hns;rw[hps];exact bL
 ·have hrk:rowAt ((aC p.t).map bP) i=some [iI k.b,iI k.a,iI k.k,iI k.c,iI k.g]:=by rw[aV,hk];rfl
  rcases hn with hn|hn
  ·rw[hn] at hns
   have hj:(1:Int)=1∨(1:Int)=2:= .inl rfl;have hps:=oW hn an rfl;rw[hps];have hsz:=tr p (gi k);have hrun:=uB p KS _ i k hj hk;rw[KG hj hk];generalize dZ p (gi k)=X at*;have pk:=fq X.1 an
   cases hb:X.2 with
   |false=>
    rw[hb] at hrun;rw[tF hb];exact bL
   |true=>
    rw[hb] at hrun
    cases hg:dg X.1 with
    |false=>
     rw[hg] at pk;rw[rR hg];exact bL
    |true=>
     rw[hg] at pk;rw[rS hb hg];exact bL
  ·rw[hn] at hns
   have hj:(2:Int)=1∨(2:Int)=2:= .inr rfl;have hps:=oW hn an rfl;rw[hps];have hsz:=tr p (gi k);have hrun:=uB p KS _ i k hj hk;rw[KG hj hk];generalize dZ p (gi k)=X at*;have pk:=fq X.1 an
   cases hb:X.2 with
   |false=>
    rw[hb] at hrun;rw[tF hb];exact bL
   |true=>
    rw[hb] at hrun
    cases hg:dg X.1 with
    |false=>
     rw[hg] at pk;rw[rR hg];exact bL
    |true=>
     rw[hg] at pk;rw[rS hb hg];exact bL
 ·have hrk:rowAt ((aC p.t).map bP) i=some [iI k.b,iI k.a,iI k.k,iI k.c,iI k.g]:=by rw[aV,hk];rfl
  rw[hn] at hns;have hps:=oW hn an (Wg hk);have hsz:=adK p k;have pk:=fq (BX p k).1 an;obtain⟨X0,hrun,hX0⟩:=AJ p KS i k x hk hx he;rw[hps];generalize BX p k=X at*
  cases hb:X.2 with
  |false=>
   rw[hb] at hrun;rw[tF hb];exact bL
  |true=>
   have hX0:=hX0 hb;subst hX0;rw[hb] at hrun
   cases hg:dg X.1 with
   |false=>
    rw[hg] at pk;rw[rR hg];exact bL
   |true=>
    rw[hg] at pk;rw[rS hb hg];exact bL
 ·have hra:rowAt (p.aL.map bW) i=some [iI a.id,iI a.fr]:=by rw[aV,ha];rfl
  rw[hn] at hns;have hps:=oW hn an (aav ha);have hrun:=Bs p KS i a ha;have hsz:=agq p a.id;rw[hps];generalize XD p a.id=X at*;have pk:=fq X.1 an
  cases hb:X.2 with
  |false=>
   rw[hb] at hrun;rw[tF hb];exact bL
  |true=>
   rw[hb] at hrun
   cases hg:dg X.1 with
   |false=>
    rw[hg] at pk;rw[rR hg];exact bL
   |true=>
    rw[hg] at pk;rw[rS hb hg];exact bL
theorem jl {p:Pool} {o:Xk} (h:VH o=true) (hp:dg p=true):kf p o=
 (if o.kind=1 then x9 p o.name o.a else if o.kind=2 then K5 p o.name o.to (decide (o.b=1)) else if o.kind=3 then Ji p o.name
  else if o.kind=4 then m0 p o.name o.a o.b else if o.kind=5 then mU p o.name o.a else if o.kind=6 then p5 p o.name o.a
  else if o.kind=7 then wz (jS p) else if o.kind=8 then wz (qf p o.a) else wz (jR p o.a)):=by
 unfold kf;rw[aJ ⟨h,hp⟩]
theorem FT {p:Pool} {o:Xk} (h: ¬(VH o=true∧dg p=true)):kf p o=(p,1):=by
 unfold kf;rw[aF h]
theorem aaw {o:Xk} (h:VH o=true):o.kind=1∨o.kind=2∨o.kind=3∨o.kind=4∨o.kind=5∨o.kind=6∨o.kind=7∨o.kind=8∨o.kind=9:=by
 unfold VH iM at h;simp only[fk,decide_eq_true_eq] at h;omega
theorem xW (p:Pool) (o:Xk) (hS:aN p≤1048576) (hk:o.kind=7∨o.kind=8∨o.kind=9):au C FI [dQ p,.ag (opC o)] (tPB (if o.kind=7 then jS p else if o.kind=8 then qf p o.a else jR p o.a)) []:=by
 have r1:=Md p hS;have r2:=NK p o.a an;have r3:=NR p o.a hS;obtain⟨k,s,t,a,b⟩:=o;refine(W6 _ _ _ _ _ _ _ _ _ _ _ _ ?_).run;simp only[] at hk r1 r2 r3 ⊢;rcases hk with rfl|rfl|rfl
 ·rw[aJ rfl]
  exact bL
 ·rw[aF (by decide),aJ rfl]
  exact bL
 ·rw[aF (by decide),aF (by decide)]
  exact bL
theorem xj (p:Pool) (o:Xk) (hS:aN p≤1048576) (h1:o.name.size≤1048576) (h2:o.to.size≤1048576):au C Aw [dQ p,.ag (opC o)] (Pf (kf p o)) []:=by
 have KS:aN p≤4194304:=by omega
 have IK:=cG p KS;have hop:=XZ o an an;have hok:=gY p KS
 cases h3:VH o with
 |false=>
  rw[h3] at hop;rw[FT fun h=>by rw[h3] at h;cases h.1];refine(FX _ _ _ _ _ _ _ _ _ _ _ _ ?_).run;exact bL
 |true=>
 cases h4:dg p with
 |false=>
  rw[h3] at hop;rw[h4] at hok;rw[FT fun h=>by rw[h4] at h;cases h.2];refine(FX _ _ _ _ _ _ _ _ _ _ _ _ ?_).run;exact bL
 |true=>
 rw[h3] at hop;rw[h4] at hok;have hkd:=aaw h3;obtain⟨k,s,t,a,b⟩:=o;simp only[] at hkd h1 h2;refine(FX _ _ _ _ _ _ _ _ _ _ _ _ ?_).run;rcases hkd with rfl|rfl|rfl|rfl|rfl|rfl|rfl|rfl|rfl
 ·have e:kf p ⟨1,s,t,a,b⟩=x9 p s a:=by rw[jl h3 h4,aJ rfl]
  rw[e];have r:=Sb p s a hS h1;exact bL
 ·have e:kf p ⟨2,s,t,a,b⟩=K5 p s t (decide (b=1)):=by rw[jl h3 h4,aF (show ¬((2:Int)=1) by decide),aJ rfl]
  rw[e];have r:=X6 p s t (decide (b=1)) hS h1 h2;rw[←bF] at r ⊢;exact bL
 ·have e:kf p ⟨3,s,t,a,b⟩=Ji p s:=by rw[jl h3 h4,aF (show ¬((3:Int)=1) by decide),aF (show ¬((3:Int)=2) by decide),aJ rfl]
  rw[e];have r:=X4 p s an an;exact bL
 ·have e:kf p ⟨4,s,t,a,b⟩=m0 p s a b:=by rw[jl h3 h4,aF (show ¬((4:Int)=1) by decide),aF (show ¬((4:Int)=2) by decide),aF (show ¬((4:Int)=3) by decide),aJ rfl]
  rw[e];have r:=Wa p s a b hS h1;exact bL
 ·have e:kf p ⟨5,s,t,a,b⟩=mU p s a:=by rw[jl h3 h4,aF (show ¬((5:Int)=1) by decide),aF (show ¬((5:Int)=2) by decide),aF (show ¬((5:Int)=3) by decide),aF (show ¬((5:Int)=4) by decide),aJ rfl]
  rw[e];have r:=PZ p s a hS h1;exact bL
 ·have e:kf p ⟨6,s,t,a,b⟩=p5 p s a:=by rw[jl h3 h4,aF (show ¬((6:Int)=1) by decide),aF (show ¬((6:Int)=2) by decide),aF (show ¬((6:Int)=3) by decide),aF (show ¬((6:Int)=4) by decide),aF (show ¬((6:Int)=5) by decide),aJ rfl]
  rw[e];have r:=Sf p s a hS h1;exact bL
 ·have e:kf p ⟨7,s,t,a,b⟩=wz (jS p):=by rw[jl h3 h4,aF (show ¬((7:Int)=1) by decide),aF (show ¬((7:Int)=2) by decide),aF (show ¬((7:Int)=3) by decide),aF (show ¬((7:Int)=4) by decide),aF (show ¬((7:Int)=5) by decide),aF (show ¬((7:Int)=6) by decide),aJ rfl]
  rw[e];have r:=xW p ⟨7,s,t,a,b⟩ hS dh;rw[aJ (show(7:Int)=7 from rfl)] at r;generalize jS p=Y at*;obtain⟨Y,c⟩:=Y;unfold wz
  cases c with
  |false=>
   rw[aF dh];exact bL
  |true=>
   rw[aJ rfl];exact bL
 ·have e:kf p ⟨8,s,t,a,b⟩=wz (qf p a):=by rw[jl h3 h4,aF (show ¬((8:Int)=1) by decide),aF (show ¬((8:Int)=2) by decide),aF (show ¬((8:Int)=3) by decide),aF (show ¬((8:Int)=4) by decide),aF (show ¬((8:Int)=5) by decide),aF (show ¬((8:Int)=6) by decide),aF (show ¬((8:Int)=7) by decide),aJ rfl]
  rw[e];have r:=xW p ⟨8,s,t,a,b⟩ hS dh;rw[aF (show ¬((8:Int)=7) by decide),aJ (show(8:Int)=8 from rfl)] at r;generalize qf p a=Y at*;obtain⟨Y,c⟩:=Y;unfold wz
  cases c with
  |false=>
   rw[aF dh];exact bL
  |true=>
   rw[aJ rfl];exact bL
 ·have e:kf p ⟨9,s,t,a,b⟩=wz (jR p a):=by rw[jl h3 h4,aF (show ¬((9:Int)=1) by decide),aF (show ¬((9:Int)=2) by decide),aF (show ¬((9:Int)=3) by decide),aF (show ¬((9:Int)=4) by decide),aF (show ¬((9:Int)=5) by decide),aF (show ¬((9:Int)=6) by decide),aF (show ¬((9:Int)=7) by decide),aF (show ¬((9:Int)=8) by decide)]
  rw[e];have r:=xW p ⟨9,s,t,a,b⟩ hS dh;rw[aF (show ¬((9:Int)=7) by decide),aF (show ¬((9:Int)=8) by decide)] at r;generalize jR p a=Y at*;obtain⟨Y,c⟩:=Y;unfold wz
  cases c with
  |false=>
   rw[aF dh];exact bL
  |true=>
   rw[aJ rfl];exact bL
theorem aH (p:Pool) (o:Xk) (hS:aN p≤1048576) (h1:o.name.size≤1048576) (h2:o.to.size≤1048576):au C eu [dQ p,.ag (opC o)] (Pf (kf p o)) []:=by
 have KS:aN p≤4194304:=by omega
 have IK:=bR p KS;have hop:=X3 o an an;have hok:=fq p KS
 cases h3:VH o with
 |false=>
  rw[h3] at hop;rw[FT fun h=>by rw[h3] at h;cases h.1];refine(FW _ _ _ _ _ _ _ _ _ _ _ _ ?_).run;exact bL
 |true=>
 cases h4:dg p with
 |false=>
  rw[h3] at hop;rw[h4] at hok;rw[FT fun h=>by rw[h4] at h;cases h.2];refine(FW _ _ _ _ _ _ _ _ _ _ _ _ ?_).run;exact bL
 |true=>
 rw[h3] at hop;rw[h4] at hok;have hkd:=aaw h3;obtain⟨k,s,t,a,b⟩:=o;simp only[] at hkd h1 h2;refine(FW _ _ _ _ _ _ _ _ _ _ _ _ ?_).run;rcases hkd with rfl|rfl|rfl|rfl|rfl|rfl|rfl|rfl|rfl
 ·have e:kf p ⟨1,s,t,a,b⟩=x9 p s a:=by rw[jl h3 h4,aJ rfl]
  rw[e];have r:=Sc p s a hS h1;exact bL
 ·have e:kf p ⟨2,s,t,a,b⟩=K5 p s t (decide (b=1)):=by rw[jl h3 h4,aF (show ¬((2:Int)=1) by decide),aJ rfl]
  rw[e];have r:=X7 p s t (decide (b=1)) hS h1 h2;rw[←bF] at r ⊢;exact bL
 ·have e:kf p ⟨3,s,t,a,b⟩=Ji p s:=by rw[jl h3 h4,aF (show ¬((3:Int)=1) by decide),aF (show ¬((3:Int)=2) by decide),aJ rfl]
  rw[e];have r:=X5 p s an an;exact bL
 ·have e:kf p ⟨4,s,t,a,b⟩=m0 p s a b:=by rw[jl h3 h4,aF (show ¬((4:Int)=1) by decide),aF (show ¬((4:Int)=2) by decide),aF (show ¬((4:Int)=3) by decide),aJ rfl]
  rw[e];have r:=Wb p s a b hS h1;exact bL
 ·have e:kf p ⟨5,s,t,a,b⟩=mU p s a:=by rw[jl h3 h4,aF (show ¬((5:Int)=1) by decide),aF (show ¬((5:Int)=2) by decide),aF (show ¬((5:Int)=3) by decide),aF (show ¬((5:Int)=4) by decide),aJ rfl]
  rw[e];have r:=P0 p s a hS h1;exact bL
 ·have e:kf p ⟨6,s,t,a,b⟩=p5 p s a:=by rw[jl h3 h4,aF (show ¬((6:Int)=1) by decide),aF (show ¬((6:Int)=2) by decide),aF (show ¬((6:Int)=3) by decide),aF (show ¬((6:Int)=4) by decide),aF (show ¬((6:Int)=5) by decide),aJ rfl]
  rw[e];have r:=Sg p s a hS h1;exact bL
 ·have e:kf p ⟨7,s,t,a,b⟩=wz (jS p):=by rw[jl h3 h4,aF (show ¬((7:Int)=1) by decide),aF (show ¬((7:Int)=2) by decide),aF (show ¬((7:Int)=3) by decide),aF (show ¬((7:Int)=4) by decide),aF (show ¬((7:Int)=5) by decide),aF (show ¬((7:Int)=6) by decide),aJ rfl]
  rw[e];have r:=Me p hS
  skip
  generalize jS p=Y at*;obtain⟨Y,c⟩:=Y;unfold wz
  cases c with
  |false=>
   rw[aF dh];exact bL
  |true=>
   rw[aJ rfl];exact bL
 ·have e:kf p ⟨8,s,t,a,b⟩=wz (qf p a):=by rw[jl h3 h4,aF (show ¬((8:Int)=1) by decide),aF (show ¬((8:Int)=2) by decide),aF (show ¬((8:Int)=3) by decide),aF (show ¬((8:Int)=4) by decide),aF (show ¬((8:Int)=5) by decide),aF (show ¬((8:Int)=6) by decide),aF (show ¬((8:Int)=7) by decide),aJ rfl]
  rw[e];have r:=NN p a an
  skip
  generalize qf p a=Y at*;obtain⟨Y,c⟩:=Y;unfold wz
  cases c with
  |false=>
   rw[aF dh];exact bL
  |true=>
   rw[aJ rfl];exact bL
 ·have e:kf p ⟨9,s,t,a,b⟩=wz (jR p a):=by rw[jl h3 h4,aF (show ¬((9:Int)=1) by decide),aF (show ¬((9:Int)=2) by decide),aF (show ¬((9:Int)=3) by decide),aF (show ¬((9:Int)=4) by decide),aF (show ¬((9:Int)=5) by decide),aF (show ¬((9:Int)=6) by decide),aF (show ¬((9:Int)=7) by decide),aF (show ¬((9:Int)=8) by decide)]
  rw[e];have r:=NS p a hS
  skip
  generalize jR p a=Y at*;obtain⟨Y,c⟩:=Y;unfold wz
  cases c with
  |false=>
   rw[aF dh];exact bL
  |true=>
   rw[aJ rfl];exact bL
attribute [local semireducible] RN in
theorem aqn (l:List Xk):aE (l.map opC) 0 (RN (Int.ofNat (List.length (l.map opC))) 200)=(l.take 200).map opC∧gH 0 (RN (Int.ofNat (List.length (l.map opC))) 200) (Int.ofNat (List.length (l.map opC)))=true:=by
 rw[ct]
 have hm:RN (Int.ofNat l.length) 200=((min l.length 200:Nat):Int):=by
  unfold RN;rw[pO]
  split<;>omega
 rw[hm,cO,Jd];refine⟨?_,gq (by simp only[pO];omega)⟩;rw[mT,show(0:Int).toNat=0 from rfl,List.drop_zero]
 by_cases h:l.length≤200
 ·rw[MO an,MO h]
 ·rw[show min l.length 200=200 from by omega]
theorem Le:bO 3 0=false:=by simp
theorem ajU:bO 10 0=false:=by simp
def Mf:Nat→Int→ByteArray→ByteArray
 |0,_,out=>out
 |n+1,k,out=>if k≤0 then out else Mf n (jm .i64 k 10) (Xt (IP [zh .u8 (48+Dh k 10)]) out)
def agr (k:Int):ByteArray:=if k≤0 then⟨#[109,48]⟩ else Xt ⟨#[109]⟩ (Mf 19 k xQ)
attribute [local semireducible] wK IP Xt in
theorem ahq (n:Int):wK [[TC.sc (.int .u8 n)]]=some [n]:=rfl
attribute [local semireducible] IP in
theorem ajV (n:Int):(IP [n]).size=1:=rfl
attribute [local semireducible] Xt in
theorem ahr (a b:ByteArray):(Xt a b).size=a.size+b.size:=by show(a++b).size=_;simp
attribute [local semireducible] jm in
theorem ags {a b:Int} (h0:0≤a) (h1:a≤9223372036854775807):jm .i64 a 10=a/10:=by
 show IntKind.i64.wrap (a.tdiv 10)=_;rw[Int.tdiv_eq_ediv_of_nonneg h0];exact IntWalk.i64_in _ an
theorem afr (n:Nat) (k:Int) (out:ByteArray) (h:k≤0):Mf n k out=out:=by cases n<;>simp[Mf,h]
theorem abA (k:Int) (hk:k≤2305843009213693952):au C iF [vI k] (vS (agr k)) []:=by
 refine(Sw _ _ ?_).run;unfold agr;simp only[gy,bK]
 by_cases h:k≤0
 ·rw[aJ h,aJ h];exact c7
 ·rw[aF h,aF h]
  have key: ∀(F:ByteArray) (n:Nat) (k':Int) (out:ByteArray),k'<10 ^ n→k'≤2305843009213693952→out.size+n≤100→Mf n k' out=F→ah C iF kZ 4 0 (su k' out) (fun u st=>ax C iF kZ u st fun r fs=>r=vS (Xt ⟨#[109]⟩ F)∧fs=[]):=by
   intro F n
   induction n with
   |zero=>
    intro k' out h1 h2 h3 h4;refine xp _ _ _ (aa (by simp at h1 ⊢;omega) (CO _ _ _ _ ?_));simp only[Mf] at h4;subst h4;refine ai (cT (by simp only[natAdd,LH];omega)) c7
   |succ n ih=>
    intro k' out h1 h2 h3 h4
    by_cases h0:k'≤0
    ·rw[afr _ _ _ h0] at h4
     subst h4;exact xp _ _ _ (aa fj (CO _ _ _ _ (ai (cT (by simp only[natAdd,LH];omega)) c7)))
    ·simp only[Mf,aF h0] at h4
     have hr:0≤Dh k' 10∧Dh k' 10≤9:=by rw[alj,Int.tmod_eq_emod_of_nonneg an];omega
     refine xp _ _ _ (ai fj (aa ajU ⟨_,ahq _,ai (cT (by simp only[natAdd,LH,ajV];omega)) (aa ajU ?_)⟩));rw[aG an];refine ih _ _ ?_ ?_ ?_ h4
     ·rw[ags (b:=0) an an]
      have:(10:Int) ^ (n+1)=10 ^ n*10:=Int.pow_succ ..;omega
     ·rw[ags (b:=0) an an];omega
     ·rw[ahr,ajV];omega
  exact key _ 19 k xQ (by rw[show(10:Int) ^ 19=10000000000000000000 from by decide];omega) hk (by decide) rfl
theorem Wh (k:Int) (hk:k≤2305843009213693952) (q:ByteArray):au C iF [vI k] (vS q) []↔q=agr k:=aqQ (abA k hk)
def mkInt (_:Int) (k:Int):Int:=k
def NT (_:Int):Nat:=1
theorem ajW (l:List (Int)) (k:Int) (h0:0≤k) (hk:k+tot NT l≤2305843009213693952) (hl:l.length≤1099511627776):au C lK [oD l,vI k] (vI (k+tot NT l)) [oD (jE mkInt NT l k)]:=by
 refine(T7 _ _ _ ?_).run;refine z5 (e:=bS) mkInt NT (fun k i rows=>ah C lK aj 4 0 (sH k i rows) _) 2305843009213693952 ?_ l [] k h0 hk (by simpa using hl) ?_
 ·intro d a r k h0 hk hd hn
  have hw:NT a=1:=rfl;rw[hw] at hk hn;refine De _ _ _ _ (ai fj ?_);simp (disch:=omega) only[aG];simp only[wQ,anC,qW,kG,oE,aY,dA,dN,mod_mod,Le,mw,bY];rw[Fu];rw[show(k+1:Int)=k+((1:Nat):Int) by omega];exact hn
 ·refine De _ _ _ _ (aa (by simp[qc]) (OC _ _ _ _ _ c7))
theorem ajX (l:List (Int)) (k:Int) (h0:0≤k) (hk:k+tot NT l≤2305843009213693952) (hl:l.length≤1099511627776):au C lM [oD (jE mkInt NT l k),vI k] (vI (k+tot NT l)) []:=by
 refine(S3 _ _ _ ?_).run;refine z6 (e:=bS) mkInt NT (fun k i rows=>ah C lM aj 4 0 (sC rows k i) _) 2305843009213693952 ?_ l [] k h0 hk (by simpa using hl) ?_
 ·intro d a r k h0 hk hd hn
  have hw:NT a=1:=rfl;rw[hw] at hk hn;refine CZ _ _ _ _ (ai fj ?_);simp (disch:=omega) only[aG];simp only[wQ,qW,kG,oE,aY,dA,dN,mod_mod,Le,mw,bY,mkInt,bF,Fs,VB,bK,if_true,decide_true,Bu];rw[show(k+1:Int)=k+((1:Nat):Int) by omega];exact hn
 ·refine CZ _ _ _ _ (aa (by simp[qc]) (Od _ _ _ _ _ c7))
def mkKey (_:Key) (k:Int):Key:=⟨k,k+1,k+1+1,k+1+1+1,k+1+1+1+1⟩
def Mg (_:Key):Nat:=5
theorem ajY (l:List (Key)) (k:Int) (h0:0≤k) (hk:k+tot Mg l≤2305843009213693952) (hl:l.length≤1099511627776):au C lO [dP l,vI k] (vI (k+tot Mg l)) [dP (jE mkKey Mg l k)]:=by
 refine(Ur _ _ _ ?_).run;refine z5 (e:=bP) mkKey Mg (fun k i rows=>ah C lO aj 4 0 (sJ k i rows) _) 2305843009213693952 ?_ l [] k h0 hk (by simpa using hl) ?_
 ·intro d a r k h0 hk hd hn
  have hw:Mg a=5:=rfl;rw[hw] at hk hn;refine Df _ _ _ _ (ai fj ?_);simp (disch:=omega) only[aG];simp only[lT,aje,ajf,ajg,ajh,aji,anz,qW,kG,oE,aY,dA,dN,mod_mod,Le,mw,bY];rw[Fu];rw[show(k+1+1+1+1+1:Int)=k+((5:Nat):Int) by omega];exact hn
 ·refine Df _ _ _ _ (aa (by simp[qc]) (OD _ _ _ _ _ c7))
theorem ajZ (l:List (Key)) (k:Int) (h0:0≤k) (hk:k+tot Mg l≤2305843009213693952) (hl:l.length≤1099511627776):au C lP [dP (jE mkKey Mg l k),vI k] (vI (k+tot Mg l)) []:=by
 refine(SL _ _ _ ?_).run;refine z6 (e:=bP) mkKey Mg (fun k i rows=>ah C lP aj 4 0 (sw rows k i) _) 2305843009213693952 ?_ l [] k h0 hk (by simpa using hl) ?_
 ·intro d a r k h0 hk hd hn
  have hw:Mg a=5:=rfl;rw[hw] at hk hn;refine CR _ _ _ _ (ai fj ?_);simp (disch:=omega) only[aG];simp only[lT,qW,kG,oE,aY,dA,dN,mod_mod,Le,mw,bY,mkKey,bF,Fs,VB,bK,if_true,decide_true,Bu];rw[show(k+1+1+1+1+1:Int)=k+((5:Nat):Int) by omega];exact hn
 ·refine CR _ _ _ _ (aa (by simp[qc]) (N1 _ _ _ _ _ c7))
def aax (_:Age) (k:Int):Age:=⟨k,k+1⟩
def Mh (_:Age):Nat:=2
theorem aj0 (l:List (Age)) (k:Int) (h0:0≤k) (hk:k+tot Mh l≤2305843009213693952) (hl:l.length≤1099511627776):au C lG [gL l,vI k] (vI (k+tot Mh l)) [gL (jE aax Mh l k)]:=by
 refine(TU _ _ _ ?_).run;refine z5 (e:=bW) aax Mh (fun k i rows=>ah C lG aj 4 0 (sF k i rows) _) 2305843009213693952 ?_ l [] k h0 hk (by simpa using hl) ?_
 ·intro d a r k h0 hk hd hn
  have hw:Mh a=2:=rfl;rw[hw] at hk hn;refine Da _ _ _ _ (ai fj ?_);simp (disch:=omega) only[aG];simp only[wR,agX,aaj,anA,qW,kG,oE,aY,dA,dN,mod_mod,Le,mw,bY];rw[Fu];rw[show(k+1+1:Int)=k+((2:Nat):Int) by omega];exact hn
 ·refine Da _ _ _ _ (aa (by simp[qc]) (Ow _ _ _ _ _ c7))
theorem aj1 (l:List (Age)) (k:Int) (h0:0≤k) (hk:k+tot Mh l≤2305843009213693952) (hl:l.length≤1099511627776):au C lI [gL (jE aax Mh l k),vI k] (vI (k+tot Mh l)) []:=by
 refine(TW _ _ _ ?_).run;refine z6 (e:=bW) aax Mh (fun k i rows=>ah C lI aj 4 0 (sG rows k i) _) 2305843009213693952 ?_ l [] k h0 hk (by simpa using hl) ?_
 ·intro d a r k h0 hk hd hn
  have hw:Mh a=2:=rfl;rw[hw] at hk hn;refine Db _ _ _ _ (ai fj ?_);simp (disch:=omega) only[aG];simp only[wR,qW,kG,oE,aY,dA,dN,mod_mod,Le,mw,bY,aax,bF,Fs,VB,bK,if_true,decide_true,Bu];rw[show(k+1+1:Int)=k+((2:Nat):Int) by omega];exact hn
 ·refine Db _ _ _ _ (aa (by simp[qc]) (Ox _ _ _ _ _ c7))
def Mi (_:Cell) (k:Int):Cell:=⟨k,bO (Dh (k+1) 3) 0,k+1+1⟩
def Cc (_:Cell):Nat:=3
theorem ahs (l:List (Cell)) (k:Int) (h0:0≤k) (hk:k+tot Cc l≤2305843009213693952) (hl:l.length≤1099511627776):au C kg [jG l,vI k] (vI (k+tot Cc l)) [jG (jE Mi Cc l k)]:=by
 refine(P8 _ _ _ ?_).run;refine z5 (e:=bQ) Mi Cc (fun k i rows=>ah C kg aj 4 0 (qK k i rows) _) 2305843009213693952 ?_ l [] k h0 hk (by simpa using hl) ?_
 ·intro d a r k h0 hk hd hn
  have hw:Cc a=3:=rfl;rw[hw] at hk hn;refine A8 _ _ _ _ (ai fj ?_);simp (disch:=omega) only[aG];simp only[pW,agY,O8,O9,abe,qW,kG,oE,aY,dA,dN,mod_mod,Le,mw,bY];rw[Fu];rw[show(k+1+1+1:Int)=k+((3:Nat):Int) by omega];exact hn
 ·refine A8 _ _ _ _ (aa (by simp[qc]) (Mq _ _ _ _ _ c7))
theorem aht (l:List (Cell)) (k:Int) (h0:0≤k) (hk:k+tot Cc l≤2305843009213693952) (hl:l.length≤1099511627776):au C ki [jG (jE Mi Cc l k),vI k] (vI (k+tot Cc l)) []:=by
 refine(P9 _ _ _ ?_).run;refine z6 (e:=bQ) Mi Cc (fun k i rows=>ah C ki aj 4 0 (qL rows k i) _) 2305843009213693952 ?_ l [] k h0 hk (by simpa using hl) ?_
 ·intro d a r k h0 hk hd hn
  have hw:Cc a=3:=rfl;rw[hw] at hk hn;refine A9 _ _ _ _ (ai fj ?_);simp (disch:=omega) only[aG];simp only[pW,qW,kG,oE,aY,dA,dN,mod_mod,Le,mw,bY,Mi,bF,Fs,VB,bK,if_true,decide_true,Bu];rw[show(k+1+1+1:Int)=k+((3:Nat):Int) by omega];simpa [Mi] using hn
 ·refine A9 _ _ _ _ (aa (by simp[qc]) (Mr _ _ _ _ _ c7))
def Wi (_:Vol) (k:Int):Vol:=⟨agr (k),k+1,k+1+1,bO (Dh (k+1+1+1) 3) 0⟩
def P1 (_:Vol):Nat:=4
theorem aj2 (l:List (Vol)) (k:Int) (h0:0≤k) (hk:k+tot P1 l≤2305843009213693952) (hl:l.length≤1099511627776):au C lH [qV l,vI k] (vI (k+tot P1 l)) [qV (jE Wi P1 l k)]:=by
 refine(SR _ _ _ ?_).run;refine z5 (e:=cu) Wi P1 (fun k i rows=>ah C lH aj 4 0 (sx k i rows) _) 2305843009213693952 ?_ l [] k h0 hk (by simpa using hl) ?_
 ·intro d a r k h0 hk hd hn
  have hw:P1 a=4:=rfl;rw[hw] at hk hn;refine CT _ _ _ _ (ai fj ?_);simp (disch:=omega) only[aG];simp only[yM,ac8,LJ,Je,agZ,anB,Wh (k) an,qW,kG,oE,aY,dA,dN,mod_mod,Le,mw,bY];rw[Fu];rw[show(k+1+1+1+1:Int)=k+((4:Nat):Int) by omega];exact hn
 ·refine CT _ _ _ _ (aa (by simp[qc]) (N4 _ _ _ _ _ c7))
theorem aj3 (l:List (Vol)) (k:Int) (h0:0≤k) (hk:k+tot P1 l≤2305843009213693952) (hl:l.length≤1099511627776):au C lJ [qV (jE Wi P1 l k),vI k] (vI (k+tot P1 l)) []:=by
 refine(SS _ _ _ ?_).run;refine z6 (e:=cu) Wi P1 (fun k i rows=>ah C lJ aj 4 0 (sy rows k i) _) 2305843009213693952 ?_ l [] k h0 hk (by simpa using hl) ?_
 ·intro d a r k h0 hk hd hn
  have hw:P1 a=4:=rfl;rw[hw] at hk hn;refine CU _ _ _ _ (ai fj ?_);simp (disch:=omega) only[aG];simp only[yM,Wh (k) an,qW,kG,oE,aY,dA,dN,mod_mod,Le,mw,bY,Wi,bF,Fs,VB,bK,if_true,decide_true,Bu];rw[show(k+1+1+1+1:Int)=k+((4:Nat):Int) by omega];simpa [Wi] using hn
 ·refine CU _ _ _ _ (aa (by simp[qc]) (N5 _ _ _ _ _ c7))
def FU (s:List Key) (k:Int):List Key:=jE mkKey Mg s k
def nN (s:List Key):Nat:=tot Mg s
theorem ahu: ∀(l:List (List Key)) (k:Int) (h0:0≤k) (hk:k+tot nN l≤2305843009213693952) (hl:l.length≤1099511627776) (hs: ∀s∈l,s.length≤1099511627776),au C jr [Nm l,vI k] (vI (k+tot nN l)) [Nm (jE FU nN l k)]:=by
 intro l k h0 hk hl hs;refine(QM _ _ _ ?_).run
 have key: ∀(r d:List (List Key)) (k:Int),0≤k→k+tot nN r≤2305843009213693952→d.length+r.length≤1099511627776→(∀s∈r,s.length≤1099511627776)→ ∀(R:TV) (F:List TV),vI (k+tot nN r)=R→[Nm (d++jE FU nN r k)]=F→ah C jr aj 4 0 (qO k (d.length:Int) ((d++r).map cZ)) (fun u st=>ax C jr aj u st fun r fs=>r=R∧fs=F):=by
  intro r
  induction r with
  |nil=>
   intro d k h0 hk hl hs R F hR hF;subst hR hF;refine Bg _ _ _ _ (aa dh (MA _ _ _ _ _ ⟨by simp[tot],by simp[jE]⟩))
  |cons a r ih=>
   intro d k h0 hk hl hs R F hR hF;simp only[tot,gn] at hk hl;have hca:=hs a (.head _);have hu:tot Mg a=nN a:=rfl;refine Bg _ _ _ _ (ai fj ?_);simp only[xR,oE,aY,dA];refine⟨_,_,ajY a k h0 an hca,?_⟩;simp only[anD];rw[Fu,aG an];have:=ih (d++[FU a k]) (k+nN a) an an fj (fun s h=>hs s (.tail _ h)) R F (by rw[←hR];simp only[tot];rw[show k+(nN a:Int)+(tot nN r:Int)=k+((nN a+tot nN r:Nat):Int) by omega]) (by rw[←hF];simp[jE])
   rw[←hu] at this;simpa [FU] using this
 exact key l [] k h0 hk (by simpa using hl) hs _ _ rfl dh
theorem ahv: ∀(l:List (List Key)) (k:Int) (h0:0≤k) (hk:k+tot nN l≤2305843009213693952) (hl:l.length≤1099511627776) (hs: ∀s∈l,s.length≤1099511627776),au C jt [Nm (jE FU nN l k),vI k] (vI (k+tot nN l)) []:=by
 intro l k h0 hk hl hs;refine(Q5 _ _ _ ?_).run
 have key: ∀(r d:List (List Key)) (k:Int),0≤k→k+tot nN r≤2305843009213693952→d.length+r.length≤1099511627776→(∀s∈r,s.length≤1099511627776)→ ∀(R:TV),vI (k+tot nN r)=R→ah C jt aj 4 0 (qP ((d++jE FU nN r k).map cZ) k (d.length:Int)) (fun u st=>ax C jt aj u st fun r fs=>r=R∧fs=[]):=by
  intro r
  induction r with
  |nil=>
   intro d k h0 hk hl hs R hR;subst hR;refine Bk _ _ _ _ (aa (by simp[jE]) (MF _ _ _ _ _ ⟨by simp[tot],rfl⟩))
  |cons a r ih=>
   intro d k h0 hk hl hs R hR;simp only[tot,gn] at hk hl;have hca:=hs a (.head _);have hu:tot Mg a=nN a:=rfl;simp only[jE];refine Bk _ _ _ _ (ai fj ?_);simp only[xR,oE,aY,dA];refine⟨_,ajZ a k h0 an hca,aa fj ?_⟩;rw[aG an];have:=ih (d++[FU a k]) (k+nN a) an an fj (fun s h=>hs s (.tail _ h)) R (by rw[←hR];simp only[tot];rw[show k+(nN a:Int)+(tot nN r:Int)=k+((nN a+tot nN r:Nat):Int) by omega]);rw[hu]
   simpa [FU] using this
 exact key l [] k h0 hk (by simpa using hl) hs _ rfl
def mkNode (s:List (List Key)) (k:Int):List (List Key):=jE FU nN s k
def pT (s:List (List Key)):Nat:=tot nN s
theorem ahw: ∀(l:List (List (List Key))) (k:Int) (h0:0≤k) (hk:k+tot pT l≤2305843009213693952) (hl:l.length≤1099511627776) (hs: ∀s∈l,Nz s),au C jo [As l,vI k] (vI (k+tot pT l)) [As (jE mkNode pT l k)]:=by
 intro l k h0 hk hl hs;refine(Qa _ _ _ ?_).run
 have key: ∀(r d:List (List (List Key))) (k:Int),0≤k→k+tot pT r≤2305843009213693952→d.length+r.length≤1099511627776→(∀s∈r,Nz s)→ ∀(R:TV) (F:List TV),vI (k+tot pT r)=R→[As (d++jE mkNode pT r k)]=F→ah C jo aj 4 0 (qM k (d.length:Int) ((d++r).map aR)) (fun u st=>ax C jo aj u st fun r fs=>r=R∧fs=F):=by
  intro r
  induction r with
  |nil=>
   intro d k h0 hk hl hs R F hR hF;subst hR hF;refine Ba _ _ _ _ (aa dh (Ms _ _ _ _ _ ⟨by simp[tot],by simp[jE]⟩))
  |cons a r ih=>
   intro d k h0 hk hl hs R F hR hF;simp only[tot,gn] at hk hl;have hca:=hs a (.head _);have hu:tot nN a=pT a:=rfl;refine Ba _ _ _ _ (ai fj ?_);simp only[tP,oE,aY,dA];refine⟨_,_,ahu a k h0 an hca.1 hca.2,?_⟩;simp only[abf];rw[Fu,aG an];have:=ih (d++[mkNode a k]) (k+pT a) an an fj (fun s h=>hs s (.tail _ h)) R F (by rw[←hR];simp only[tot];rw[show k+(pT a:Int)+(tot pT r:Int)=k+((pT a+tot pT r:Nat):Int) by omega]) (by rw[←hF];simp[jE])
   rw[←hu] at this;simpa [mkNode] using this
 exact key l [] k h0 hk (by simpa using hl) hs _ _ rfl dh
theorem ahx: ∀(l:List (List (List Key))) (k:Int) (h0:0≤k) (hk:k+tot pT l≤2305843009213693952) (hl:l.length≤1099511627776) (hs: ∀s∈l,Nz s),au C jq [As (jE mkNode pT l k),vI k] (vI (k+tot pT l)) []:=by
 intro l k h0 hk hl hs;refine(QG _ _ _ ?_).run
 have key: ∀(r d:List (List (List Key))) (k:Int),0≤k→k+tot pT r≤2305843009213693952→d.length+r.length≤1099511627776→(∀s∈r,Nz s)→ ∀(R:TV),vI (k+tot pT r)=R→ah C jq aj 4 0 (qN ((d++jE mkNode pT r k).map aR) k (d.length:Int)) (fun u st=>ax C jq aj u st fun r fs=>r=R∧fs=[]):=by
  intro r
  induction r with
  |nil=>
   intro d k h0 hk hl hs R hR;subst hR;refine Be _ _ _ _ (aa (by simp[jE]) (My _ _ _ _ _ ⟨by simp[tot],rfl⟩))
  |cons a r ih=>
   intro d k h0 hk hl hs R hR;simp only[tot,gn] at hk hl;have hca:=hs a (.head _);have hu:tot nN a=pT a:=rfl;simp only[jE];refine Be _ _ _ _ (ai fj ?_);simp only[tP,oE,aY,dA];refine⟨_,ahv a k h0 an hca.1 hca.2,aa fj ?_⟩;rw[aG an];have:=ih (d++[mkNode a k]) (k+pT a) an an fj (fun s h=>hs s (.tail _ h)) R (by rw[←hR];simp only[tot];rw[show k+(pT a:Int)+(tot pT r:Int)=k+((pT a+tot pT r:Nat):Int) by omega])
   rw[hu];simpa [mkNode] using this
 exact key l [] k h0 hk (by simpa using hl) hs _ rfl
def Gi (t:Tree):Nat:=tot NT t.aD+tot pT t.nodes
def afs (t:Tree) (k:Int):Tree:=⟨jE mkInt NT t.aD k,jE mkNode pT t.nodes (k+tot NT t.aD)⟩
theorem aj4 (t:Tree) (k:Int) (h0:0≤k) (hk:k+Gi t≤2305843009213693952) (h:aat t):au C Du [ef t,vI k] (vI (k+Gi t)) [ef (afs t k)]:=by
 unfold Gi at*;refine(To _ _ _ _ ⟨_,_,ajW t.aD k h0 an h.1,_,_,ahw t.nodes _ an an h.2.1 h.2.2,?_⟩).run
 (try dsimp only)
 exact⟨by congr 1;omega,rfl⟩
theorem aj5 (t:Tree) (k:Int) (h0:0≤k) (hk:k+Gi t≤2305843009213693952) (h:aat t):au C Dv [ef (afs t k),vI k] (vI (k+Gi t)) []:=by
 unfold Gi at*;refine(Tp _ _ _ _ ⟨_,ajX t.aD k h0 an h.1,aa fj ⟨_,ahx t.nodes _ an an h.2.1 h.2.2,aa fj ?_⟩⟩).run
 (try dsimp only)
 exact⟨by congr 1;omega,rfl⟩
def RK (p:Pool):Nat:=Gi p.t+tot Mh p.aL+tot Cc p.cells+tot P1 p.av
def aj6 (p:Pool) (k:Int):Pool:=⟨afs p.t k,jE aax Mh p.aL (k+Gi p.t),jE Mi Cc p.cells (k+Gi p.t+tot Mh p.aL),jE Wi P1 p.av (k+Gi p.t+tot Mh p.aL+tot Cc p.cells),p.next⟩
theorem ig (p:Pool) (k:Int) (h0:0≤k) (hk:k+RK p≤2305843009213693952) (h:adI p):au C gK [dQ p,vI k] (vI (k+RK p)) [dQ (aj6 p k)]:=by
 unfold RK at*;refine(Ss _ _ _ _ _ _ _ _ ⟨_,_,_,aj4 p.t k h0 an h.t,_,_,aj0 p.aL _ an an h.aL,_,_,ahs p.cells _ an an h.cells,_,_,aj2 p.av _ an an h.av,?_⟩).run
 (try dsimp only)
 exact⟨by congr 1;omega,rfl⟩
theorem bV (p:Pool) (k:Int) (h0:0≤k) (hk:k+RK p≤2305843009213693952) (h:adI p):au C cE [dQ (aj6 p k),vI k] (vI (k+RK p)) []:=by
 unfold RK at*;refine(SM _ _ _ _ _ _ _ _ ⟨_,aj5 p.t k h0 an h.t,aa fj ⟨_,aj1 p.aL _ an an h.aL,aa fj ⟨_,aht p.cells _ an an h.cells,aa fj ⟨_,aj3 p.av _ an an h.av,aa fj ?_⟩⟩⟩⟩).run
 (try dsimp only)
 exact⟨by congr 1;omega,rfl⟩
theorem Mj {n z:Nat} (h:n*z≤reachBytes) (hz:1≤z):n≤140737488355328:=by
 have:reachBytes≤140737488355328:=by decide
 have h2:n*1≤n*z:=Nat.mul_le_mul_left n hz;omega
theorem aoc {n:Int} (h:(Lit.int .i64 n).wf=true):n≤9223372036854775807:=by
 have:=(anw h).2;omega
theorem aj7 {r:List TC} (h:zJ C.tt amE r): ∃n:Int,r=bS n∧True:=by
 obtain⟨n,rfl,_⟩:=h.qG (k:= .i64) Bo;exact⟨n,rfl,trivial⟩
theorem aod {r:List TC} (h:zJ C.tt VW r): ∃x:Key,r=bP x∧True:=by
 obtain⟨q0,r0,rfl,h0,k0⟩:=(h.tf (fs:=[(0,3),(1,3),(2,3),(3,3),(4,3)]) Bo).cons_inv;obtain⟨q1,r1,rfl,h1,k1⟩:=k0.cons_inv;obtain⟨q2,r2,rfl,h2,k2⟩:=k1.cons_inv;obtain⟨q3,r3,rfl,h3,k3⟩:=k2.cons_inv;obtain⟨q4,r4,rfl,h4,k4⟩:=k3.cons_inv;have e:=k4.BP;subst e;obtain⟨v0,rfl,u0⟩:=h0.qG (k:= .i64) Bo;obtain⟨v1,rfl,u1⟩:=h1.qG (k:= .i64) Bo;obtain⟨v2,rfl,u2⟩:=h2.qG (k:= .i64) Bo;obtain⟨v3,rfl,u3⟩:=h3.qG (k:= .i64) Bo
 obtain⟨v4,rfl,u4⟩:=h4.qG (k:= .i64) Bo;exact⟨⟨v0,v1,v2,v3,v4⟩,rfl,trivial⟩
theorem aoe {r:List TC} (h:zJ C.tt VV r): ∃x:Age,r=bW x∧True:=by
 obtain⟨q0,r0,rfl,h0,k0⟩:=(h.tf (fs:=[(0,3),(1,3)]) Bo).cons_inv;obtain⟨q1,r1,rfl,h1,k1⟩:=k0.cons_inv;have e:=k1.BP;subst e;obtain⟨v0,rfl,u0⟩:=h0.qG (k:= .i64) Bo;obtain⟨v1,rfl,u1⟩:=h1.qG (k:= .i64) Bo;exact⟨⟨v0,v1⟩,rfl,trivial⟩
theorem al2 {r:List TC} (h:zJ C.tt RF r): ∃x:Cell,r=bQ x∧True:=by
 obtain⟨q0,r0,rfl,h0,k0⟩:=(h.tf (fs:=[(0,3),(1,4),(2,3)]) Bo).cons_inv;obtain⟨q1,r1,rfl,h1,k1⟩:=k0.cons_inv;obtain⟨q2,r2,rfl,h2,k2⟩:=k1.cons_inv;have e:=k2.BP;subst e;obtain⟨v0,rfl,u0⟩:=h0.qG (k:= .i64) Bo;obtain⟨v1,rfl⟩:=h1.ac4 Bo;obtain⟨v2,rfl,u2⟩:=h2.qG (k:= .i64) Bo;exact⟨⟨v0,v1,v2⟩,rfl,trivial⟩
theorem aof {r:List TC} (h:zJ C.tt VX r): ∃x:Vol,r=cu x∧x.name.size≤140737488355328∧x.size≤9223372036854775807:=by
 obtain⟨q0,r0,rfl,h0,k0⟩:=(h.tf (fs:=[(0,9),(1,3),(2,3),(3,4)]) Bo).cons_inv;obtain⟨q1,r1,rfl,h1,k1⟩:=k0.cons_inv;obtain⟨q2,r2,rfl,h2,k2⟩:=k1.cons_inv;obtain⟨q3,r3,rfl,h3,k3⟩:=k2.cons_inv;have e:=k3.BP;subst e;obtain⟨v0,rfl,z0⟩:=h0.abc Bo;obtain⟨v1,rfl,u1⟩:=h1.qG (k:= .i64) Bo;obtain⟨v2,rfl,u2⟩:=h2.qG (k:= .i64) Bo;obtain⟨v3,rfl⟩:=h3.ac4 Bo;exact⟨⟨v0,v1,v2,v3⟩,rfl,⟨uO z0 (by decide),aoc u2⟩⟩
theorem apz {r:List TC} (h:zJ C.tt D7 r): ∃x:Xk,r=opC x∧x.name.size≤140737488355328∧x.to.size≤140737488355328:=by
 obtain⟨q0,r0,rfl,h0,k0⟩:=(h.tf (fs:=[(0,3),(1,9),(2,9),(3,3),(4,3)]) Bo).cons_inv;obtain⟨q1,r1,rfl,h1,k1⟩:=k0.cons_inv;obtain⟨q2,r2,rfl,h2,k2⟩:=k1.cons_inv;obtain⟨q3,r3,rfl,h3,k3⟩:=k2.cons_inv;obtain⟨q4,r4,rfl,h4,k4⟩:=k3.cons_inv;have e:=k4.BP;subst e;obtain⟨v0,rfl,u0⟩:=h0.qG (k:= .i64) Bo;obtain⟨v1,rfl,z1⟩:=h1.abc Bo;obtain⟨v2,rfl,z2⟩:=h2.abc Bo;obtain⟨v3,rfl,u3⟩:=h3.qG (k:= .i64) Bo;obtain⟨v4,rfl,u4⟩:=h4.qG (k:= .i64) Bo
 exact⟨⟨v0,v1,v2,v3,v4⟩,rfl,⟨uO z1 (by decide),uO z2 (by decide)⟩⟩
theorem ahy {r:List TC} (h:zJ C.tt alR r): ∃l:List (Int),r=[.sub 1 (l.map bS)]∧l.length≤140737488355328∧ ∀x∈l,True:=by
 obtain⟨w,rfl,y,z⟩:=h.xP (e:=amE) Bo;obtain⟨l,rfl,hl⟩:=tg fun r hr=>aj7 (y r hr);rw[ct] at z;exact⟨l,rfl,Mj z (by decide+kernel),hl⟩
theorem ahz {r:List TC} (h:zJ C.tt FO r): ∃l:List (Key),r=[.sub 5 (l.map bP)]∧l.length≤140737488355328∧ ∀x∈l,True:=by
 obtain⟨w,rfl,y,z⟩:=h.xP (e:=VW) Bo;obtain⟨l,rfl,hl⟩:=tg fun r hr=>aod (y r hr);rw[ct] at z;exact⟨l,rfl,Mj z (by decide+kernel),hl⟩
theorem ahA {r:List TC} (h:zJ C.tt abu r): ∃l:List (Age),r=[.sub 2 (l.map bW)]∧l.length≤140737488355328∧ ∀x∈l,True:=by
 obtain⟨w,rfl,y,z⟩:=h.xP (e:=VV) Bo;obtain⟨l,rfl,hl⟩:=tg fun r hr=>aoe (y r hr);rw[ct] at z;exact⟨l,rfl,Mj z (by decide+kernel),hl⟩
theorem aft {r:List TC} (h:zJ C.tt XI r): ∃l:List (Cell),r=[.sub 3 (l.map bQ)]∧l.length≤140737488355328∧ ∀x∈l,True:=by
 obtain⟨w,rfl,y,z⟩:=h.xP (e:=RF) Bo;obtain⟨l,rfl,hl⟩:=tg fun r hr=>al2 (y r hr);rw[ct] at z;exact⟨l,rfl,Mj z (by decide+kernel),hl⟩
theorem ahB {r:List TC} (h:zJ C.tt abv r): ∃l:List (Vol),r=[.sub 4 (l.map cu)]∧l.length≤140737488355328∧ ∀x∈l,x.name.size≤140737488355328∧x.size≤9223372036854775807:=by
 obtain⟨w,rfl,y,z⟩:=h.xP (e:=VX) Bo;obtain⟨l,rfl,hl⟩:=tg fun r hr=>aof (y r hr);rw[ct] at z;exact⟨l,rfl,Mj z (by decide+kernel),hl⟩
theorem aog {r:List TC} (h:zJ C.tt FO r): ∃s:List Key,r=cZ s∧s.length≤140737488355328:=by
 obtain⟨l,rfl,hl,_⟩:=ahz h;exact⟨l,rfl,hl⟩
theorem ahC {r:List TC} (h:zJ C.tt XH r): ∃l:List (List Key),r=[.sub 1 (l.map cZ)]∧l.length≤140737488355328∧ ∀x∈l,x.length≤140737488355328:=by
 obtain⟨w,rfl,y,z⟩:=h.xP (e:=FO) Bo;obtain⟨l,rfl,hl⟩:=tg fun r hr=>aog (y r hr);rw[ct] at z;exact⟨l,rfl,Mj z (by decide+kernel),hl⟩
theorem al3 {r:List TC} (h:zJ C.tt RG r): ∃n:List (List Key),r=aR n∧(n.length≤140737488355328∧ ∀s∈n,s.length≤140737488355328):=by
 obtain⟨q0,r0,rfl,h0,k0⟩:=(h.tf (fs:=[(0,178)]) Bo).cons_inv;have e:=k0.BP;subst e;obtain⟨l,rfl,hl,hs⟩:=ahC h0;exact⟨l,rfl,hl,hs⟩
theorem afu {r:List TC} (h:zJ C.tt XJ r): ∃l:List (List (List Key)),r=[.sub 1 (l.map aR)]∧l.length≤140737488355328∧ ∀x∈l,x.length≤140737488355328∧ ∀s∈x,s.length≤140737488355328:=by
 obtain⟨w,rfl,y,z⟩:=h.xP (e:=RG) Bo;obtain⟨l,rfl,hl⟩:=tg fun r hr=>al3 (y r hr);rw[ct] at z;exact⟨l,rfl,Mj z (by decide+kernel),hl⟩
theorem al4 {r:List TC} (h:zJ C.tt adH r): ∃t:Tree,r=agd t∧ajR t:=by
 obtain⟨q0,r0,rfl,h0,k0⟩:=(h.tf (fs:=[(0,22),(1,23)]) Bo).cons_inv;obtain⟨q1,r1,rfl,h1,k1⟩:=k0.cons_inv;have e:=k1.BP;subst e;obtain⟨l,rfl,hl,_⟩:=ahy h0;obtain⟨n,rfl,hn,hs⟩:=afu h1;exact⟨⟨l,n⟩,rfl,⟨hl,hn,hs⟩⟩
theorem al5 {r:List TC} (h:zJ C.tt yD r): ∃p:Pool,r=wk p∧agp p:=by
 obtain⟨q0,r0,rfl,h0,k0⟩:=(h.tf (fs:=[(0,25),(2,26),(3,27),(4,28),(5,3)]) Bo).cons_inv;obtain⟨q1,r1,rfl,h1,k1⟩:=k0.cons_inv;obtain⟨q2,r2,rfl,h2,k2⟩:=k1.cons_inv;obtain⟨q3,r3,rfl,h3,k3⟩:=k2.cons_inv;obtain⟨q4,r4,rfl,h4,k4⟩:=k3.cons_inv;have e:=k4.BP;subst e;obtain⟨t,rfl,ht⟩:=al4 h0;obtain⟨a,rfl,ha,_⟩:=ahA h1;obtain⟨c,rfl,hc,_⟩:=aft h2;obtain⟨v,rfl,hv,hw⟩:=ahB h3;obtain⟨n,rfl,_⟩:=aj7 h4;exact⟨⟨t,a,c,v,n⟩,rfl,⟨ht,ha,hc,hv,fun v h=>(hw v h).1,fun v h=>(hw v h).2⟩⟩
theorem aoh {v:TV} (h:WfV C.tt yD v): ∃x:Pool,v=dQ x∧agp x:=by
 have ht:(C.tt yD).ti= .struct [(0,25),(2,26),(3,27),(4,28),(5,3)]:=by kernel_rfl
 cases h with
 |c hs hw=>exact absurd ht (hs _)
 |ag _ hw=>
  obtain⟨x,rfl,hx⟩:=al5 hw;exact⟨x,rfl,hx⟩
theorem aqY {v:TV} (h:WfV C.tt D7 v): ∃x:Xk,v= .ag (opC x)∧(x.name.size≤140737488355328∧x.to.size≤140737488355328):=by
 have ht:(C.tt D7).ti= .struct [(0,3),(1,9),(2,9),(3,3),(4,3)]:=by kernel_rfl
 cases h with
 |c hs hw=>exact absurd ht (hs _)
 |ag _ hw=>
  obtain⟨x,rfl,hx⟩:=apz hw;exact⟨x,rfl,hx⟩
theorem aj8 {a:Int} {n:Nat} (h:bG (qq a n) 0=false) (h0:0≤a∧a≤1048576):(n:Int)≤a∧(0≤qq a n∧qq a n≤1048576)∧qq a n=a-n:=by
 rw[eX] at h;have h: ¬qq a n<0:=of_decide_eq_false h;unfold qq at*
 split at h<;>simp_all<;>omega
theorem aj9 {t:Tree} (h:cN t≤4194304):aat t:=by
 unfold cN wS at h;refine⟨by omega,by omega,fun n hn=> ?_⟩;have h1:=pX (w:=aO) hn;have e:aO n=n.length+tot cg n:=rfl
 exact⟨by omega,fun s hs=>by
  have h2:=pX (w:=cg) hs;have e2:cg s=s.length:=rfl
  omega⟩
theorem aka (l:List Key):tot Mg l=5*l.length:=z7 5 l
theorem akb (n:List (List Key)):tot nN n≤5*tot cg n:=by
 induction n with
 |nil=>simp[tot]
 |cons s r ih=>
  simp only[tot];have:nN s=5*s.length:=aka s;have e:cg s=s.length:=rfl;omega
theorem ahD (l:List (List (List Key))):tot pT l≤5*tot aO l:=by
 induction l with
 |nil=>simp[tot]
 |cons n r ih=>
  simp only[tot];have h1:=akb n;have h2:aO n=n.length+tot cg n:=rfl;have h3:pT n=tot nN n:=rfl;omega
theorem akc (t:Tree):Gi t≤5*cN t:=by
 have h1:=ahD t.nodes;have h2:tot NT t.aD=1*t.aD.length:=z7 1 t.aD;unfold Gi cN wS;omega
theorem adL {p:Pool} (h:aN p≤4194304):adI p:=by
 unfold aN Dr at h;exact⟨aj9 an,by omega,by omega,by omega⟩
theorem adM (p:Pool):RK p≤5*aN p:=by
 have h1:=akc p.t;have h2:tot Mh p.aL=2*p.aL.length:=z7 2 p.aL;have h3:tot Cc p.cells=3*p.cells.length:=z7 3 p.cells;have h4:tot P1 p.av=4*p.av.length:=z7 4 p.av;unfold RK aN Dr;omega
theorem ahE (p:Pool) (w_p:agp p) (o:Xk) (w_o:o.name.size≤140737488355328∧o.to.size≤140737488355328):au C w4 [dQ p,.ag (opC o)] (vB true) []:=by
 refine(KP _ _ _ _ _ _ _ _ _ _ _ _ ?_).run;obtain⟨w1_o,w2_o⟩:=w_o;refine⟨_,afo _ _ (by first|omega|assumption) eg,?_⟩;refine td (fun _=>c7) fun UQ=> ?_;obtain⟨atK,atM,atN⟩:=aj8 UQ (by first|omega|assumption);refine⟨_,ajS _ _ _ _ _ _ (by first|omega|assumption) an an,?_⟩;refine td (fun _=>c7) fun hz1=> ?_;obtain⟨atO,atP,atQ⟩:=aj8 hz1 (by first|omega|assumption);have hB:=adL (p:=p) an
 have hS:aN p≤4194304:=by omega
 have hP:=cJ hS;have hsz:aN (kf p o).1≤4194304:=uO (ahc p o) an;have hB2:=adL (p:=(kf p o).1) hsz;have hw:=adM p;have Xp:=adM (kf p o).1;refine⟨(vB true,[]),?_,?_,rfl,by trivial⟩
 ·refine⟨_,_,_,_,_,_,gm _ eg,?_⟩
  refine⟨(vB true,[]),?_,?_,rfl⟩
  ·refine⟨_,_,_,_,_,nL _ _ _ _ _,?_⟩
   refine⟨(vB true,[]),?_,?_,rfl⟩
   ·refine⟨_,_,_,_,_,_,_,xj p o an an an,?_⟩
    refine⟨_,_,_,_,_,_,gm _ eg,?_⟩;refine⟨(vB true,[]),?_,?_,rfl⟩
    ·refine⟨_,_,_,_,_,nL _ _ _ _ _,?_⟩
     refine⟨(vB true,[]),?_,?_,rfl⟩
     ·refine⟨_,_,_,_,_,_,_,aH p o an an an,?_⟩
      refine⟨_,cq _ eg,?_⟩;refine aa cF (aa cF ?_);refine⟨_,_,_,_,_,_,gm _ eg,?_⟩;refine⟨_,cq _ eg,?_⟩;refine aa cF ?_;refine⟨_,_,_,_,_,_,_,ig _ 1 an an eg,?_⟩;refine aa cF ?_;refine⟨_,cq _ eg,?_⟩;refine aa cF (aa cF ?_);refine⟨_,_,_,_,_,_,_,ig _ 1 an an eg,?_⟩;refine⟨_,bV _ 1 an an eg,?_⟩;refine aa cF (aa cF ?_);refine⟨(vB true,[]),?_,?_,rfl⟩
      ·refine⟨_,_,_,_,_,_,gm _ eg,?_⟩
       refine⟨(vB true,[]),?_,?_,rfl⟩
       ·refine⟨_,_,_,_,_,nL _ _ _ _ _,?_⟩
        refine⟨(vB true,[]),?_,?_,rfl⟩
        ·refine⟨_,_,_,_,_,_,_,aH p o an an an,?_⟩
         refine⟨_,cq _ eg,?_⟩;refine aa cF (aa cF ?_);refine⟨_,bV _ 1 an an eg,?_⟩;refine aa cF (aa cF ?_);exact rfl
        ·refine⟨_,_,_,_,_,_,_,aH p o an an an,?_⟩
         refine⟨_,cq _ eg,?_⟩;refine aa cF (aa cF ?_);refine⟨_,bV _ 1 an an eg,?_⟩;refine aa cF (aa cF ?_);exact rfl
       ·refine⟨_,_,_,_,_,nL _ _ _ _ _,?_⟩
        refine⟨_,_,_,_,_,_,_,aH p o an an an,?_⟩;refine⟨_,cq _ eg,?_⟩;refine aa cF (aa cF ?_);refine⟨_,bV _ 1 an an eg,?_⟩;refine aa cF (aa cF ?_);exact rfl
      ·refine⟨_,_,_,_,_,_,gm _ eg,?_⟩
       refine⟨_,_,_,_,_,nL _ _ _ _ _,?_⟩;refine⟨_,_,_,_,_,_,_,aH p o an an an,?_⟩;refine⟨_,cq _ eg,?_⟩;refine aa cF (aa cF ?_);refine⟨_,bV _ 1 an an eg,?_⟩;refine aa cF (aa cF ?_);exact rfl
     ·refine⟨_,_,_,_,_,_,_,aH p o an an an,?_⟩
      refine⟨_,cq _ eg,?_⟩;refine aa cF (aa cF ?_);refine⟨_,_,_,_,_,_,gm _ eg,?_⟩;refine⟨_,cq _ eg,?_⟩;refine aa cF ?_;refine⟨_,_,_,_,_,_,_,ig _ 1 an an eg,?_⟩;refine aa cF ?_;refine⟨_,cq _ eg,?_⟩;refine aa cF (aa cF ?_);refine⟨_,_,_,_,_,_,_,ig _ 1 an an eg,?_⟩;refine⟨_,bV _ 1 an an eg,?_⟩;refine aa cF (aa cF ?_);refine⟨(vB true,[]),?_,?_,rfl⟩
      ·refine⟨_,_,_,_,_,_,gm _ eg,?_⟩
       refine⟨(vB true,[]),?_,?_,rfl⟩
       ·refine⟨_,_,_,_,_,nL _ _ _ _ _,?_⟩
        refine⟨(vB true,[]),?_,?_,rfl⟩
        ·refine⟨_,_,_,_,_,_,_,aH p o an an an,?_⟩
         refine⟨_,cq _ eg,?_⟩;refine aa cF (aa cF ?_);refine⟨_,bV _ 1 an an eg,?_⟩;refine aa cF (aa cF ?_);exact rfl
        ·refine⟨_,_,_,_,_,_,_,aH p o an an an,?_⟩
         refine⟨_,cq _ eg,?_⟩;refine aa cF (aa cF ?_);refine⟨_,bV _ 1 an an eg,?_⟩;refine aa cF (aa cF ?_);exact rfl
       ·refine⟨_,_,_,_,_,nL _ _ _ _ _,?_⟩
        refine⟨_,_,_,_,_,_,_,aH p o an an an,?_⟩;refine⟨_,cq _ eg,?_⟩;refine aa cF (aa cF ?_);refine⟨_,bV _ 1 an an eg,?_⟩;refine aa cF (aa cF ?_);exact rfl
      ·refine⟨_,_,_,_,_,_,gm _ eg,?_⟩
       refine⟨_,_,_,_,_,nL _ _ _ _ _,?_⟩;refine⟨_,_,_,_,_,_,_,aH p o an an an,?_⟩;refine⟨_,cq _ eg,?_⟩;refine aa cF (aa cF ?_);refine⟨_,bV _ 1 an an eg,?_⟩;refine aa cF (aa cF ?_);exact rfl
    ·refine⟨_,_,_,_,_,nL _ _ _ _ _,?_⟩
     refine⟨_,_,_,_,_,_,_,aH p o an an an,?_⟩;refine⟨_,cq _ eg,?_⟩;refine aa cF (aa cF ?_);refine⟨_,_,_,_,_,_,gm _ eg,?_⟩;refine⟨_,cq _ eg,?_⟩;refine aa cF ?_;refine⟨_,_,_,_,_,_,_,ig _ 1 an an eg,?_⟩;refine aa cF ?_;refine⟨_,cq _ eg,?_⟩;refine aa cF (aa cF ?_);refine⟨_,_,_,_,_,_,_,ig _ 1 an an eg,?_⟩;refine⟨_,bV _ 1 an an eg,?_⟩;refine aa cF (aa cF ?_);refine⟨(vB true,[]),?_,?_,rfl⟩
     ·refine⟨_,_,_,_,_,_,gm _ eg,?_⟩
      refine⟨(vB true,[]),?_,?_,rfl⟩
      ·refine⟨_,_,_,_,_,nL _ _ _ _ _,?_⟩
       refine⟨(vB true,[]),?_,?_,rfl⟩
       ·refine⟨_,_,_,_,_,_,_,aH p o an an an,?_⟩
        refine⟨_,cq _ eg,?_⟩;refine aa cF (aa cF ?_);refine⟨_,bV _ 1 an an eg,?_⟩;refine aa cF (aa cF ?_);exact rfl
       ·refine⟨_,_,_,_,_,_,_,aH p o an an an,?_⟩
        refine⟨_,cq _ eg,?_⟩;refine aa cF (aa cF ?_);refine⟨_,bV _ 1 an an eg,?_⟩;refine aa cF (aa cF ?_);exact rfl
      ·refine⟨_,_,_,_,_,nL _ _ _ _ _,?_⟩
       refine⟨_,_,_,_,_,_,_,aH p o an an an,?_⟩;refine⟨_,cq _ eg,?_⟩;refine aa cF (aa cF ?_);refine⟨_,bV _ 1 an an eg,?_⟩;refine aa cF (aa cF ?_);exact rfl
     ·refine⟨_,_,_,_,_,_,gm _ eg,?_⟩
      refine⟨_,_,_,_,_,nL _ _ _ _ _,?_⟩;refine⟨_,_,_,_,_,_,_,aH p o an an an,?_⟩;refine⟨_,cq _ eg,?_⟩;refine aa cF (aa cF ?_);refine⟨_,bV _ 1 an an eg,?_⟩;refine aa cF (aa cF ?_);exact rfl
   ·refine⟨_,_,_,_,_,_,_,xj p o an an an,?_⟩
    refine⟨_,_,_,_,_,_,gm _ eg,?_⟩;refine⟨(vB true,[]),?_,?_,rfl⟩
    ·refine⟨_,_,_,_,_,nL _ _ _ _ _,?_⟩
     refine⟨(vB true,[]),?_,?_,rfl⟩
     ·refine⟨_,_,_,_,_,_,_,aH p o an an an,?_⟩
      refine⟨_,cq _ eg,?_⟩;refine aa cF (aa cF ?_);refine⟨_,_,_,_,_,_,gm _ eg,?_⟩;refine⟨_,cq _ eg,?_⟩;refine aa cF ?_;refine⟨_,_,_,_,_,_,_,ig _ 1 an an eg,?_⟩;refine aa cF ?_;refine⟨_,cq _ eg,?_⟩;refine aa cF (aa cF ?_);refine⟨_,_,_,_,_,_,_,ig _ 1 an an eg,?_⟩;refine⟨_,bV _ 1 an an eg,?_⟩;refine aa cF (aa cF ?_);refine⟨(vB true,[]),?_,?_,rfl⟩
      ·refine⟨_,_,_,_,_,_,gm _ eg,?_⟩
       refine⟨(vB true,[]),?_,?_,rfl⟩
       ·refine⟨_,_,_,_,_,nL _ _ _ _ _,?_⟩
        refine⟨(vB true,[]),?_,?_,rfl⟩
        ·refine⟨_,_,_,_,_,_,_,aH p o an an an,?_⟩
         refine⟨_,cq _ eg,?_⟩;refine aa cF (aa cF ?_);refine⟨_,bV _ 1 an an eg,?_⟩;refine aa cF (aa cF ?_);exact rfl
        ·refine⟨_,_,_,_,_,_,_,aH p o an an an,?_⟩
         refine⟨_,cq _ eg,?_⟩;refine aa cF (aa cF ?_);refine⟨_,bV _ 1 an an eg,?_⟩;refine aa cF (aa cF ?_);exact rfl
       ·refine⟨_,_,_,_,_,nL _ _ _ _ _,?_⟩
        refine⟨_,_,_,_,_,_,_,aH p o an an an,?_⟩;refine⟨_,cq _ eg,?_⟩;refine aa cF (aa cF ?_);refine⟨_,bV _ 1 an an eg,?_⟩;refine aa cF (aa cF ?_);exact rfl
      ·refine⟨_,_,_,_,_,_,gm _ eg,?_⟩
       refine⟨_,_,_,_,_,nL _ _ _ _ _,?_⟩;refine⟨_,_,_,_,_,_,_,aH p o an an an,?_⟩;refine⟨_,cq _ eg,?_⟩;refine aa cF (aa cF ?_);refine⟨_,bV _ 1 an an eg,?_⟩;refine aa cF (aa cF ?_);exact rfl
     ·refine⟨_,_,_,_,_,_,_,aH p o an an an,?_⟩
      refine⟨_,cq _ eg,?_⟩;refine aa cF (aa cF ?_);refine⟨_,_,_,_,_,_,gm _ eg,?_⟩;refine⟨_,cq _ eg,?_⟩;refine aa cF ?_;refine⟨_,_,_,_,_,_,_,ig _ 1 an an eg,?_⟩;refine aa cF ?_;refine⟨_,cq _ eg,?_⟩;refine aa cF (aa cF ?_);refine⟨_,_,_,_,_,_,_,ig _ 1 an an eg,?_⟩;refine⟨_,bV _ 1 an an eg,?_⟩;refine aa cF (aa cF ?_);refine⟨(vB true,[]),?_,?_,rfl⟩
      ·refine⟨_,_,_,_,_,_,gm _ eg,?_⟩
       refine⟨(vB true,[]),?_,?_,rfl⟩
       ·refine⟨_,_,_,_,_,nL _ _ _ _ _,?_⟩
        refine⟨(vB true,[]),?_,?_,rfl⟩
        ·refine⟨_,_,_,_,_,_,_,aH p o an an an,?_⟩
         refine⟨_,cq _ eg,?_⟩;refine aa cF (aa cF ?_);refine⟨_,bV _ 1 an an eg,?_⟩;refine aa cF (aa cF ?_);exact rfl
        ·refine⟨_,_,_,_,_,_,_,aH p o an an an,?_⟩
         refine⟨_,cq _ eg,?_⟩;refine aa cF (aa cF ?_);refine⟨_,bV _ 1 an an eg,?_⟩;refine aa cF (aa cF ?_);exact rfl
       ·refine⟨_,_,_,_,_,nL _ _ _ _ _,?_⟩
        refine⟨_,_,_,_,_,_,_,aH p o an an an,?_⟩;refine⟨_,cq _ eg,?_⟩;refine aa cF (aa cF ?_);refine⟨_,bV _ 1 an an eg,?_⟩;refine aa cF (aa cF ?_);exact rfl
      ·refine⟨_,_,_,_,_,_,gm _ eg,?_⟩
       refine⟨_,_,_,_,_,nL _ _ _ _ _,?_⟩;refine⟨_,_,_,_,_,_,_,aH p o an an an,?_⟩;refine⟨_,cq _ eg,?_⟩;refine aa cF (aa cF ?_);refine⟨_,bV _ 1 an an eg,?_⟩;refine aa cF (aa cF ?_);exact rfl
    ·refine⟨_,_,_,_,_,nL _ _ _ _ _,?_⟩
     refine⟨_,_,_,_,_,_,_,aH p o an an an,?_⟩;refine⟨_,cq _ eg,?_⟩;refine aa cF (aa cF ?_);refine⟨_,_,_,_,_,_,gm _ eg,?_⟩;refine⟨_,cq _ eg,?_⟩;refine aa cF ?_;refine⟨_,_,_,_,_,_,_,ig _ 1 an an eg,?_⟩;refine aa cF ?_;refine⟨_,cq _ eg,?_⟩;refine aa cF (aa cF ?_);refine⟨_,_,_,_,_,_,_,ig _ 1 an an eg,?_⟩;refine⟨_,bV _ 1 an an eg,?_⟩;refine aa cF (aa cF ?_);refine⟨(vB true,[]),?_,?_,rfl⟩
     ·refine⟨_,_,_,_,_,_,gm _ eg,?_⟩
      refine⟨(vB true,[]),?_,?_,rfl⟩
      ·refine⟨_,_,_,_,_,nL _ _ _ _ _,?_⟩
       refine⟨(vB true,[]),?_,?_,rfl⟩
       ·refine⟨_,_,_,_,_,_,_,aH p o an an an,?_⟩
        refine⟨_,cq _ eg,?_⟩;refine aa cF (aa cF ?_);refine⟨_,bV _ 1 an an eg,?_⟩;refine aa cF (aa cF ?_);exact rfl
       ·refine⟨_,_,_,_,_,_,_,aH p o an an an,?_⟩
        refine⟨_,cq _ eg,?_⟩;refine aa cF (aa cF ?_);refine⟨_,bV _ 1 an an eg,?_⟩;refine aa cF (aa cF ?_);exact rfl
      ·refine⟨_,_,_,_,_,nL _ _ _ _ _,?_⟩
       refine⟨_,_,_,_,_,_,_,aH p o an an an,?_⟩;refine⟨_,cq _ eg,?_⟩;refine aa cF (aa cF ?_);refine⟨_,bV _ 1 an an eg,?_⟩;refine aa cF (aa cF ?_);exact rfl
     ·refine⟨_,_,_,_,_,_,gm _ eg,?_⟩
      refine⟨_,_,_,_,_,nL _ _ _ _ _,?_⟩;refine⟨_,_,_,_,_,_,_,aH p o an an an,?_⟩;refine⟨_,cq _ eg,?_⟩;refine aa cF (aa cF ?_);refine⟨_,bV _ 1 an an eg,?_⟩;refine aa cF (aa cF ?_);exact rfl
  ·refine⟨_,_,_,_,_,nL _ _ _ _ _,?_⟩
   refine⟨_,_,_,_,_,_,_,xj p o an an an,?_⟩;refine⟨_,_,_,_,_,_,gm _ eg,?_⟩;refine⟨(vB true,[]),?_,?_,rfl⟩
   ·refine⟨_,_,_,_,_,nL _ _ _ _ _,?_⟩
    refine⟨(vB true,[]),?_,?_,rfl⟩
    ·refine⟨_,_,_,_,_,_,_,aH p o an an an,?_⟩
     refine⟨_,cq _ eg,?_⟩;refine aa cF (aa cF ?_);refine⟨_,_,_,_,_,_,gm _ eg,?_⟩;refine⟨_,cq _ eg,?_⟩;refine aa cF ?_;refine⟨_,_,_,_,_,_,_,ig _ 1 an an eg,?_⟩;refine aa cF ?_;refine⟨_,cq _ eg,?_⟩;refine aa cF (aa cF ?_);refine⟨_,_,_,_,_,_,_,ig _ 1 an an eg,?_⟩;refine⟨_,bV _ 1 an an eg,?_⟩;refine aa cF (aa cF ?_);refine⟨(vB true,[]),?_,?_,rfl⟩
     ·refine⟨_,_,_,_,_,_,gm _ eg,?_⟩
      refine⟨(vB true,[]),?_,?_,rfl⟩
      ·refine⟨_,_,_,_,_,nL _ _ _ _ _,?_⟩
       refine⟨(vB true,[]),?_,?_,rfl⟩
       ·refine⟨_,_,_,_,_,_,_,aH p o an an an,?_⟩
        refine⟨_,cq _ eg,?_⟩;refine aa cF (aa cF ?_);refine⟨_,bV _ 1 an an eg,?_⟩;refine aa cF (aa cF ?_);exact rfl
       ·refine⟨_,_,_,_,_,_,_,aH p o an an an,?_⟩
        refine⟨_,cq _ eg,?_⟩;refine aa cF (aa cF ?_);refine⟨_,bV _ 1 an an eg,?_⟩;refine aa cF (aa cF ?_);exact rfl
      ·refine⟨_,_,_,_,_,nL _ _ _ _ _,?_⟩
       refine⟨_,_,_,_,_,_,_,aH p o an an an,?_⟩;refine⟨_,cq _ eg,?_⟩;refine aa cF (aa cF ?_);refine⟨_,bV _ 1 an an eg,?_⟩;refine aa cF (aa cF ?_);exact rfl
     ·refine⟨_,_,_,_,_,_,gm _ eg,?_⟩
      refine⟨_,_,_,_,_,nL _ _ _ _ _,?_⟩;refine⟨_,_,_,_,_,_,_,aH p o an an an,?_⟩;refine⟨_,cq _ eg,?_⟩;refine aa cF (aa cF ?_);refine⟨_,bV _ 1 an an eg,?_⟩;refine aa cF (aa cF ?_);exact rfl
    ·refine⟨_,_,_,_,_,_,_,aH p o an an an,?_⟩
     refine⟨_,cq _ eg,?_⟩;refine aa cF (aa cF ?_);refine⟨_,_,_,_,_,_,gm _ eg,?_⟩;refine⟨_,cq _ eg,?_⟩;refine aa cF ?_;refine⟨_,_,_,_,_,_,_,ig _ 1 an an eg,?_⟩;refine aa cF ?_;refine⟨_,cq _ eg,?_⟩;refine aa cF (aa cF ?_);refine⟨_,_,_,_,_,_,_,ig _ 1 an an eg,?_⟩;refine⟨_,bV _ 1 an an eg,?_⟩;refine aa cF (aa cF ?_);refine⟨(vB true,[]),?_,?_,rfl⟩
     ·refine⟨_,_,_,_,_,_,gm _ eg,?_⟩
      refine⟨(vB true,[]),?_,?_,rfl⟩
      ·refine⟨_,_,_,_,_,nL _ _ _ _ _,?_⟩
       refine⟨(vB true,[]),?_,?_,rfl⟩
       ·refine⟨_,_,_,_,_,_,_,aH p o an an an,?_⟩
        refine⟨_,cq _ eg,?_⟩;refine aa cF (aa cF ?_);refine⟨_,bV _ 1 an an eg,?_⟩;refine aa cF (aa cF ?_);exact rfl
       ·refine⟨_,_,_,_,_,_,_,aH p o an an an,?_⟩
        refine⟨_,cq _ eg,?_⟩;refine aa cF (aa cF ?_);refine⟨_,bV _ 1 an an eg,?_⟩;refine aa cF (aa cF ?_);exact rfl
      ·refine⟨_,_,_,_,_,nL _ _ _ _ _,?_⟩
       refine⟨_,_,_,_,_,_,_,aH p o an an an,?_⟩;refine⟨_,cq _ eg,?_⟩;refine aa cF (aa cF ?_);refine⟨_,bV _ 1 an an eg,?_⟩;refine aa cF (aa cF ?_);exact rfl
     ·refine⟨_,_,_,_,_,_,gm _ eg,?_⟩
      refine⟨_,_,_,_,_,nL _ _ _ _ _,?_⟩;refine⟨_,_,_,_,_,_,_,aH p o an an an,?_⟩;refine⟨_,cq _ eg,?_⟩;refine aa cF (aa cF ?_);refine⟨_,bV _ 1 an an eg,?_⟩;refine aa cF (aa cF ?_);exact rfl
   ·refine⟨_,_,_,_,_,nL _ _ _ _ _,?_⟩
    refine⟨_,_,_,_,_,_,_,aH p o an an an,?_⟩;refine⟨_,cq _ eg,?_⟩;refine aa cF (aa cF ?_);refine⟨_,_,_,_,_,_,gm _ eg,?_⟩;refine⟨_,cq _ eg,?_⟩;refine aa cF ?_;refine⟨_,_,_,_,_,_,_,ig _ 1 an an eg,?_⟩;refine aa cF ?_;refine⟨_,cq _ eg,?_⟩;refine aa cF (aa cF ?_);refine⟨_,_,_,_,_,_,_,ig _ 1 an an eg,?_⟩;refine⟨_,bV _ 1 an an eg,?_⟩;refine aa cF (aa cF ?_);refine⟨(vB true,[]),?_,?_,rfl⟩
    ·refine⟨_,_,_,_,_,_,gm _ eg,?_⟩
     refine⟨(vB true,[]),?_,?_,rfl⟩
     ·refine⟨_,_,_,_,_,nL _ _ _ _ _,?_⟩
      refine⟨(vB true,[]),?_,?_,rfl⟩
      ·refine⟨_,_,_,_,_,_,_,aH p o an an an,?_⟩
       refine⟨_,cq _ eg,?_⟩;refine aa cF (aa cF ?_);refine⟨_,bV _ 1 an an eg,?_⟩;refine aa cF (aa cF ?_);exact rfl
      ·refine⟨_,_,_,_,_,_,_,aH p o an an an,?_⟩
       refine⟨_,cq _ eg,?_⟩;refine aa cF (aa cF ?_);refine⟨_,bV _ 1 an an eg,?_⟩;refine aa cF (aa cF ?_);exact rfl
     ·refine⟨_,_,_,_,_,nL _ _ _ _ _,?_⟩
      refine⟨_,_,_,_,_,_,_,aH p o an an an,?_⟩;refine⟨_,cq _ eg,?_⟩;refine aa cF (aa cF ?_);refine⟨_,bV _ 1 an an eg,?_⟩;refine aa cF (aa cF ?_);exact rfl
    ·refine⟨_,_,_,_,_,_,gm _ eg,?_⟩
     refine⟨_,_,_,_,_,nL _ _ _ _ _,?_⟩;refine⟨_,_,_,_,_,_,_,aH p o an an an,?_⟩;refine⟨_,cq _ eg,?_⟩;refine aa cF (aa cF ?_);refine⟨_,bV _ 1 an an eg,?_⟩;refine aa cF (aa cF ?_);exact rfl
 ·refine⟨_,_,_,_,_,_,gm _ eg,?_⟩
  refine⟨_,_,_,_,_,nL _ _ _ _ _,?_⟩;refine⟨_,_,_,_,_,_,_,xj p o an an an,?_⟩;refine⟨_,_,_,_,_,_,gm _ eg,?_⟩;refine⟨(vB true,[]),?_,?_,rfl⟩
  ·refine⟨_,_,_,_,_,nL _ _ _ _ _,?_⟩
   refine⟨(vB true,[]),?_,?_,rfl⟩
   ·refine⟨_,_,_,_,_,_,_,aH p o an an an,?_⟩
    refine⟨_,cq _ eg,?_⟩;refine aa cF (aa cF ?_);refine⟨_,_,_,_,_,_,gm _ eg,?_⟩;refine⟨_,cq _ eg,?_⟩;refine aa cF ?_;refine⟨_,_,_,_,_,_,_,ig _ 1 an an eg,?_⟩;refine aa cF ?_;refine⟨_,cq _ eg,?_⟩;refine aa cF (aa cF ?_);refine⟨_,_,_,_,_,_,_,ig _ 1 an an eg,?_⟩;refine⟨_,bV _ 1 an an eg,?_⟩;refine aa cF (aa cF ?_);refine⟨(vB true,[]),?_,?_,rfl⟩
    ·refine⟨_,_,_,_,_,_,gm _ eg,?_⟩
     refine⟨(vB true,[]),?_,?_,rfl⟩
     ·refine⟨_,_,_,_,_,nL _ _ _ _ _,?_⟩
      refine⟨(vB true,[]),?_,?_,rfl⟩
      ·refine⟨_,_,_,_,_,_,_,aH p o an an an,?_⟩
       refine⟨_,cq _ eg,?_⟩;refine aa cF (aa cF ?_);refine⟨_,bV _ 1 an an eg,?_⟩;refine aa cF (aa cF ?_);exact rfl
      ·refine⟨_,_,_,_,_,_,_,aH p o an an an,?_⟩
       refine⟨_,cq _ eg,?_⟩;refine aa cF (aa cF ?_);refine⟨_,bV _ 1 an an eg,?_⟩;refine aa cF (aa cF ?_);exact rfl
     ·refine⟨_,_,_,_,_,nL _ _ _ _ _,?_⟩
      refine⟨_,_,_,_,_,_,_,aH p o an an an,?_⟩;refine⟨_,cq _ eg,?_⟩;refine aa cF (aa cF ?_);refine⟨_,bV _ 1 an an eg,?_⟩;refine aa cF (aa cF ?_);exact rfl
    ·refine⟨_,_,_,_,_,_,gm _ eg,?_⟩
     refine⟨_,_,_,_,_,nL _ _ _ _ _,?_⟩;refine⟨_,_,_,_,_,_,_,aH p o an an an,?_⟩;refine⟨_,cq _ eg,?_⟩;refine aa cF (aa cF ?_);refine⟨_,bV _ 1 an an eg,?_⟩;refine aa cF (aa cF ?_);exact rfl
   ·refine⟨_,_,_,_,_,_,_,aH p o an an an,?_⟩
    refine⟨_,cq _ eg,?_⟩;refine aa cF (aa cF ?_);refine⟨_,_,_,_,_,_,gm _ eg,?_⟩;refine⟨_,cq _ eg,?_⟩;refine aa cF ?_;refine⟨_,_,_,_,_,_,_,ig _ 1 an an eg,?_⟩;refine aa cF ?_;refine⟨_,cq _ eg,?_⟩;refine aa cF (aa cF ?_);refine⟨_,_,_,_,_,_,_,ig _ 1 an an eg,?_⟩;refine⟨_,bV _ 1 an an eg,?_⟩;refine aa cF (aa cF ?_);refine⟨(vB true,[]),?_,?_,rfl⟩
    ·refine⟨_,_,_,_,_,_,gm _ eg,?_⟩
     refine⟨(vB true,[]),?_,?_,rfl⟩
     ·refine⟨_,_,_,_,_,nL _ _ _ _ _,?_⟩
      refine⟨(vB true,[]),?_,?_,rfl⟩
      ·refine⟨_,_,_,_,_,_,_,aH p o an an an,?_⟩
       refine⟨_,cq _ eg,?_⟩;refine aa cF (aa cF ?_);refine⟨_,bV _ 1 an an eg,?_⟩;refine aa cF (aa cF ?_);exact rfl
      ·refine⟨_,_,_,_,_,_,_,aH p o an an an,?_⟩
       refine⟨_,cq _ eg,?_⟩;refine aa cF (aa cF ?_);refine⟨_,bV _ 1 an an eg,?_⟩;refine aa cF (aa cF ?_);exact rfl
     ·refine⟨_,_,_,_,_,nL _ _ _ _ _,?_⟩
      refine⟨_,_,_,_,_,_,_,aH p o an an an,?_⟩;refine⟨_,cq _ eg,?_⟩;refine aa cF (aa cF ?_);refine⟨_,bV _ 1 an an eg,?_⟩;refine aa cF (aa cF ?_);exact rfl
    ·refine⟨_,_,_,_,_,_,gm _ eg,?_⟩
     refine⟨_,_,_,_,_,nL _ _ _ _ _,?_⟩;refine⟨_,_,_,_,_,_,_,aH p o an an an,?_⟩;refine⟨_,cq _ eg,?_⟩;refine aa cF (aa cF ?_);refine⟨_,bV _ 1 an an eg,?_⟩;refine aa cF (aa cF ?_);exact rfl
  ·refine⟨_,_,_,_,_,nL _ _ _ _ _,?_⟩
   refine⟨_,_,_,_,_,_,_,aH p o an an an,?_⟩;refine⟨_,cq _ eg,?_⟩;refine aa cF (aa cF ?_);refine⟨_,_,_,_,_,_,gm _ eg,?_⟩;refine⟨_,cq _ eg,?_⟩;refine aa cF ?_;refine⟨_,_,_,_,_,_,_,ig _ 1 an an eg,?_⟩;refine aa cF ?_;refine⟨_,cq _ eg,?_⟩;refine aa cF (aa cF ?_);refine⟨_,_,_,_,_,_,_,ig _ 1 an an eg,?_⟩;refine⟨_,bV _ 1 an an eg,?_⟩;refine aa cF (aa cF ?_);refine⟨(vB true,[]),?_,?_,rfl⟩
   ·refine⟨_,_,_,_,_,_,gm _ eg,?_⟩
    refine⟨(vB true,[]),?_,?_,rfl⟩
    ·refine⟨_,_,_,_,_,nL _ _ _ _ _,?_⟩
     refine⟨(vB true,[]),?_,?_,rfl⟩
     ·refine⟨_,_,_,_,_,_,_,aH p o an an an,?_⟩
      refine⟨_,cq _ eg,?_⟩;refine aa cF (aa cF ?_);refine⟨_,bV _ 1 an an eg,?_⟩;refine aa cF (aa cF ?_);exact rfl
     ·refine⟨_,_,_,_,_,_,_,aH p o an an an,?_⟩
      refine⟨_,cq _ eg,?_⟩;refine aa cF (aa cF ?_);refine⟨_,bV _ 1 an an eg,?_⟩;refine aa cF (aa cF ?_);exact rfl
    ·refine⟨_,_,_,_,_,nL _ _ _ _ _,?_⟩
     refine⟨_,_,_,_,_,_,_,aH p o an an an,?_⟩;refine⟨_,cq _ eg,?_⟩;refine aa cF (aa cF ?_);refine⟨_,bV _ 1 an an eg,?_⟩;refine aa cF (aa cF ?_);exact rfl
   ·refine⟨_,_,_,_,_,_,gm _ eg,?_⟩
    refine⟨_,_,_,_,_,nL _ _ _ _ _,?_⟩;refine⟨_,_,_,_,_,_,_,aH p o an an an,?_⟩;refine⟨_,cq _ eg,?_⟩;refine aa cF (aa cF ?_);refine⟨_,bV _ 1 an an eg,?_⟩;refine aa cF (aa cF ?_);exact rfl
theorem ahF (vs:List TV) (h:ac1 C.tt [yD,D7] vs): ∃k,lR C k w4 vs (vB true) []:=by
 cases h with
 |cons h0 h=>
  cases h with
  |cons h1 h=>
   cases h
   obtain⟨p,rfl,wp⟩:=aoh h0;obtain⟨o,rfl,wo⟩:=aqY h1;exact ahE p wp o wo
end Go.T.R
