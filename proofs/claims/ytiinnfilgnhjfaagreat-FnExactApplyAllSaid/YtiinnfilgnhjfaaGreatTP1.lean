/- What the functions answer. -/
import Derived.Test.YtiinnfilgnhjfaaGreatTP0
set_option linter.unusedVariables false
set_option linter.unusedSimpArgs false
set_option maxRecDepth 100000
set_option maxHeartbeats 4000000
namespace Go.T.R
open Go Go.T
theorem Oh (t:Tree) (i:Int) (hl:cG t≤4194304):an C DN [dW t,vI i] (dW (Ay t i)) []:=by
 have hN:=wB hl;have e2:cG t=t.aE.length+(t.nodes.length+tot aP t.nodes):=rfl;refine(UX _ _ _ _ ⟨_,_,xb t hN.1 hN.2,_,nG _ _ _,?_⟩).run;unfold Ay;rw[bX,show cN (Int.ofNat t.nodes.length) 1=(t.nodes.length:Int)-1 from de eI]
 by_cases h1:0≤i∧i<t.nodes.length
 ·obtain⟨n,hn⟩:=mg h1.1 h1.2
  have hz:aP n≤tot aP t.nodes:=oA (w:=aP) (Ek hn);have e1:aP n=n.length+tot bY n:=rfl;refine ah (by simp[iA];omega) ?_;simp only[tM,hn,aY,dm];refine⟨_,Og n ay ay,?_⟩;simp only[ab7]
  first|exact⟨rfl,by trivial⟩|exact⟨trivial,trivial⟩|trivial|simp
 ·rw[gD h1]
  exact ak (by simp[iA];omega) ⟨rfl,by trivial⟩
theorem Oi (p:Pool) (i:Int) (hS:aJ p≤4194304):an C DL [cY p,vI i] (tPB (qa p i)) []:=by
 have hP:=cC hS;have e2:cG p.t=p.t.aE.length+(p.t.nodes.length+tot aP p.t.nodes):=rfl;refine(Uf _ _ _ _ _ _ _ _ ⟨_,_,_,_,_,_,bJ p hS,_,e8 p hS,?_⟩).run;unfold qa
 cases h0:cZ p with
 |false=>exact ah rfl ⟨by simp,by trivial⟩
 |true=>
  refine ak rfl ⟨_,nG _ _ _,?_⟩;rw[bX,show cN (Int.ofNat p.t.nodes.length) 1=(p.t.nodes.length:Int)-1 from de eI]
  by_cases h1:0≤i∧i<p.t.nodes.length
  ·refine ak (by simp[iA];omega) ⟨_,_,Oh p.t i hP.1,?_⟩
   exact⟨by rw[aI ⟨rfl,h1⟩],by trivial⟩
  ·exact ah (by simp[iA];omega) ⟨by rw[aF (fun h=>h1 h.2)],by trivial⟩
theorem Gy (p x:Pool) (hS:aJ p≤4194304) (hX:aJ x≤4194304):an C gz [cY p,cY x,vB true] (PW (ab9 p x)) []:=by
 refine(LQ _ _ _ _ _ _ _ _ _ _ _ _ _ _ ?_).run;refine ak rfl ⟨_,gL x hX,?_⟩;unfold ab9
 cases h1:cZ x with
 |false=>exact ah rfl ⟨_,_,_,_,_,_,cz p hS,⟨rfl,by trivial⟩⟩
 |true=>exact ak rfl ⟨rfl,by trivial⟩
theorem Es (p x:Pool) (hS:aJ p≤4194304) (hX:aJ x≤4194304):an C jm [cY p,cY x,vB true] (PW (ab9 p x)) []:=by
 refine(KB _ _ _ _ _ _ _ _ _ _ _ _ _ _ ?_).run;refine ak rfl ⟨_,e8 x hX,?_⟩;unfold ab9
 cases h1:cZ x with
 |false=>exact ah rfl ⟨_,_,_,_,_,_,bJ p hS,⟨rfl,by trivial⟩⟩
 |true=>exact ak rfl ⟨rfl,by trivial⟩
theorem F8 {l:List Vol} {s:ByteArray} (h: ¬bZ l s<0): ∃v,ff l (bZ l s)=some v:=by
 obtain⟨m,h1,_⟩:=wT _ l h;exact⟨m,h1⟩
theorem xX (p:Pool) (s:ByteArray) (hS:aJ p≤4194304) (hz:s.size≤140737488355328):an C w4 [cY p,vS s] (vI (if uz p s=true then 0 else 1)) []:=by
 refine(XN _ _ _ _ _ _ _ _ ⟨_,gL p hS,?_⟩).run;unfold uz
 cases h1:cZ p with
 |false=>exact ah rfl ⟨rfl,by trivial⟩
 |true=>
  refine ak rfl ⟨_,(uU s hz (jR s)).2 rfl,?_⟩
  cases h2:jR s with
  |false=>exact ah rfl ⟨rfl,by trivial⟩
  |true=>exact ak rfl ⟨rfl,by trivial⟩
theorem Gz (p:Pool) (s:ByteArray) (hS:aJ p≤4194304) (hz:s.size≤140737488355328):an C B8 [cY p,vS s] (vI (if uz p s=true then(if bZ p.au s<0 then 2 else 0) else 1)) []:=by
 have hP:=cC hS;refine(Zz _ _ _ _ _ _ _ _ ⟨_,xX p s hS hz,?_⟩).run
 cases h1:uz p s with
 |false=>exact ak cW ⟨rfl,by trivial⟩
 |true=>
  refine ah cW ⟨_,jj p s ay,?_⟩
  by_cases h2:bZ p.au s<0
  ·exact ah (by simp[h2]) ⟨by simp[h2],by trivial⟩
  ·exact ak eI ⟨by simp[h2],by trivial⟩
theorem YV (p:Pool) (s:ByteArray) (hS:aJ p≤4194304) (hz:s.size≤140737488355328):an C P8 [cY p,vS s] (PW (JB p s)) []:=by
 have hP:=cC hS;refine(ae7 _ _ _ _ _ _ _ _ ⟨_,_,_,_,_,_,cz p hS,_,Gz p s hS hz,?_⟩).run;unfold JB
 cases h0:uz p s with
 |false=>exact ah cW ⟨rfl,by trivial⟩
 |true=>
  simp only[if_true]
  by_cases hn:bZ p.au s<0
  ·simp only[aI hn]
   exact ah cW (by first|exact⟨rfl,by trivial⟩|exact⟨trivial,trivial⟩|simp)
  ·simp only[aF hn]
   obtain⟨v,hv⟩:=F8 hn
   have h1:aC (p.au.map cg) 0 (bZ p.au s)=(p.au.take (bZ p.au s).toNat).map cg:=by rw[cJ];rfl
   have h2:aC (p.au.map cg) (bZ p.au s+1) (Int.ofNat p.au.length)=(p.au.drop ((bZ p.au s).toNat+1)).map cg:=by
    rw[cJ,show(bZ p.au s+1).toNat=(bZ p.au s).toNat+1 by omega,show(Int.ofNat p.au.length).toNat=p.au.length from rfl,vZ]
   have h3:List.append ((p.au.take (bZ p.au s).toNat).map cg) ((p.au.drop ((bZ p.au s).toNat+1)).map cg)=(FO p (bZ p.au s)).au.map cg:=(uv (f:=cg) (l₁:=p.au.take (bZ p.au s).toNat) (l₂:=p.au.drop ((bZ p.au s).toNat+1))).symm;have hX:aJ (FO p (bZ p.au s))≤4194304:=uL (PX p _) hS
   have RP:(p.au.take (bZ p.au s).toNat).length≤p.au.length:=by rw[eO];omega
   have D0:(p.au.drop ((bZ p.au s).toNat+1)).length≤p.au.length:=by rw[iR];omega
   have hi:0≤bZ p.au s∧bZ p.au s<p.au.length:=Classical.byContradiction fun hn=>by rw[gD hn] at hv;cases hv
   refine ak cW ⟨_,jj p s ay,?_⟩;rw[bX,aG ay,h1,h2,h3];refine ah eI (ah eI (ah (by rw[wj,cO eI];rfl) (ah (by rw[wj,cO eI];rfl) ?_)));exact⟨_,_,_,_,_,_,_,Gy p (FO p (bZ p.au s)) hS hX,⟨rfl,by trivial⟩⟩
theorem YW (p:Pool) (s:ByteArray) (hS:aJ p≤4194304) (hz:s.size≤140737488355328):an C Qb [cY p,vS s] (PW (JB p s)) []:=by
 have hP:=cC hS;refine(ae2 _ _ _ _ _ _ _ _ ⟨_,lP p s ay,_,e8 p hS,?_⟩).run;unfold JB uz
 cases ha:cZ p with
 |false=>exact ah rfl ⟨_,_,_,_,_,_,bJ p hS,⟨rfl,by trivial⟩⟩
 |true=>
 refine ak rfl ⟨_,(m5 s hz (jR s)).2 rfl,?_⟩
 cases hb:jR s with
 |false=>exact ah rfl ⟨_,_,_,_,_,_,bJ p hS,⟨rfl,by trivial⟩⟩
 |true=>
  refine ak rfl ?_;simp only[Bool.and_self,if_true]
  by_cases hn:bZ p.au s<0
  ·simp only[aI hn]
   exact ah (by simp[hn]) ⟨_,_,_,_,_,_,bJ p hS,⟨rfl,by trivial⟩⟩
  ·simp only[aF hn]
   obtain⟨v,hv⟩:=F8 hn
   have h1:aC (p.au.map cg) 0 (bZ p.au s)=(p.au.take (bZ p.au s).toNat).map cg:=by rw[cJ];rfl
   have h2:aC (p.au.map cg) (bZ p.au s+1) (Int.ofNat p.au.length)=(p.au.drop ((bZ p.au s).toNat+1)).map cg:=by
    rw[cJ,show(bZ p.au s+1).toNat=(bZ p.au s).toNat+1 by omega,show(Int.ofNat p.au.length).toNat=p.au.length from rfl,vZ]
   have h3:List.append ((p.au.take (bZ p.au s).toNat).map cg) ((p.au.drop ((bZ p.au s).toNat+1)).map cg)=(FO p (bZ p.au s)).au.map cg:=(uv (f:=cg) (l₁:=p.au.take (bZ p.au s).toNat) (l₂:=p.au.drop ((bZ p.au s).toNat+1))).symm;have hX:aJ (FO p (bZ p.au s))≤4194304:=uL (PX p _) hS
   have RP:(p.au.take (bZ p.au s).toNat).length≤p.au.length:=by rw[eO];omega
   have D0:(p.au.drop ((bZ p.au s).toNat+1)).length≤p.au.length:=by rw[iR];omega
   have hi:0≤bZ p.au s∧bZ p.au s<p.au.length:=Classical.byContradiction fun hn=>by rw[gD hn] at hv;cases hv
   refine ak eI ⟨_,_,_,_,_,_,bJ p hS,?_⟩;rw[bX,aG ay,h1,h2,h3];refine ah eI (ah eI (ah (by rw[wj,cO eI];rfl) ?_));exact⟨_,_,_,_,_,_,_,Es p (FO p (bZ p.au s)) hS hX,⟨rfl,by trivial⟩⟩
theorem WT (l:List Age) (id fr:Int) (k:Nat) (hk:k≤l.length) (hl:l.length≤1073741824):an C r9 [gx l,vI (k:Int),.c (.sub 2 [[iI id,iI fr]])] (gx (l.take k++⟨id,fr⟩::l.drop k)) []:=by
 refine an.ext (p:=akz 2 16) rfl ?_;unfold akz;simp only[];rw[aI ⟨trivial,trivial,by omega,by simp<;>omega,cO rQ⟩,lV];unfold gx;rw[uv,List.map_cons,I8,D3]
 rfl
theorem y8 (l:List Age) (id fr:Int) (hl:l.length≤1073741800):an C iW [gx l,vI id,vI fr] (TV.tu [(0,[TC.sub 2 ((iG l id fr).1.map bQ)]),(0,[iB (iG l id fr).2])]) []:=by
 refine(ZB _ _ _ _ ?_).run
 have key:(l.take 0).all (leA id)=true→aa C iW Ov 4 0 (rj (l.map bQ) id fr ((0:Nat):Int)) (fun x st=>ax C iW Ov x st fun r fs=>r=(TV.tu [(0,[TC.sub 2 ((iG l id fr).1.map bQ)]),(0,[iB (iG l id fr).2])])∧fs=[]):=by
  have fin: ∀k:Nat,k≤l.length→(l.takeWhile (leA id)).length=k→ ∀Q:QV,Q (TV.tu [(0,[TC.sub 2 ((iG l id fr).1.map bQ)]),(0,[iB (iG l id fr).2])]) []→
   ∃(l7:RR),an C fQ ([TV.c (TC.sub 2 (l.map bQ))]) (TV.c (TC.sub 2 l7)) []∧(∃(l8:RR),an C r9 ([TV.c (TC.sub 2 l7),TV.c (iI (k:Int)),TV.c (TC.sub 2 [[iI id,iI fr]])]) (TV.c (TC.sub 2 l8)) []∧(∃(n9:Int),an C iP ([TV.c (TC.sub 2 (l.map bQ)),TV.c (iI id)]) (TV.c (iI n9)) []∧(aq (m6 0 n9) (∃(l10:RR),an C fQ ([TV.c (TC.sub 2 (l.map bQ))]) (TV.c (TC.sub 2 l10)) []∧(Q (TV.tu [(0,[TC.sub 2 l10]),(0,[iB false])]) ([]))) (∃(b11:Bool),an C dG ([TV.c (TC.sub 2 l8)]) (TV.c (iB b11)) []∧(aq (!b11) (∃(l12:RR),an C fQ ([TV.c (TC.sub 2 (l.map bQ))]) (TV.c (TC.sub 2 l12)) []∧(Q (TV.tu [(0,[TC.sub 2 l12]),(0,[iB false])]) ([]))) (Q (TV.tu [(0,[TC.sub 2 l8]),(0,[iB true])]) ([]))))))):=by
   intro k hk he Q hQ;have hi:=Wq (leA id) (⟨id,fr⟩:Age) l he
   have hln:(rV l id fr).length≤1073741824:=by unfold rV;rw[Ac];omega
   refine⟨_,oR l ay,_,WT l id fr k hk ay,_,w8 l id ay,?_⟩;unfold iG at hQ;rw[hi]
   by_cases h1:0≤fk l id
   ·rw[aI h1] at hQ
    exact ah (by simpa using h1) ⟨_,oR l ay,hQ⟩
   ·rw[aF h1] at hQ
    have hok:an C dG [gx (rV l id fr)] (vB (gU (rV l id fr))) []:=yW (rV l id fr) hln;refine ak rQ ⟨_,hok,?_⟩
    by_cases h2:gU (rV l id fr)=true
    ·rw[aI h2] at hQ
     rw[h2];exact ak rfl hQ
    ·rw[aF h2] at hQ
     have h2:gU (rV l id fr)=false:=by simpa using h2
     rw[h2];exact ah rfl ⟨_,oR l ay,hQ⟩
  refine aZ l (fun i=>(l.take i).all (leA id)=true→aa C iW Ov 4 0 (rj (l.map bQ) id fr (i:Int)) _) ?_ ?_
  ·intro h0
   refine Ic _ _ _ _ _ (ak cW (TT _ _ _ _ _ (fin l.length (cV _) (af5 _ l _ (cV _) h0 fun a ha=> ?_) (fun r fs=>r=(TV.tu [(0,[TC.sub 2 ((iG l id fr).1.map bQ)]),(0,[iB (iG l id fr).2])])∧fs=[]) ⟨rfl,by trivial⟩)));rw[Vz (cV _)] at ha;cases ha
  ·intro i a hi ha hd ht hn h0
   refine Ic _ _ _ _ _ (ah rQ ⟨a.id,a.fr,by rw[aR,aH,ha];rfl,?_⟩)
   by_cases hle:a.id≤id
   ·refine ah (by simpa using hle) ?_
    rw[aG ay];exact hn (by rw[ht,List.all_append,h0];simp[leA,hle])
   ·refine ak (by simpa using hle) (TR _ _ _ _ _ _ (fin i ay (af5 _ l i ay h0 fun b hb=> ?_) (fun r fs=>r=(TV.tu [(0,[TC.sub 2 ((iG l id fr).1.map bQ)]),(0,[iB (iG l id fr).2])])∧fs=[]) ⟨rfl,by trivial⟩))
    rw[ha] at hb;cases hb;simp[leA];omega
 exact key rfl
theorem y9 (l:List Age) (id fr:Int) (hl:l.length≤1073741800):an C ij [gx l,vI id,vI fr] (TV.tu [(0,[TC.sub 2 ((iG l id fr).1.map bQ)]),(0,[iB (iG l id fr).2])]) []:=by
 refine(aah _ _ _ _ ⟨_,qb l id ay,?_⟩).run
 obtain⟨T,hT⟩: ∃T,T=if 0≤fk l id then l else rV l id fr:=⟨_,rfl⟩
 have hTl:T.length≤l.length+1:=by
  rw[hT];split
  ·omega
  ·unfold rV;rw[Ac];omega
 have key: ∀(b:Bool) (acc:List Age),acc++(if b=true then l.drop 0 else rV (l.drop 0) id fr)=T→aa C ij av 4 0 (mK (l.map bQ) id fr b ((0:Nat):Int) (acc.map bQ)) (fun x st=>ax C ij av x st fun r fs=>r=(TV.tu [(0,[TC.sub 2 ((iG l id fr).1.map bQ)]),(0,[iB (iG l id fr).2])])∧fs=[]):=by
  have fin: ∀Q:QV,Q (TV.tu [(0,[TC.sub 2 ((iG l id fr).1.map bQ)]),(0,[iB (iG l id fr).2])]) []→
   ∃(n17:Int),an C ee ([TV.c (TC.sub 2 (l.map bQ)),TV.c (iI id)]) (TV.c (iI n17)) []∧(aq (m6 0 n17) (aq (bR (l.map bQ)&&fits (Nat.add 0 (List.length (l.map bQ))) 16) (Q (TV.tu [(0,[TC.sub 2 (l.map bQ)]),(0,[iB false])]) ([])) (False)) (∃(b18:Bool),an C dD ([TV.c (TC.sub 2 (T.map bQ))]) (TV.c (iB b18)) []∧(aq (!b18) (aq (bR (l.map bQ)&&fits (Nat.add 0 (List.length (l.map bQ))) 16) (Q (TV.tu [(0,[TC.sub 2 (l.map bQ)]),(0,[iB false])]) ([])) (False)) (Q (TV.tu [(0,[TC.sub 2 (T.map bQ)]),(0,[iB true])]) ([]))))):=by
   intro Q hQ
   have I6:(bR (l.map bQ)&&fits (Nat.add 0 (List.length (l.map bQ))) 16)=true:=by rw[z7,cO rQ];rfl
   refine⟨_,qb l id ay,?_⟩;unfold iG at hQ
   by_cases h1:0≤fk l id
   ·rw[aI h1] at hQ
    exact ah (by simpa using h1) (ah I6 hQ)
   ·rw[aF h1] at hQ hT
    have hok:an C dD [gx T] (vB (gU T)) []:=yU T ay;refine ak rQ ⟨_,hok,?_⟩;subst hT
    by_cases h2:gU (rV l id fr)=true
    ·rw[aI h2] at hQ
     rw[h2];exact ak rfl hQ
    ·rw[aF h2] at hQ
     have h2:gU (rV l id fr)=false:=by simpa using h2
     rw[h2];exact ah rfl (ah I6 hQ)
  refine aZ l (fun i=> ∀(b:Bool) (acc:List Age),acc++(if b=true then l.drop i else rV (l.drop i) id fr)=T→aa C ij av 4 0 (mK (l.map bQ) id fr b (i:Int) (acc.map bQ)) _) ?_ ?_
  ·intro b acc h0
   have hlen:=congrArg List.length h0;rw[cF] at hlen;refine II _ _ _ _ _ _ _ (ak cW (UQ _ _ _ _ _ _ _ _ ?_));rw[eu] at h0
   cases b with
   |true=>
    simp only[if_true,qm] at h0;subst h0;exact ak rfl (fin (fun r fs=>r=(TV.tu [(0,[TC.sub 2 ((iG l id fr).1.map bQ)]),(0,[iB (iG l id fr).2])])∧fs=[]) ⟨rfl,by trivial⟩)
   |false=>
    have e:acc++[(⟨id,fr⟩:Age)]=T:=by simpa [rV,yz] using h0
    refine ah rfl (ah (by rw[vM,cO rQ];rfl) ?_);rw[BZ,e];exact fin (fun r fs=>r=(TV.tu [(0,[TC.sub 2 ((iG l id fr).1.map bQ)]),(0,[iB (iG l id fr).2])])∧fs=[]) ⟨rfl,by trivial⟩
  ·intro i a hi ha hd ht hn b acc h0
   have hlen:=congrArg List.length h0;rw[cF] at hlen;refine II _ _ _ _ _ _ _ (ah rQ ?_)
   have hrow:rowAt (l.map bQ) (i:Int)=some [iI a.id,iI a.fr]:=by rw[aR,aH,ha];rfl
   have tH:aA (i:Int) 1=((i+1:Nat):Int):=aG ay
   cases b with
   |true=>
    rw[hd] at h0;simp only[if_true] at h0;refine ak rfl ⟨_,_,hrow,ah (by rw[vM,cO rQ];rfl) ?_⟩;rw[tH,BZ];exact hn true (acc++[a]) (by rw[←h0];simp)
   |false=>
    rw[hd] at h0;simp only[Nj,if_false] at h0;unfold rV at h0;rw[Mg] at h0;refine ah rfl ⟨_,_,hrow,?_⟩
    by_cases hlt:id<a.id
    ·have hle:leA id a=false:=by simp[leA];omega
     rw[hle] at h0;simp only[Nj,if_false] at h0;refine ah (by simpa using hlt) (ah (by rw[vM,cO rQ];rfl) ⟨_,_,hrow,ah (by rw[vM,BZ,cO rQ];rfl) ?_⟩);rw[tH,BZ,BZ];exact hn true (acc++[⟨id,fr⟩]++[a]) (by rw[←h0];simp)
    ·have hle:leA id a=true:=by simp[leA];omega
     rw[hle] at h0;simp only[if_true] at h0;refine ak (by simpa using hlt) ⟨_,_,hrow,ah (by rw[vM,cO rQ];rfl) ?_⟩;rw[tH,BZ];exact hn false (acc++[a]) (by rw[←h0];simp[rV])
 refine key (m6 0 (fk l id)) [] ?_;rw[hT,gj]
 by_cases h1:0≤fk l id<;>simp[h1]
theorem AL (l:List Vol) (v:Vol) (hl:l.length≤1073741800):an C fM [qR l,.ag (cg v)] (qR (lK l v)) []:=by
 refine(Rv _ _ _ _ _ _ ?_).run;have hTl:(lK l v).length=l.length+1:=Ac _ _ _
 have key: ∀(b:Bool) (acc:List Vol),acc++(if b=true then l.drop 0 else lK (l.drop 0) v)=lK l v→aa C fM av 4 0 (jB b (l.map cg) ((0:Nat):Int) v.name v.cT v.size v.fx (acc.map cg)) (fun x st=>ax C fM av x st fun r fs=>r=qR (lK l v)∧fs=[]):=by
  refine aZ l (fun i=> ∀(b:Bool) (acc:List Vol),acc++(if b=true then l.drop i else lK (l.drop i) v)=lK l v→aa C fM av 4 0 (jB b (l.map cg) (i:Int) v.name v.cT v.size v.fx (acc.map cg)) _) ?_ ?_
  ·intro b acc h0
   have hlen:=congrArg List.length h0;rw[cF] at hlen;refine Bk _ _ _ _ _ _ _ _ _ (ak cW (M5 _ _ _ _ _ _ _ _ _ _ _ ?_));rw[eu] at h0
   cases b with
   |true=>
    simp only[if_true,qm] at h0;exact ak rfl (by rw[h0];exact⟨rfl,by trivial⟩)
   |false=>
    have e:acc++[v]=lK l v:=by rw[←h0];simp[lK,yz]
    refine ah rfl (ah (by rw[vN,cO rQ];rfl) ?_);rw[FM];exact⟨by rw[e],rfl⟩
  ·intro i a hi ha hd ht hn b acc h0
   have hlen:=congrArg List.length h0;rw[cF] at hlen
   have hrow:rowAt (l.map cg) (i:Int)=some [iS a.name,iI a.cT,iI a.size,iB a.fx]:=by rw[aR,aH,ha];rfl
   have tH:aA (i:Int) 1=((i+1:Nat):Int):=aG ay;refine Bk _ _ _ _ _ _ _ _ _ (ah rQ ⟨_,_,_,_,hrow,?_⟩)
   cases b with
   |true=>
    rw[hd] at h0;simp only[if_true] at h0;refine ak rfl (ah (by rw[vN,cO rQ];rfl) ?_);rw[tH,FM];exact hn true (acc++[a]) (by rw[←h0];simp)
   |false=>
    rw[hd] at h0;simp only[Nj,if_false] at h0;unfold lK at h0;rw[Mg] at h0;refine ah rfl ?_
    cases hle:Se v a with
    |false=>
     rw[hle] at h0;simp only[Nj,if_false] at h0;refine ah (by unfold Se at hle;rw[hle];rfl) (ah (by rw[vN,cO rQ];rfl) (ah (by rw[vN,FM,cO rQ];rfl) ?_));rw[tH,FM,FM];exact hn true (acc++[v]++[a]) (by rw[show lK l v=yz (Se v) v l from rfl,←h0];simp)
    |true=>
     rw[hle] at h0;simp only[if_true] at h0;refine ak (by unfold Se at hle;rw[hle];rfl) (ah (by rw[vN,cO rQ];rfl) ?_);rw[tH,FM];exact hn false (acc++[a]) (by rw[show lK l v=yz (Se v) v l from rfl,←h0];simp[lK])
 exact key false [] rfl
theorem AM (l:List Vol) (v:Vol) (hr:DH l) (hl:l.length≤1073741800):an C eE [qR l,.ag (cg v)] (qR (lK l v)) []:=by
 have key: ∀(k:Nat) (y:Vol),k≤l.length→(∀u∈l.drop k,Se v u=false)→aa C eE kN 4 0 (kP (k:Int) v.name v.cT v.size v.fx ((l.take k++y::l.drop k).map cg)) (fun x st=>ax C eE kN x st fun r fs=>r=qR (lK l v)∧fs=[]):=by
  intro k
  induction k with
  |zero=>
   intro y hk hg
   have Bx:rowAt ((l.take 0++y::l.drop 0).map cg) ((0:Nat):Int)=some [iS y.name,iI y.cT,iI y.size,iB y.fx]:=by rw[aR,aH];rfl
   refine Bg _ _ _ _ _ _ _ (ak cW (MY _ _ _ _ _ _ _ ⟨_,_,_,_,Bx,_,_,_,_,Bx,?_⟩));refine⟨?_,rfl⟩;have:=Wq (Se v) v l (hr.cut (k:=0) hk hg fun u h=>absurd h ay);rw[show lK l v=yz (Se v) v l from rfl,←this,show((0:Nat):Int)=0 from rfl];simp[setRow,cg]
  |succ k ih=>
   intro y hk hg
   have KM:k<l.length:=by omega
   obtain⟨a,ha⟩: ∃a,l[k]?=some a:=⟨_,ck KM⟩
   have hsub:cN ((k+1:Nat):Int) 1=(k:Int):=by rw[de ay];omega
   have htl:(l.take (k+1)).length=k+1:=by rw[eO];omega
   have hgk:(l.take (k+1)++y::l.drop (k+1))[k]?=some a:=by rw[nj ay,Bz,aI ay,ha]
   have aru:(l.take (k+1)++y::l.drop (k+1))[k+1]?=some y:=by rw[pK ay,htl,qP];rfl
   have hra:rowAt ((l.take (k+1)++y::l.drop (k+1)).map cg) (k:Int)=some [iS a.name,iI a.cT,iI a.size,iB a.fx]:=by rw[aR,aH,hgk];rfl
   have hry:rowAt ((l.take (k+1)++y::l.drop (k+1)).map cg) ((k+1:Nat):Int)=some [iS y.name,iI y.cT,iI y.size,iB y.fx]:=by rw[aR,aH,aru];rfl
   have DX: ∀u:Vol,setRow ((l.take (k+1)++y::l.drop (k+1)).map cg) ((k+1:Nat):Int) 0 [iS u.name,iI u.cT,iI u.size,iB u.fx]=(l.take (k+1)++u::l.drop (k+1)).map cg:=fun u=>by
    rw[Ma (a:=y) (a':=u) aru rfl]
    congr 1
    rw[List.set_append_right _ _ ay,htl,qP]
    rfl
   refine Bg _ _ _ _ _ _ _ (ah rQ ?_);rw[hsub];refine⟨_,_,_,_,hra,_,_,_,_,hra,?_⟩
   cases hle:Se v a with
   |false=>
    refine ah (by unfold Se at hle;rw[hle];rfl) ⟨_,_,_,_,hra,_,_,_,_,hra,_,_,_,_,hry,_,_,_,_,hry,?_⟩;rw[DX a]
    have e:l.take (k+1)++a::l.drop (k+1)=l.take k++a::l.drop k:=by
     rw[List.take_add_one,ha,Gi KM,show l[k]=a from by rw[ck KM] at ha;exact Option.some.inj ha];simp
    rw[e];refine ih a ay fun u hu=> ?_;rw[Gi KM,show l[k]=a from by rw[ck KM] at ha;exact Option.some.inj ha] at hu;rcases fX.1 hu with rfl|hu
    ·exact hle
    ·exact hg u hu
   |true=>
    refine ak (by unfold Se at hle;rw[hle];rfl) (MX _ _ _ _ _ _ _ _ ⟨_,_,_,_,hry,_,_,_,_,hry,?_⟩);rw[DX v];refine⟨?_,rfl⟩;have:=Wq (Se v) v l (hr.cut (k:=k+1) hk hg fun u _ hu=>by rw[Nat.add_sub_cancel,ha] at hu;cases hu;exact hle);rw[show lK l v=yz (Se v) v l from rfl,←this]
 have h0:(bR (l.map cg)&&fits (Nat.add 0 (l.map cg).length) 40)=true:=by rw[wj,cO rQ];rfl
 have h00:(bR [[iS v.name,iI v.cT,iI v.size,iB v.fx]]&&fits (Nat.succ (l.map cg).length) 40)=true:=by rw[vN,cO rQ];rfl
 have hstart:aa C eE kN 4 0 (kP (cN (Int.ofNat (List.length (List.append (l.map cg) [[iS v.name,iI v.cT,iI v.size,iB v.fx]]))) 1) v.name v.cT v.size v.fx (List.append (l.map cg) [[iS v.name,iI v.cT,iI v.size,iB v.fx]])) (fun x st=>ax C eE kN x st fun r fs=>(r,fs)=(qR (lK l v),([]:List TV))):=by
  have hk:=key l.length v (cV _) (by rw[eu];intro u hu;cases hu);rw[vZ,eu] at hk;rw[FM]
  have e:cN (Int.ofNat ((l++[(⟨v.name,v.cT,v.size,v.fx⟩:Vol)]).map cg).length) 1=(l.length:Int):=by
   rw[de rQ];simp
  rw[e]
  have eQ:(fun(r:TV) (fs:List TV)=>(r,fs)=(qR (lK l v),([]:List TV)))=fun r fs=>r=qR (lK l v)∧fs=[]:=by
   funext r fs;simp
  rw[eQ];exact hk
 have S:=ah (B:=False) h0 (ah (B:=False) h00 hstart);exact(Q2 _ _ _ _ _ _ ⟨(qR (lK l v),[]),⟨(qR (lK l v),[]),S,S,rfl⟩,S,⟨rfl,by trivial⟩⟩).run
theorem j7 (p x:Pool) (ok:Bool) (hS:aJ p≤4194304) (hX:aJ x≤4194304):an C gz [cY p,cY x,vB ok] (PW (En p x ok)) []:=by
 cases ok with
 |true=>exact Gy p x hS hX
 |false=>
  refine(LQ _ _ _ _ _ _ _ _ _ _ _ _ _ _ ?_).run;exact ah rfl ⟨_,_,_,_,_,_,cz p hS,⟨rfl,by trivial⟩⟩
theorem jy (p x:Pool) (ok:Bool) (hS:aJ p≤4194304) (hX:aJ x≤4194304):an C jm [cY p,cY x,vB ok] (PW (En p x ok)) []:=by
 cases ok with
 |true=>exact Es p x hS hX
 |false=>
  refine(KB _ _ _ _ _ _ _ _ _ _ _ _ _ _ ?_).run;exact ah rfl ⟨_,_,_,_,_,_,bJ p hS,⟨rfl,by trivial⟩⟩
theorem SR (p:Pool) (s:ByteArray) (n:Int) (hS:aJ p≤1048576) (hz:s.size≤1048576):an C JQ [cY p,vS s,vI n] (PW (yc p s n)) []:=by
 have hX:aJ (FP p s n)≤4194304:=by have:=Ws p s n;omega
 have rY:aJ p≤4194304:=by omega
 have hP:=cC rY;refine(Y6 _ _ _ _ _ _ _ _ _ ⟨_,xX p s rY ay,?_⟩).run;unfold yc
 cases h0:uz p s with
 |false=>exact ah cW ⟨_,_,_,_,_,_,cz p rY,⟨rfl,by trivial⟩⟩
 |true=>
  have hPO:cZ p=true:=by unfold uz at h0;simp only[eX] at h0;exact h0.1
  have hnx:1≤p.next∧p.next≤61:=by
   have:=hPO;unfold cZ at this;simp only[eX] at this;have h:=this.2.2.2.2.1;unfold iA at h;simpa using h
  refine ak cW ⟨_,jj p s ay,?_⟩;simp only[if_true]
  by_cases h1:0≤bZ p.au s
  ·rw[aI h1]
   exact ah (by simpa using h1) ⟨_,_,_,_,_,_,cz p rY,⟨rfl,by trivial⟩⟩
  ·rw[aF h1]
   refine ak rQ ⟨_,tj n 1 12,?_⟩
   cases h2:iA n 1 12 with
   |false=>exact ah rfl ⟨_,_,_,_,_,_,cz p rY,⟨rfl,by trivial⟩⟩
   |true=>
    refine ak rfl ⟨_,_,_,_,_,_,cz p rY,_,_,y9 p.aL p.next 0 ay,_,AM p.au ⟨s,p.next,n,false⟩ (PZ hPO) ay,?_⟩;rw[aG ay];exact⟨_,_,_,_,_,_,_,j7 p (FP p s n) _ rY hX,⟨rfl,by trivial⟩⟩
theorem SS (p:Pool) (s:ByteArray) (n:Int) (hS:aJ p≤1048576) (hz:s.size≤1048576):an C JR [cY p,vS s,vI n] (PW (yc p s n)) []:=by
 have hX:aJ (FP p s n)≤4194304:=by have:=Ws p s n;omega
 have rY:aJ p≤4194304:=by omega
 have hP:=cC rY;refine(aac _ _ _ _ _ _ _ _ _ ⟨_,e8 p rY,?_⟩).run;unfold yc uz
 cases hPO:cZ p with
 |false=>exact ah rfl ⟨_,_,_,_,_,_,bJ p rY,⟨rfl,by trivial⟩⟩
 |true=>
  have hnx:1≤p.next∧p.next≤61:=by
   have:=hPO;unfold cZ at this;simp only[eX] at this;have h:=this.2.2.2.2.1;unfold iA at h;simpa using h
  refine ak rfl ⟨_,(m5 s ay (jR s)).2 rfl,?_⟩
  cases hb:jR s with
  |false=>exact ah rfl ⟨_,_,_,_,_,_,bJ p rY,⟨rfl,by trivial⟩⟩
  |true=>
   refine ak rfl ⟨_,lP p s ay,?_⟩;simp only[Bool.and_self,if_true]
   by_cases h1:0≤bZ p.au s
   ·rw[aI h1]
    exact ah (by simpa using h1) ⟨_,_,_,_,_,_,bJ p rY,⟨rfl,by trivial⟩⟩
   ·rw[aF h1]
    refine ak rQ ⟨_,nG n 1 12,?_⟩
    cases h2:iA n 1 12 with
    |false=>exact ah rfl ⟨_,_,_,_,_,_,bJ p rY,⟨rfl,by trivial⟩⟩
    |true=>
     refine ak rfl ⟨_,_,_,_,_,_,bJ p rY,_,_,y8 p.aL p.next 0 ay,_,AL p.au ⟨s,p.next,n,false⟩ ay,?_⟩;rw[aG ay];exact⟨_,_,_,_,_,_,_,jy p (FP p s n) _ rY hX,⟨rfl,by trivial⟩⟩
theorem YX (p:Pool) (s to:ByteArray) (fx:Bool) (hS:aJ p≤1048576) (hz:s.size≤1048576) (hz2:to.size≤1048576):an C P7 [cY p,vS s,vS to,vB fx] (PW (LA p s to fx)) []:=by
 have hX: ∀v,aJ (N0 p to (bZ p.au s) v fx)≤4194304:=fun v=>by have:=aeo p to (bZ p.au s) v fx;omega
 have rY:aJ p≤4194304:=by omega
 have hP:=cC rY;refine(ae1 _ _ _ _ _ _ _ _ _ _ ⟨_,xX p s rY ay,?_⟩).run;unfold LA
 cases h0:uz p s with
 |false=>exact ah cW ⟨_,_,_,_,_,_,cz p rY,⟨by simp,by trivial⟩⟩
 |true=>
 have hPO:cZ p=true:=by unfold uz at h0;simp only[eX] at h0;exact h0.1
 have hnx:1≤p.next∧p.next≤61:=by
  have:=hPO;unfold cZ at this;simp only[eX] at this;have h:=this.2.2.2.2.1;unfold iA at h;simpa using h
 refine ak cW ⟨_,(uU to ay (jR to)).2 rfl,?_⟩
 cases hb:jR to with
 |false=>exact ah rfl ⟨_,_,_,_,_,_,cz p rY,⟨by simp,by trivial⟩⟩
 |true=>
 rw[aI ⟨rfl,by trivial⟩];refine ak rfl ⟨_,jj p s ay,?_⟩
 by_cases hn:bZ p.au s<0
 ·rw[gD ay]
  exact ah (by simpa using hn) ⟨_,_,_,_,_,_,cz p rY,⟨rfl,by trivial⟩⟩
 ·obtain⟨v,hv,_⟩:=wT _ p.au (show ¬eR (fun v:Vol=>decide (v.name=s)) p.au 0<0 from hn)
  have hv:ff p.au (bZ p.au s)=some v:=hv
  have hrow:rowAt (p.au.map cg) (bZ p.au s)=some [iS v.name,iI v.cT,iI v.size,iB v.fx]:=by rw[aR,hv];rfl
  have RP:=Az p.aL p.next v.cT;have an6:DH (p.au.modify (bZ p.au s).toNat fun u=>{u with cT:=p.next}):=DH.modify (f:=fun u:Vol=>{u with cT:=p.next}) (fun _=>rfl) _ (PZ hPO)
  have hml:(p.au.modify (bZ p.au s).toNat fun u=>{u with cT:=p.next}).length≤4194304:=by rw[RT];omega
  have ha1:aA p.next 1=p.next+1:=aG ay;have ha2:aA p.next 2=p.next+2:=aG ay;have hXv:=hX v;rw[hv];refine ak (by simpa using hn) ⟨_,jj p to ay,?_⟩;simp only[]
  by_cases h1:0≤bZ p.au to
  ·rw[aI h1]
   exact ah (by simpa using h1) ⟨_,_,_,_,_,_,cz p rY,⟨rfl,by trivial⟩⟩
  ·rw[aF h1]
   rw[ha1,ha2];refine ak rQ ⟨_,_,_,_,_,_,cz p rY,_,jj p s ay,_,_,_,_,hrow,_,_,y9 p.aL p.next v.cT ay,_,_,_,_,hrow,_,_,y9 (iG p.aL p.next v.cT).1 (p.next+1) v.cT ay,_,_,_,_,hrow,_,_,_,_,hrow,_,_,_,_,hrow,?_⟩;rw[Md];refine⟨_,AM _ ⟨to,p.next+1,v.size,fx⟩ an6 ay,?_⟩
   cases hq:(iG p.aL p.next v.cT).2 with
   |true=>exact ah rfl ⟨_,_,_,_,_,_,_,j7 p (N0 p to (bZ p.au s) v fx) _ rY hXv,⟨rfl,by trivial⟩⟩
   |false=>exact ak rfl ⟨_,_,_,_,_,_,_,j7 p (N0 p to (bZ p.au s) v fx) _ rY hXv,⟨rfl,by trivial⟩⟩
theorem YY (p:Pool) (s to:ByteArray) (fx:Bool) (hS:aJ p≤1048576) (hz:s.size≤1048576) (hz2:to.size≤1048576):an C Qa [cY p,vS s,vS to,vB fx] (PW (LA p s to fx)) []:=by
 have hX: ∀v,aJ (N0 p to (bZ p.au s) v fx)≤4194304:=fun v=>by have:=aeo p to (bZ p.au s) v fx;omega
 have rY:aJ p≤4194304:=by omega
 have hP:=cC rY;refine(aeX _ _ _ _ _ _ _ _ _ _ ⟨_,lP p s ay,_,e8 p rY,?_⟩).run;unfold LA uz
 cases hPO:cZ p with
 |false=>exact ah rfl ⟨_,_,_,_,_,_,bJ p rY,⟨by simp,by trivial⟩⟩
 |true=>
 have hnx:1≤p.next∧p.next≤61:=by
  have:=hPO;unfold cZ at this;simp only[eX] at this;have h:=this.2.2.2.2.1;unfold iA at h;simpa using h
 refine ak rfl ⟨_,(m5 s ay (jR s)).2 rfl,?_⟩
 cases ha:jR s with
 |false=>exact ah rfl ⟨_,_,_,_,_,_,bJ p rY,⟨by simp,by trivial⟩⟩
 |true=>
 refine ak rfl ⟨_,(m5 to ay (jR to)).2 rfl,?_⟩
 cases hb:jR to with
 |false=>exact ah rfl ⟨_,_,_,_,_,_,bJ p rY,⟨by simp,by trivial⟩⟩
 |true=>
 rw[aI ⟨rfl,by trivial⟩];refine ak rfl ?_
 by_cases hn:bZ p.au s<0
 ·rw[gD ay]
  exact ah (by simpa using hn) ⟨_,_,_,_,_,_,bJ p rY,⟨rfl,by trivial⟩⟩
 ·obtain⟨v,hv,_⟩:=wT _ p.au (show ¬eR (fun v:Vol=>decide (v.name=s)) p.au 0<0 from hn)
  have hv:ff p.au (bZ p.au s)=some v:=hv
  have hrow:rowAt (p.au.map cg) (bZ p.au s)=some [iS v.name,iI v.cT,iI v.size,iB v.fx]:=by rw[aR,hv];rfl
  have RP:=Az p.aL p.next v.cT;have an6:DH (p.au.modify (bZ p.au s).toNat fun u=>{u with cT:=p.next}):=DH.modify (f:=fun u:Vol=>{u with cT:=p.next}) (fun _=>rfl) _ (PZ hPO)
  have hml:(p.au.modify (bZ p.au s).toNat fun u=>{u with cT:=p.next}).length≤4194304:=by rw[RT];omega
  have ha1:aA p.next 1=p.next+1:=aG ay;have ha2:aA p.next 2=p.next+2:=aG ay;have hXv:=hX v;rw[hv];refine ak (by simpa using hn) ⟨_,lP p to ay,?_⟩;simp only[]
  by_cases h1:0≤bZ p.au to
  ·rw[aI h1]
   exact ah (by simpa using h1) ⟨_,_,_,_,_,_,bJ p rY,⟨rfl,by trivial⟩⟩
  ·rw[aF h1]
   rw[ha1];refine ak rQ ⟨_,_,_,_,_,_,bJ p rY,_,_,_,_,hrow,_,_,y8 p.aL p.next v.cT ay,_,_,y8 (iG p.aL p.next v.cT).1 (p.next+1) v.cT ay,_,_,_,_,hrow,_,_,_,_,hrow,?_⟩;rw[Md,ha2];refine⟨_,AL _ ⟨to,p.next+1,v.size,fx⟩ ay,?_⟩
   cases hq:(iG p.aL p.next v.cT).2 with
   |true=>exact ah rfl ⟨_,_,_,_,_,_,_,jy p (N0 p to (bZ p.au s) v fx) _ rY hXv,⟨rfl,by trivial⟩⟩
   |false=>exact ak rfl ⟨_,_,_,_,_,_,_,jy p (N0 p to (bZ p.au s) v fx) _ rY hXv,⟨rfl,by trivial⟩⟩
theorem mj (l:List Key) (hl:l.length≤1073741824):an C aW [dL l] (g9 (dM l)) []:=by
 refine(Ku _ _ ?_).run;unfold dM
 by_cases h:l.length=0
 ·exact ah (by simp[h]) ⟨by rw[aI h];rfl,rfl⟩
 ·refine ak (by rw[bX,lU,bD];exact e9 ay) ?_
  rw[show bR (l.map bP)=true from m8 _,cO eI];exact⟨by rw[aF h];rfl,rfl⟩
theorem sg (l:List Key) (hl:l.length≤1073741824):an C dV [dL l] (g9 (dM l)) []:=by
 refine(Ky _ _ ?_).run;unfold dM
 by_cases h:l.length=0
 ·exact ah (by simp[h]) ⟨by rw[aI h];rfl,rfl⟩
 ·refine ak (by rw[bX,lU,bD];exact e9 ay) ?_
  exact⟨_,oQ l ay,⟨by rw[aF h];rfl,rfl⟩⟩
theorem Ci (n:List (List Key)) (k:Key) (hb:n.length≤1073740000) (hl:tot bY n≤1073740000):an C ir [g9 n,uE k] (dL (dw n k)) []:=by
 have h1:=dn n;have h2:=sY (aU n) k;exact(Ut _ _ _ _ _ _ _ ⟨_,(ku n ay ay _).2 rfl,_,va (aU n) k ay,_,LF (iE (aU n) k) ay,⟨rfl,by trivial⟩⟩).run
theorem QB (n:List (List Key)) (k:Key) (hb:n.length≤1073740000) (hl:tot bY n≤1073740000):an C F1 [g9 n,uE k] (tNB (cX n k)) []:=by
 have hs: ∀s∈n,s.length≤1073741824:=fun s hm=>by have:=oA (w:=bY) hm;unfold bY at this hl;omega
 have I6:=w9 n ay hs;have hXl:=Mi n k;have hXt:=Mj n k
 have tail: ∀(X:List (List Key)) (Q:QV),X=mS n k→Q (tNB (cX n k)) []→ ∃(b18:Bool),an C cm ([TV.ag [TC.sub 1 (X.map cU)]]) (TV.c (iB b18)) []∧(aq b18 (Q (TV.tu [(1,[TC.sub 1 (X.map cU)]),(0,[iB true])]) ([])) (∃(l19:RR),an C ir ([TV.ag [TC.sub 1 (n.map cU)],uE k]) (TV.c (TC.sub 5 l19)) []∧(∃(l20:RR),an C dV ([TV.c (TC.sub 5 l19)]) (TV.ag [TC.sub 1 l20]) []∧(aq (bK 8 (Int.ofNat (List.length l19))) (∃(l21:RR),an C bA ([TV.ag [TC.sub 1 (n.map cU)]]) (TV.ag [TC.sub 1 l21]) []∧(Q (TV.tu [(1,[TC.sub 1 l21]),(0,[iB false])]) ([]))) (∃(b22:Bool),an C cm ([TV.ag [TC.sub 1 l20]]) (TV.c (iB b22)) []∧(aq (!b22) (∃(l23:RR),an C bA ([TV.ag [TC.sub 1 (n.map cU)]]) (TV.ag [TC.sub 1 l23]) []∧(Q (TV.tu [(1,[TC.sub 1 l23]),(0,[iB false])]) ([]))) (Q (TV.tu [(1,[TC.sub 1 l20]),(0,[iB true])]) ([])))))))):=by
  intro X Q hX hQ;rw[←hX] at hXl hXt;have hok:an C cm [g9 X] (vB (iF X)) []:=yV X ay ay;have hkl:=tP n k;have hnl:=B1 (dw n k);have hnt:=B2 (dw n k);have apP:an C cm [g9 (dM (dw n k))] (vB (iF (dM (dw n k)))) []:=yV _ ay ay;refine⟨_,hok,?_⟩;unfold cX at hQ;rw[←hX] at hQ
  cases h1:iF X with
  |true=>
   rw[aI h1] at hQ;exact ah rfl hQ
  |false=>
   rw[aF (by rw[h1];simp)] at hQ;refine ak rfl ⟨_,Ci n k ay ay,_,sg (dw n k) ay,?_⟩
   by_cases h2:8<(dw n k).length
   ·rw[aI h2] at hQ
    exact ah rQ ⟨_,I6,hQ⟩
   ·rw[aF h2] at hQ
    refine ak rQ ⟨_,apP,?_⟩
    cases h3:iF (dM (dw n k)) with
    |true=>
     rw[aI h3] at hQ;exact ak rfl hQ
    |false=>
     rw[aF (by rw[h3];simp)] at hQ;exact ah rfl ⟨_,I6,hQ⟩
 refine(XA _ _ _ _ _ _ _ ⟨_,I6,?_⟩).run;(try dsimp only);rw[bX]
 cases uZ:n[n.length-1]? with
 |none=>
  have h0:n.length=0:=Classical.byContradiction fun h=>by rw[ck ay] at uZ;cases uZ
  have hX:n++[[k]]=mS n k:=by unfold mS;rw[uZ]
  refine ak (by rw[h0,de cW];simp) ((ah (cO rQ) ?_));rw[show List.append (n.map cU) [[TC.sub 5 [[iI k.b,iI k.a,iI k.k,iI k.c,iI k.g]]]]=(n++[[k]]).map cU from by simp[cU,bP]];exact tail _ (fun r fs=>r=tNB (cX n k)∧fs=[]) hX ⟨rfl,by trivial⟩
 |some s=>
  have hlt:=(List.getElem?_eq_some_iff.1 uZ).1
  have hsub:cN (Int.ofNat n.length) 1=((n.length-1:Nat):Int):=by rw[de rQ];simp;omega
  have hrow:rowAt (n.map cU) ((n.length-1:Nat):Int)=some [TC.sub 5 (s.map bP)]:=by rw[aR,aH,uZ];rfl
  have hsl:=hs s (gP uZ);have DX:setRow (n.map cU) ((n.length-1:Nat):Int) 0 [TC.sub 5 ((iE s k).map bP)]=(n.set (n.length-1) (iE s k)).map cU:=Ma (a:=s) (a':=iE s k) uZ rfl
  have apQ:List.append (n.map cU) [[TC.sub 5 [[iI k.b,iI k.a,iI k.k,iI k.c,iI k.g]]]]=(n++[[k]]).map cU:=by simp[cU,bP]
  have hfit:fits (Nat.succ n.length) 24=true:=cO rQ;rw[hsub];refine ah cW ⟨_,hrow,?_⟩
  have key: ∀Q:QV,Q (tNB (cX n k)) []→ ∃(n8:Int) (n9:Int) (n10:Int) (n11:Int) (n12:Int) (b13:Bool),an C iQ ([TV.c (TC.sub 5 (s.map bP)),TV.c (iI k.b),TV.c (iI k.a)]) (TV.tu [(1,[iI n8,iI n9,iI n10,iI n11,iI n12]),(0,[iB b13])]) []∧(aq b13 (∃(l14:RR),rowAt (n.map cU) ((n.length-1:Nat):Int)=some [TC.sub 5 l14]∧(∃(l15:RR),an C eC ([TV.c (TC.sub 5 l14),uE k]) (TV.c (TC.sub 5 l15)) []∧(∃(l16:RR),rowAt (n.map cU) ((n.length-1:Nat):Int)=some [TC.sub 5 l16]∧(∃(l17:RR),rowAt (n.map cU) ((n.length-1:Nat):Int)=some [TC.sub 5 l17]∧(∃(b18:Bool),an C cm ([TV.ag [TC.sub 1 (setRow (n.map cU) ((n.length-1:Nat):Int) 0 [TC.sub 5 l15])]]) (TV.c (iB b18)) []∧(aq b18 (Q (TV.tu [(1,[TC.sub 1 (setRow (n.map cU) ((n.length-1:Nat):Int) 0 [TC.sub 5 l15])]),(0,[iB true])]) ([])) (∃(l19:RR),an C ir ([TV.ag [TC.sub 1 (n.map cU)],uE k]) (TV.c (TC.sub 5 l19)) []∧(∃(l20:RR),an C dV ([TV.c (TC.sub 5 l19)]) (TV.ag [TC.sub 1 l20]) []∧(aq (bK 8 (Int.ofNat (List.length l19))) (∃(l21:RR),an C bA ([TV.ag [TC.sub 1 (n.map cU)]]) (TV.ag [TC.sub 1 l21]) []∧(Q (TV.tu [(1,[TC.sub 1 l21]),(0,[iB false])]) ([]))) (∃(b22:Bool),an C cm ([TV.ag [TC.sub 1 l20]]) (TV.c (iB b22)) []∧(aq (!b22) (∃(l23:RR),an C bA ([TV.ag [TC.sub 1 (n.map cU)]]) (TV.ag [TC.sub 1 l23]) []∧(Q (TV.tu [(1,[TC.sub 1 l23]),(0,[iB false])]) ([]))) (Q (TV.tu [(1,[TC.sub 1 l20]),(0,[iB true])]) ([])))))))))))))
   (∃(l24:RR),rowAt (n.map cU) ((n.length-1:Nat):Int)=some [TC.sub 5 l24]∧(aq (bK (Int.ofNat (List.length l24)) 4) (∃(l25:RR),rowAt (n.map cU) ((n.length-1:Nat):Int)=some [TC.sub 5 l25]∧(∃(l26:RR),an C eC ([TV.c (TC.sub 5 l25),uE k]) (TV.c (TC.sub 5 l26)) []∧(∃(l27:RR),rowAt (n.map cU) ((n.length-1:Nat):Int)=some [TC.sub 5 l27]∧(∃(l28:RR),rowAt (n.map cU) ((n.length-1:Nat):Int)=some [TC.sub 5 l28]∧(∃(b18:Bool),an C cm ([TV.ag [TC.sub 1 (setRow (n.map cU) ((n.length-1:Nat):Int) 0 [TC.sub 5 l26])]]) (TV.c (iB b18)) []∧(aq b18 (Q (TV.tu [(1,[TC.sub 1 (setRow (n.map cU) ((n.length-1:Nat):Int) 0 [TC.sub 5 l26])]),(0,[iB true])]) ([])) (∃(l19:RR),an C ir ([TV.ag [TC.sub 1 (n.map cU)],uE k]) (TV.c (TC.sub 5 l19)) []∧(∃(l20:RR),an C dV ([TV.c (TC.sub 5 l19)]) (TV.ag [TC.sub 1 l20]) []∧(aq (bK 8 (Int.ofNat (List.length l19))) (∃(l21:RR),an C bA ([TV.ag [TC.sub 1 (n.map cU)]]) (TV.ag [TC.sub 1 l21]) []∧(Q (TV.tu [(1,[TC.sub 1 l21]),(0,[iB false])]) ([]))) (∃(b22:Bool),an C cm ([TV.ag [TC.sub 1 l20]]) (TV.c (iB b22)) []∧(aq (!b22) (∃(l23:RR),an C bA ([TV.ag [TC.sub 1 (n.map cU)]]) (TV.ag [TC.sub 1 l23]) []∧(Q (TV.tu [(1,[TC.sub 1 l23]),(0,[iB false])]) ([]))) (Q (TV.tu [(1,[TC.sub 1 l20]),(0,[iB true])]) ([]))))))))))))) (aq (fits (Nat.succ (List.length n)) 24) (∃(b18:Bool),an C cm ([TV.ag [TC.sub 1 (List.append (n.map cU) [[TC.sub 5 [[iI k.b,iI k.a,iI k.k,iI k.c,iI k.g]]]])]]) (TV.c (iB b18)) []∧(aq b18 (Q (TV.tu [(1,[TC.sub 1 (List.append (n.map cU) [[TC.sub 5 [[iI k.b,iI k.a,iI k.k,iI k.c,iI k.g]]]])]),(0,[iB true])]) ([])) (∃(l19:RR),an C ir ([TV.ag [TC.sub 1 (n.map cU)],uE k]) (TV.c (TC.sub 5 l19)) []∧(∃(l20:RR),an C dV ([TV.c (TC.sub 5 l19)]) (TV.ag [TC.sub 1 l20]) []∧(aq (bK 8 (Int.ofNat (List.length l19))) (∃(l21:RR),an C bA ([TV.ag [TC.sub 1 (n.map cU)]]) (TV.ag [TC.sub 1 l21]) []∧(Q (TV.tu [(1,[TC.sub 1 l21]),(0,[iB false])]) ([]))) (∃(b22:Bool),an C cm ([TV.ag [TC.sub 1 l20]]) (TV.c (iB b22)) []∧(aq (!b22) (∃(l23:RR),an C bA ([TV.ag [TC.sub 1 (n.map cU)]]) (TV.ag [TC.sub 1 l23]) []∧(Q (TV.tu [(1,[TC.sub 1 l23]),(0,[iB false])]) ([]))) (Q (TV.tu [(1,[TC.sub 1 l20]),(0,[iB true])]) ([]))))))))) (False))))):=by
   intro Q hQ;refine⟨_,_,_,_,_,_,J3 s k.b k.a hsl,?_⟩
   cases h1:(El s k.b k.a).2 with
   |true=>
    have hX:n.set (n.length-1) (iE s k)=mS n k:=by unfold mS Mh;rw[uZ];simp[h1]
    refine ah rfl ⟨_,hrow,_,va s k hsl,_,hrow,_,hrow,?_⟩;rw[DX];exact tail _ _ hX hQ
   |false=>
    refine ak rfl ⟨_,hrow,?_⟩
    by_cases h2:s.length<4
    ·have hX:n.set (n.length-1) (iE s k)=mS n k:=by unfold mS Mh;rw[uZ];simp[h1,h2]
     refine ah rQ ⟨_,hrow,_,va s k hsl,_,hrow,_,hrow,?_⟩;rw[DX];exact tail _ _ hX hQ
    ·have hX:n++[[k]]=mS n k:=by unfold mS Mh;rw[uZ];simp[h1,h2]
     refine ak rQ (ah hfit ?_);rw[apQ];exact tail _ _ hX hQ
  exact⟨(tNB (cX n k),[]),key (fun a b=>(a,b)=(tNB (cX n k),([]:List TV))) rfl,key (fun a b=>(a,b)=(tNB (cX n k),([]:List TV))) rfl,⟨rfl,rfl⟩⟩
theorem QC (n:List (List Key)) (k:Key) (hb:n.length≤1073740000) (hl:tot bY n≤1073740000):an C F0 [g9 n,uE k] (tNB (cX n k)) []:=by
 have hs: ∀s∈n,s.length≤1073741824:=fun s hm=>by have:=oA (w:=bY) hm;unfold bY at this hl;omega
 have I6:=y6 n ay hs;have hXl:=Mi n k;have hXt:=Mj n k
 have tail: ∀(X:List (List Key)) (Q:QV),X=mS n k→Q (tNB (cX n k)) []→ ∃(b22:Bool),an C cv ([TV.ag [TC.sub 1 (X.map cU)]]) (TV.c (iB b22)) []∧(aq b22 (Q (TV.tu [(1,[TC.sub 1 (X.map cU)]),(0,[iB true])]) ([])) (∃(l23:RR),an C bu ([TV.ag [TC.sub 1 (n.map cU)]]) (TV.c (TC.sub 5 l23)) []∧(∃(l24:RR),an C cw ([TV.c (TC.sub 5 l23),uE k]) (TV.c (TC.sub 5 l24)) []∧(∃(l25:RR),an C eY ([TV.c (TC.sub 5 l24)]) (TV.c (TC.sub 5 l25)) []∧(aq (bK 8 (Int.ofNat (List.length l25))) (∃(l26:RR),an C cc ([TV.ag [TC.sub 1 (n.map cU)]]) (TV.ag [TC.sub 1 l26]) []∧(Q (TV.tu [(1,[TC.sub 1 l26]),(0,[iB false])]) ([]))) (∃(l27:RR),an C aW ([TV.c (TC.sub 5 l25)]) (TV.ag [TC.sub 1 l27]) []∧(∃(b28:Bool),an C cv ([TV.ag [TC.sub 1 l27]]) (TV.c (iB b28)) []∧(aq (!b28) (∃(l29:RR),an C cc ([TV.ag [TC.sub 1 (n.map cU)]]) (TV.ag [TC.sub 1 l29]) []∧(Q (TV.tu [(1,[TC.sub 1 l29]),(0,[iB false])]) ([]))) (∃(l30:RR),an C aW ([TV.c (TC.sub 5 l25)]) (TV.ag [TC.sub 1 l30]) []∧(Q (TV.tu [(1,[TC.sub 1 l30]),(0,[iB true])]) ([]))))))))))):=by
  intro X Q hX hQ;rw[←hX] at hXl hXt;have hok:an C cv [g9 X] (vB (iF X)) []:=yT X ay ay;have hkl:=tP n k;have hnl:=B1 (dw n k);have hnt:=B2 (dw n k);have apP:an C cv [g9 (dM (dw n k))] (vB (iF (dM (dw n k)))) []:=yT _ ay ay;refine⟨_,hok,?_⟩;unfold cX at hQ;rw[←hX] at hQ
  cases h1:iF X with
  |true=>
   rw[aI h1] at hQ;exact ah rfl hQ
  |false=>
   rw[aF (by rw[h1];simp)] at hQ;have g1:=dn n;have g2:=sY (aU n) k;refine ak rfl ⟨_,(ga n ay ay _).2 rfl,_,qU (aU n) k ay,_,DS (iE (aU n) k) ay,?_⟩;change aq (bK 8 (Int.ofNat (List.length ((dw n k).map bP)))) _ _
   by_cases h2:8<(dw n k).length
   ·rw[aI h2] at hQ
    exact ah rQ ⟨_,I6,hQ⟩
   ·rw[aF h2] at hQ
    refine ak rQ ⟨_,mj (dw n k) ay,_,apP,?_⟩
    cases h3:iF (dM (dw n k)) with
    |true=>
     rw[aI h3] at hQ;exact ak rfl ⟨_,mj (dw n k) ay,hQ⟩
    |false=>
     rw[aF (by rw[h3];simp)] at hQ;exact ah rfl ⟨_,I6,hQ⟩
 refine(XP _ _ _ _ _ _ _ ⟨_,I6,?_⟩).run;(try dsimp only);rw[bX]
 cases uZ:n[n.length-1]? with
 |none=>
  have h0:n.length=0:=Classical.byContradiction fun h=>by rw[ck ay] at uZ;cases uZ
  have hX:n++[[k]]=mS n k:=by unfold mS;rw[uZ]
  refine ak (by rw[h0,de cW];simp) (ak (by rw[h0,de cW];simp) (ah (cO rQ) ?_));rw[show List.append (n.map cU) [[TC.sub 5 [[iI k.b,iI k.a,iI k.k,iI k.c,iI k.g]]]]=(n++[[k]]).map cU from by simp[cU,bP]];exact tail _ (fun r fs=>r=tNB (cX n k)∧fs=[]) hX ⟨rfl,by trivial⟩
 |some s=>
  have hlt:=(List.getElem?_eq_some_iff.1 uZ).1
  have hsub:cN (Int.ofNat n.length) 1=((n.length-1:Nat):Int):=by rw[de rQ];simp;omega
  have hrow:rowAt (n.map cU) ((n.length-1:Nat):Int)=some [TC.sub 5 (s.map bP)]:=by rw[aR,aH,uZ];rfl
  have hsl:=hs s (gP uZ);have DX:setRow (n.map cU) ((n.length-1:Nat):Int) 0 [TC.sub 5 ((iE s k).map bP)]=(n.set (n.length-1) (iE s k)).map cU:=Ma (a:=s) (a':=iE s k) uZ rfl
  have apQ:List.append (n.map cU) [[TC.sub 5 [[iI k.b,iI k.a,iI k.k,iI k.c,iI k.g]]]]=(n++[[k]]).map cU:=by simp[cU,bP]
  have hfit:fits (Nat.succ n.length) 24=true:=cO rQ;rw[hsub];refine ah cW ⟨_,hrow,_,hrow,_,_,_,_,_,_,J2 s k.b k.a hsl,ah cW ⟨_,hrow,_,hrow,?_⟩⟩
  by_cases h2:s.length<4
  ·have hX:n.set (n.length-1) (iE s k)=mS n k:=by unfold mS Mh;rw[uZ];simp[h2]
   refine ah rQ ⟨_,hrow,_,hrow,_,qU s k hsl,_,hrow,_,hrow,?_⟩;rw[DX];exact tail _ (fun r fs=>r=tNB (cX n k)∧fs=[]) hX ⟨rfl,by trivial⟩
  ·refine ak rQ ?_
   cases h1:(El s k.b k.a).2 with
   |true=>
    have hX:n.set (n.length-1) (iE s k)=mS n k:=by unfold mS Mh;rw[uZ];simp[h1]
    refine ah rfl ⟨_,hrow,_,hrow,_,qU s k hsl,_,hrow,_,hrow,?_⟩;rw[DX];exact tail _ (fun r fs=>r=tNB (cX n k)∧fs=[]) hX ⟨rfl,by trivial⟩
   |false=>
    have hX:n++[[k]]=mS n k:=by unfold mS Mh;rw[uZ];simp[h1,h2]
    refine ak rfl (ah hfit ?_);rw[apQ];exact tail _ (fun r fs=>r=tNB (cX n k)∧fs=[]) hX ⟨rfl,by trivial⟩
theorem AN (t:Tree) (i:Nat) (lw:List Int) (nd:List (List (List Key))) (h1:i+1≤t.aE.length) (h2:i+1≤t.nodes.length) (hl:t.aE.length≤1073741824) (hn:t.nodes.length≤1073741824) (hlw:lw.length≤1073741824) (hnd:nd.length≤1073741824):an C dP [dW t,vI (i:Int),oz lw,Aw nd] (dW (oC t i 1 lw nd)) []:=by
 have e1:aC (t.aE.map bO) 0 (i:Int)=(t.aE.take i).map bO:=by rw[cJ];rfl
 have e2:aC (t.aE.map bO) ((i:Int)+1) (Int.ofNat (t.aE.map bO).length)=(t.aE.drop (i+1)).map bO:=by
  rw[cJ,bX,show((i:Int)+1).toNat=i+1 from by omega,show(Int.ofNat t.aE.length).toNat=t.aE.length from rfl,vZ]
 have e3:aC (t.nodes.map aQ) 0 (i:Int)=(t.nodes.take i).map aQ:=by rw[cJ];rfl
 have ea:aA (i:Int) 1=(i:Int)+1:=aG ay
 have k1:(t.aE.take i).length≤t.aE.length:=by rw[eO];omega
 have k2:(t.aE.drop (i+1)).length≤t.aE.length:=by rw[iR];omega
 have k3:(t.nodes.take i).length≤t.nodes.length:=by rw[eO];omega
 have k4:(t.nodes.drop (i+1)).length≤t.nodes.length:=by rw[iR];omega
 have e4:aC (t.nodes.map aQ) ((i:Int)+1) (Int.ofNat (t.nodes.map aQ).length)=(t.nodes.drop (i+1)).map aQ:=by
  rw[cJ,bX,show((i:Int)+1).toNat=i+1 from by omega,show(Int.ofNat t.nodes.length).toNat=t.nodes.length from rfl,vZ]
 refine(acY _ _ _ _ _ _ ?_).run;rw[ea,e1,e2,e3,e4,nE,nE,nE,nE]
 refine ah rQ (ah rQ (ah (by rw[nS,cO rQ];rfl) (ah (by rw[nS,cO (by simp only[bX,wF];omega)];rfl) (ah (by rw[nS,cO (by simp only[bX,cF,wF];omega)];rfl)
  (ah rQ (ah rQ (ah (cO rQ) (ah (cO (by simp only[bX,wF];omega)) (ah (cO (by simp only[bX,cF,wF];omega)) ?_)))))))))
 exact⟨rfl,by trivial⟩
attribute [local semireducible] kJ aC in
theorem aim {rows:RR} {i c:Nat} (hk:i+c≤rows.length):aC (kJ 1 rows 0 (i:Int)) ((i:Int)+(c:Int)) (Int.ofNat rows.length)=rows.drop (i+c):=by
 unfold aC kJ;rw[lV,show((i:Int)+(c:Int)).toNat=i+c from by omega,show(0:Int).toNat=0 from rfl,show(Int.ofNat rows.length).toNat=rows.length from rfl,List.take_zero,xB,Nat.sub_zero];rw[Nl rQ,List.drop_append,List.length_replicate,Lm cW,xB,List.drop_drop]
 congr 1;omega
theorem xd (t:Tree) (i c:Nat) (lw:List Int) (nd:List (List (List Key))) (h1:i+c≤t.aE.length) (h2:i+c≤t.nodes.length) (hl:t.aE.length≤1073741824) (hn:t.nodes.length≤1073741824) (hlw:lw.length≤1073741824) (hnd:nd.length≤1073741824):an C lB [dW t,vI (i:Int),vI (c:Int),oz lw,Aw nd] (dW (oC t i c lw nd)) []:=by
 have e1:aC (t.aE.map bO) 0 (i:Int)=(t.aE.take i).map bO:=by rw[cJ];rfl
 have e2:aC (t.aE.map bO) ((i:Int)+(c:Int)) (Int.ofNat (t.aE.map bO).length)=(t.aE.drop (i+c)).map bO:=by
  rw[cJ,bX,show((i:Int)+(c:Int)).toNat=i+c from by omega,show(Int.ofNat t.aE.length).toNat=t.aE.length from rfl,vZ]
 have e3:aC (t.nodes.map aQ) 0 (i:Int)=(t.nodes.take i).map aQ:=by rw[cJ];rfl
 have ea:aA (i:Int) (c:Int)=(i:Int)+(c:Int):=aG ay
 have k1:(t.aE.take i).length≤t.aE.length:=by rw[eO];omega
 have k2:(t.aE.drop (i+c)).length≤t.aE.length:=by rw[iR];omega
 have k3:(t.nodes.take i).length≤t.nodes.length:=by rw[eO];omega
 have k4:(t.nodes.drop (i+c)).length≤t.nodes.length:=by rw[iR];omega
 have e4:aC (kJ 1 (t.nodes.map aQ) 0 (i:Int)) ((i:Int)+(c:Int)) (Int.ofNat (t.nodes.map aQ).length)=(t.nodes.drop (i+c)).map aQ:=by
  rw[aim (by rw[bX];exact h2),D3]
 refine(UY _ _ _ _ _ _ _ ?_).run;rw[ea,e1,e2,e3,e4];refine ah rQ ⟨_,Ch (t.aE.take i) ay,?_⟩;(try dsimp only);rw[nE,nE,nE,nE]
 refine ah rQ (ah (by rw[nS,cO (by simp only[bX,wF];omega)];rfl) (ah (by rw[nS,cO (by simp only[bX,cF,wF];omega)];rfl)
  (ah rQ (ah rQ (ah (cO rQ) (ah (cO (by simp only[bX,wF];omega)) (ah (cO (by simp only[bX,cF,wF];omega)) ?_)))))))
 exact⟨rfl,by trivial⟩
def abk:Option Nat→Int
 |some i=>i
 |none=> -1
theorem zc (t:Tree) (hn:t.nodes.length≤1073741824) (hz:tot aP t.nodes≤1073740000):an C jM [dW t] (vI (abk (uF t))) []:=by
 refine(aar _ _ _ ?_).run
 have key: ∀(d i:Nat),i+d=t.nodes.length→yA t d i=uF t→aa C jM aj 4 0 (vz (i:Int) (t.aE.map bO) (t.nodes.map aQ)) (fun x st=>ax C jM aj x st fun r fs=>r=vI (abk (uF t))∧fs=[]):=by
  intro d
  induction d with
  |zero=>
   intro i h he;have ea:aA (i:Int) 1=(i:Int)+1:=aG ay;refine IS _ _ _ _ ?_;rw[ea];exact ak rQ (IT _ _ _ _ _ ⟨by rw[←he];rfl,rfl⟩)
  |succ d ih=>
   intro i h he;have ea:aA (i:Int) 1=(i:Int)+1:=aG ay
   have ec:(i:Int)+1=((i+1:Nat):Int):=by omega
   unfold yA at he;refine IS _ _ _ _ ?_;rw[ea,ec]
   by_cases h1:i+1<t.nodes.length
   ·rw[aI h1] at he
    obtain⟨a,ha⟩: ∃a,t.nodes[i]?=some a:=⟨_,ck ay⟩;obtain⟨b,hb⟩: ∃b,t.nodes[i+1]?=some b:=⟨_,ck h1⟩;have za:a.length+tot bY a≤tot aP t.nodes:=oB (w:=aP) ha;have zb:b.length+tot bY b≤tot aP t.nodes:=oB (w:=aP) hb
    have ka:lM t i=aU a:=by unfold lM;rw[wE,ha];rfl
    have kb:lM t (i+1)=aU b:=by unfold lM;rw[wE,hb];rfl
    have la:=dn a;have lb:=dn b;rw[ka,kb] at he;refine ah rQ ⟨_,by rw[aR,aH,ha];rfl,_,by rw[aR,aH,hb];rfl,_,(ga a ay ay _).2 rfl,_,(ga b ay ay _).2 rfl,?_⟩;(try dsimp only);rw[bX,bX,show aA (Int.ofNat (aU a).length) (Int.ofNat (aU b).length)=((aU a).length:Int)+(aU b).length from aG rQ]
    by_cases h2:(aU a).length+(aU b).length≤6
    ·rw[aI h2] at he
     exact ah rQ (U5 _ _ _ _ _ _ ⟨by rw[←he];rfl,rfl⟩)
    ·rw[aF h2] at he
     exact ak rQ (ih (i+1) ay he)
   ·rw[aF h1] at he
    exact ak rQ (IT _ _ _ _ _ ⟨by rw[←he];rfl,rfl⟩)
 exact key t.nodes.length 0 ay rfl
theorem SU (t0:Tree) (hw0:t0.aE.length=t0.nodes.length) (Vx:tot aP t0.nodes+t0.nodes.length≤1073700000):an C bC [dW t0] (dW (oD t0.nodes.length t0)) []:=by
 refine(ZD _ _ _ ⟨_,zc t0 ay ay,?_⟩).run
 have key: ∀(m:Nat) (t:Tree),t.nodes.length=m→t.aE.length=t.nodes.length→tot aP t.nodes+t.nodes.length≤1073700000→oD m t=oD t0.nodes.length t0→aa C bC aj 4 0 (rm (abk (uF t)) (t.aE.map bO) (t.nodes.map aQ)) (fun x st=>ax C bC aj x st fun r fs=>r=dW (oD t0.nodes.length t0)∧fs=[]):=by
  intro m
  induction m with
  |zero=>
   intro t hm hw hz he
   have hp:uF t=none:=by unfold uF;rw[hm];rfl
   rw[hp];exact zh _ _ _ _ (ak (by simp[abk]) (Ih _ _ _ _ _ ⟨by rw[←he];rfl,rfl⟩))
  |succ m ih=>
   intro t hm hw hz he;rw[xV] at he
   cases hp:uF t with
   |none=>
    rw[hp] at he;have he:t=oD t0.nodes.length t0:=he;exact zh _ _ _ _ (ak (by simp[abk]) (Ih _ _ _ _ _ ⟨by rw[←he],rfl⟩))
   |some i=>
   rw[hp] at he;have he:oD m (dR t i)=oD t0.nodes.length t0:=he;have hlt:=xU hp;show aa C bC aj 4 0 (rm (i:Int) (t.aE.map bO) (t.nodes.map aQ)) _;obtain⟨a,ha⟩: ∃a,t.nodes[i]?=some a:=⟨_,ck ay⟩;obtain⟨b,hb⟩: ∃b,t.nodes[i+1]?=some b:=⟨_,ck hlt.1⟩;have za:a.length+tot bY a≤tot aP t.nodes:=oB (w:=aP) ha;have zb:b.length+tot bY b≤tot aP t.nodes:=oB (w:=aP) hb;have la:=dn a;have lb:=dn b;have h6:=hlt.2;rw[ke ha,ke hb] at h6
   have ea:aA (i:Int) 1=((i+1:Nat):Int):=by rw[aG ay];omega
   have eb:aA (i:Int) 2=((i+2:Nat):Int):=by rw[aG ay];omega
   have ra:rowAt (t.nodes.map aQ) (i:Int)=some [TC.sub 1 (a.map cU)]:=by rw[aR,aH,ha];rfl
   have rb:rowAt (t.nodes.map aQ) ((i+1:Nat):Int)=some [TC.sub 1 (b.map cU)]:=by rw[aR,aH,hb];rfl
   have c1:aC (t.aE.map bO) 0 ((i+1:Nat):Int)=(t.aE.take (i+1)).map bO:=by rw[cJ];rfl
   have c2:aC (t.aE.map bO) ((i+2:Nat):Int) (Int.ofNat (t.aE.map bO).length)=(t.aE.drop (i+2)).map bO:=by
    rw[cJ,bX,lV,show(Int.ofNat t.aE.length).toNat=t.aE.length from rfl,vZ]
   have c3:aC (t.nodes.map aQ) 0 (i:Int)=(t.nodes.take i).map aQ:=by rw[cJ];rfl
   have c4:aC (t.nodes.map aQ) ((i+2:Nat):Int) (Int.ofNat (t.nodes.map aQ).length)=(t.nodes.drop (i+2)).map aQ:=by
    rw[cJ,bX,lV,show(Int.ofNat t.nodes.length).toNat=t.nodes.length from rfl,vZ]
   have hlo:i<t.aE.length:=by omega
   have eL:List.append ((t.aE.take (i+1)).map bO) ((t.aE.drop (i+2)).map bO)=(dR t i).aE.map bO:=by
    rw[nE];unfold dR oC;simp only[];rw[List.take_add_one,wE,ck hlo];simp
   have eN:List.append (List.append ((t.nodes.take i).map aQ) [[TC.sub 1 ((dM (aU a++aU b)).map cU)]]) ((t.nodes.drop (i+2)).map aQ)=(dR t i).nodes.map aQ:=by
    rw[NW,nE];unfold dR oC;simp only[];rw[ke ha,ke hb]
   have hsz:=B6 hlt.1;have hjl:=zP hlt.1
   have hjw:(dR t i).aE.length+1=t.aE.length:=by
    have:=FQ t i 2 [t.aE.getD i 0] [dM (lM t i++lM t (i+1))] ay;unfold dR;simp only[gK] at this;omega
   have k1:(t.aE.take (i+1)).length≤t.aE.length:=by rw[eO];omega
   have k2:(t.aE.drop (i+2)).length≤t.aE.length:=by rw[iR];omega
   have k3:(t.nodes.take i).length≤t.nodes.length:=by rw[eO];omega
   have k4:(t.nodes.drop (i+2)).length≤t.nodes.length:=by rw[iR];omega
   refine zh _ _ _ _ (ah cW ?_);rw[ea,eb];refine⟨_,ra,_,ra,_,rb,_,rb,_,(ga a ay ay _).2 rfl,_,(ga b ay ay _).2 rfl,?_⟩;(try dsimp only);rw[nE,c1,c2,c3,c4]
   refine ah (by rw[m8,cO (by simp only[bX,wF];omega)];rfl) (ah rQ (ah rQ (ah (by rw[nS,cO (by simp only[bX,wF];omega)];rfl) (ah (by rw[nS,cO (by simp only[bX,wF];omega)];rfl)
    (ah rQ (ah rQ (ah (cO (by simp only[bX,wF];omega)) ⟨_,mj (aU a++aU b) (by rw[cF];omega),ah (cO (by simp only[bX,Nat.succ_eq_add_one];omega)) ?_⟩)))))))
   rw[eL,eN];refine ah (cO (by rw[NW];simp only[bX,cF,gK,wF];omega)) ⟨_,zc (dR t i) ay ay,?_⟩;exact ih (dR t i) ay ay ay he
 cases hp:uF t0 with
 |none=>
  have hj:oD t0.nodes.length t0=t0:=by
   cases hm:t0.nodes.length with
   |zero=>rfl
   |succ m=>rw[xV,hp]
  exact Ig _ _ _ _ (ak (by simp[abk]) (TW _ _ _ _ _ ⟨by rw[hj],rfl⟩))
 |some i=>
  have hlt:=xU hp;obtain⟨t,ht⟩: ∃t,t=t0:=⟨_,rfl⟩;rw[←ht] at hlt hw0 Vx hp ⊢;show aa C bC aj 4 0 (zf (i:Int) (t.aE.map bO) (t.nodes.map aQ)) _;obtain⟨a,ha⟩: ∃a,t.nodes[i]?=some a:=⟨_,ck ay⟩;obtain⟨b,hb⟩: ∃b,t.nodes[i+1]?=some b:=⟨_,ck hlt.1⟩;have za:a.length+tot bY a≤tot aP t.nodes:=oB (w:=aP) ha;have zb:b.length+tot bY b≤tot aP t.nodes:=oB (w:=aP) hb;have la:=dn a;have lb:=dn b;have h6:=hlt.2;rw[ke ha,ke hb] at h6
  have ea:aA (i:Int) 1=((i+1:Nat):Int):=by rw[aG ay];omega
  have eb:aA (i:Int) 2=((i+2:Nat):Int):=by rw[aG ay];omega
  have ra:rowAt (t.nodes.map aQ) (i:Int)=some [TC.sub 1 (a.map cU)]:=by rw[aR,aH,ha];rfl
  have rb:rowAt (t.nodes.map aQ) ((i+1:Nat):Int)=some [TC.sub 1 (b.map cU)]:=by rw[aR,aH,hb];rfl
  have c1:aC (t.aE.map bO) 0 ((i+1:Nat):Int)=(t.aE.take (i+1)).map bO:=by rw[cJ];rfl
  have c2:aC (t.aE.map bO) ((i+2:Nat):Int) (Int.ofNat (t.aE.map bO).length)=(t.aE.drop (i+2)).map bO:=by
   rw[cJ,bX,lV,show(Int.ofNat t.aE.length).toNat=t.aE.length from rfl,vZ]
  have c3:aC (t.nodes.map aQ) 0 (i:Int)=(t.nodes.take i).map aQ:=by rw[cJ];rfl
  have c4:aC (t.nodes.map aQ) ((i+2:Nat):Int) (Int.ofNat (t.nodes.map aQ).length)=(t.nodes.drop (i+2)).map aQ:=by
   rw[cJ,bX,lV,show(Int.ofNat t.nodes.length).toNat=t.nodes.length from rfl,vZ]
  have hlo:i<t.aE.length:=by omega
  have eL:List.append ((t.aE.take (i+1)).map bO) ((t.aE.drop (i+2)).map bO)=(dR t i).aE.map bO:=by
   rw[nE];unfold dR oC;simp only[];rw[List.take_add_one,wE,ck hlo];simp
  have eN:List.append (List.append ((t.nodes.take i).map aQ) [[TC.sub 1 ((dM (aU a++aU b)).map cU)]]) ((t.nodes.drop (i+2)).map aQ)=(dR t i).nodes.map aQ:=by
   rw[NW,nE];unfold dR oC;simp only[];rw[ke ha,ke hb]
  have hsz:=B6 hlt.1;have hjl:=zP hlt.1
  have hjw:(dR t i).aE.length+1=t.aE.length:=by
   have:=FQ t i 2 [t.aE.getD i 0] [dM (lM t i++lM t (i+1))] ay;unfold dR;simp only[gK] at this;omega
  have k1:(t.aE.take (i+1)).length≤t.aE.length:=by rw[eO];omega
  have k2:(t.aE.drop (i+2)).length≤t.aE.length:=by rw[iR];omega
  have k3:(t.nodes.take i).length≤t.nodes.length:=by rw[eO];omega
  have k4:(t.nodes.drop (i+2)).length≤t.nodes.length:=by rw[iR];omega
  refine Ig _ _ _ _ (ah cW ?_);rw[ea,eb];refine⟨_,ra,_,rb,_,(ga a ay ay _).2 rfl,_,(ga b ay ay _).2 rfl,?_⟩;(try dsimp only);rw[nE,c1,c2,c3,c4]
  refine ah (by rw[m8,cO (by simp only[bX,wF];omega)];rfl) (ah rQ (ah rQ (ah (by rw[nS,cO (by simp only[bX,wF];omega)];rfl) (ah (by rw[nS,cO (by simp only[bX,wF];omega)];rfl)
   (ah rQ (ah rQ (ah (cO (by simp only[bX,wF];omega)) ⟨_,mj (aU a++aU b) (by rw[cF];omega),ah (cO (by simp only[bX,Nat.succ_eq_add_one];omega)) ?_⟩)))))))
  rw[eL,eN];refine ah (cO (by rw[NW];simp only[bX,cF,gK,wF];omega)) ⟨_,zc (dR t i) ay ay,?_⟩;refine ht▸key (dR t i).nodes.length (dR t i) rfl ay ay ?_;rw[←ht]
  have:t.nodes.length=(dR t i).nodes.length+1:=by omega
  rw[this];rw[xV,hp]
theorem Sm (t u:Tree) (hw:t.aE.length=t.nodes.length) (hz:tot aP t.nodes+t.nodes.length≤1073700000) (E:uF t=none→t=u)
 (N: ∀i,uF t=some i→aa C eU aj 4 0 (mH ((0:Nat):Int) ((dR t i).aE.map bO) ((dR t i).nodes.map aQ)) (fun x st=>ax C eU aj x st fun r fs=>r=dW u∧fs=[])):
 ∀d i,i+d=t.nodes.length→yA t d i=uF t→aa C eU aj 4 0 (mH (i:Int) (t.aE.map bO) (t.nodes.map aQ)) (fun x st=>ax C eU aj x st fun r fs=>r=dW u∧fs=[]):=by
 intro d
 induction d with
 |zero=>
  intro i h he;have ea:aA (i:Int) 1=(i:Int)+1:=aG ay;refine Iv _ _ _ _ ?_;rw[ea];exact ak rQ (Iw _ _ _ _ _ ⟨by rw[E (by rw[←he];rfl)],rfl⟩)
 |succ d ih=>
  intro i h he;have ea:aA (i:Int) 1=(i:Int)+1:=aG ay
  have ec:(i:Int)+1=((i+1:Nat):Int):=by omega
  unfold yA at he;refine Iv _ _ _ _ ?_;rw[ea,ec]
  by_cases h1:i+1<t.nodes.length
  ·rw[aI h1] at he
   obtain⟨a,ha⟩: ∃a,t.nodes[i]?=some a:=⟨_,ck ay⟩;obtain⟨b,hb⟩: ∃b,t.nodes[i+1]?=some b:=⟨_,ck h1⟩;have za:a.length+tot bY a≤tot aP t.nodes:=oB (w:=aP) ha;have zb:b.length+tot bY b≤tot aP t.nodes:=oB (w:=aP) hb;have la:=dn a;have lb:=dn b;rw[ke ha,ke hb] at he
   have ra:rowAt (t.nodes.map aQ) (i:Int)=some [TC.sub 1 (a.map cU)]:=by rw[aR,aH,ha];rfl
   have rb:rowAt (t.nodes.map aQ) ((i+1:Nat):Int)=some [TC.sub 1 (b.map cU)]:=by rw[aR,aH,hb];rfl
   refine ah rQ ⟨_,ra,_,ra,_,rb,_,rb,_,(ku a ay ay _).2 rfl,_,(ku b ay ay _).2 rfl,ah (by rw[m8,cO (by simp only[bX,wF];omega)];rfl) ?_⟩;rw[nE]
   by_cases h2:(aU a).length+(aU b).length≤6
   ·rw[aI h2] at he
    have hlo:i<t.aE.length:=by omega
    have hlw:rowAt (t.aE.map bO) (i:Int)=some [iI (t.aE.getD i 0)]:=by
     rw[aR,aH,wE,ck hlo];rfl
    have hnn:=sg (aU a++aU b) (by rw[cF];omega);have hrp:=xd t i 2 [t.aE.getD i 0] [dM (aU a++aU b)] ay ay ay ay cW cW
    have ej:oC t i 2 [t.aE.getD i 0] [dM (aU a++aU b)]=dR t i:=by unfold dR;rw[ke ha,ke hb]
    rw[ej] at hrp;have hN:=N i he.symm;rw[←show aA (-1) 1=((0:Nat):Int) from by rw[aG ay];rfl] at hN;exact ah (by simp[gj]<;>omega) ⟨_,hlw,_,hlw,_,hnn,_,_,hrp,⟨_,hnn,_,_,hrp,⟨_,_,hrp,rfl⟩,rfl⟩,hN⟩
   ·rw[aF h2] at he
    exact ak (by simp[gj]<;>omega) (ih (i+1) ay he)
  ·rw[aF h1] at he
   exact ak rQ (Iw _ _ _ _ _ ⟨by rw[E he.symm],rfl⟩)
theorem SV (t0:Tree) (hw0:t0.aE.length=t0.nodes.length) (Vx:tot aP t0.nodes+t0.nodes.length≤1073700000):an C eU [dW t0] (dW (oD t0.nodes.length t0)) []:=by
 refine(ZX _ _ _ ?_).run
 have key: ∀(m:Nat) (t:Tree),t.nodes.length=m→t.aE.length=t.nodes.length→tot aP t.nodes+t.nodes.length≤1073700000→aa C eU aj 4 0 (mH ((0:Nat):Int) (t.aE.map bO) (t.nodes.map aQ)) (fun x st=>ax C eU aj x st fun r fs=>r=dW (oD m t)∧fs=[]):=by
  intro m
  induction m with
  |zero=>
   intro t hm hw hz;exact Sm t (oD 0 t) hw hz (fun _=>rfl) (fun i hi=>by have:=(xU hi).1;omega) t.nodes.length 0 ay rfl
  |succ m ih=>
   intro t hm hw hz;refine Sm t (oD (m+1) t) hw hz (fun h=>(agc h).symm) (fun i hi=> ?_) t.nodes.length 0 ay rfl;have h1:=zP (xU hi).1;have h2:=B6 (xU hi).1;have:=ih (dR t i) ay (LB (xU hi).1 hw) ay;rw[xV,hi];exact this
 exact key t0.nodes.length t0 rfl hw0 Vx
theorem ags {t:Tree} {i:Nat} {n:List (List Key)} (h1:i<t.aE.length) (h2:i<t.nodes.length):oC t i 1 [t.aE.getD i 0] [n]=⟨t.aE,t.nodes.set i n⟩:=by
 unfold oC;rw[List.set_eq_take_append_cons_drop,aI h2,wE,ck h1]
 have e:t.aE.take i++[t.aE[i]]++t.aE.drop (i+1)=t.aE:=by
  rw[Af,List.singleton_append,←Gi h1,Nk]
 simp only[Option.getD_some,e,Af,List.singleton_append]
theorem aqG {n:Nat} (h:n≤1073741824):jb .i64 (aA (Int.ofNat n) 1) 2=(((n+1)/2:Nat):Int):=by
 rw[aG eI];unfold jb;rw[Int.tdiv_eq_ediv_of_nonneg eI,show IntKind.wrap .i64 ((Int.ofNat n+1)/2)=(Int.ofNat n+1)/2 from IntWalk.i64_in _ eI];simp
theorem tT (t:Tree) (k:Key) (hz:cG t≤4194304):an C tQ [dW t,uE k] (Fl (bw t k)) []:=by
 have hN:=wB hz;have I6:an C bU [dW t] (dW t) []:=xb t hN.1 hN.2;refine(XL _ _ _ _ _ _ _ _ ⟨_,yY t ay,?_⟩).run
 cases h1:gG t with
 |false=>exact ah rfl ⟨_,_,I6,⟨by unfold bw;rw[aF (by rw[h1];simp)],rfl⟩⟩
 |true=>
 refine ak rfl ⟨_,(N7 _ _ _ _ _ _).2 rfl,?_⟩;change aq (!jU k) _ _
 cases h2:jU k with
 |false=>exact ah rfl ⟨_,_,I6,⟨by unfold bw;rw[aF (by rw[h2];simp)],rfl⟩⟩
 |true=>
 obtain⟨i,hi,hil⟩:=WB h1 h2;have hlen:=vO h1
 have hw:an C iJ [dW t,vI k.b,vI k.a] (vI (i:Int)) []:=by rw[←hi];exact Er t k.b k.a ay
 have hrow:rowAt (t.nodes.map aQ) (i:Int)=some [TC.sub 1 (t.nodes[i].map cU)]:=by rw[aR,aH,ck hil];rfl
 have ac9:rowAt (t.aE.map bO) (i:Int)=some [iI (t.aE.getD i 0)]:=by
  rw[aR,aH,wE,ck ay];rfl
 have hg:t.nodes.getD i []=t.nodes[i]:=by rw[wE,ck hil];rfl
 have hok:=B3 h1 (D2 hil);have hsz:=K3 hok;have hps:=JC t.nodes[i] k;have hpt:=JD t.nodes[i] k;have hkl:=tP t.nodes[i] k;have hnk:=dn t.nodes[i];obtain⟨hp1,hp2,hp3⟩:=aeB (k:=k) h1 hil
 have hR:bw t k=if gG (oD (nP t i k).nodes.length (nP t i k))=true then(oD (nP t i k).nodes.length (nP t i k),true) else(t,false):=by
  unfold bw;rw[aI ⟨h1,h2⟩,hi,lV]
 have fin: ∀Q:QV,Q (Fl (bw t k)) []→ ∃(l39 l40:RR),an C eU [dW (nP t i k)] (.ag [.sub 1 l39,.sub 1 l40]) []∧(∃b:Bool,an C cP [.ag [.sub 1 l39,.sub 1 l40]] (vB b) []∧(aq (!b) (∃(l42 l43:RR),an C bU [dW t] (.ag [.sub 1 l42,.sub 1 l43]) []∧Q (.tu [(1,[.sub 1 l42,.sub 1 l43]),(0,[iB false])]) []) (Q (.tu [(1,[.sub 1 l39,.sub 1 l40]),(0,[iB true])]) []))):=by
  intro Q hQ;refine⟨_,_,SV (nP t i k) hp2 ay,_,yY _ ay,?_⟩;rw[hR] at hQ
  cases h3:gG (oD (nP t i k).nodes.length (nP t i k)) with
  |true=>rw[aI h3] at hQ;exact ak rfl hQ
  |false=>rw[aF (by rw[h3];simp)] at hQ;exact ah rfl ⟨_,_,I6,hQ⟩
 have np:=QB t.nodes[i] k ay ay;refine ak rfl ⟨_,hw,_,_,I6,_,hrow,_,hrow,?_⟩
 cases hp:(cX t.nodes[i] k).2 with
 |false=>
  have hno:=(Wx hok h2 hp).1
  have cno:(!(cX t.nodes[i] k).2)=true:=by rw[hp];rfl
  obtain⟨ks,hks⟩: ∃ks,ks=dw t.nodes[i] k:=⟨_,rfl⟩;rw[←hks] at hno hkl;have hh:=aho hno;obtain⟨h,hhe⟩: ∃h,h=(ks.length+1)/2:=⟨_,rfl⟩
  have hq:jb .i64 (aA (Int.ofNat (List.length (ks.map bP))) 1) 2=(h:Int):=by rw[bX,aqG ay,hhe]
  have hkk:rowAt (ks.map bP) (h:Int)=some [iI (ks.getD h fT).b,iI (ks.getD h fT).a,iI (ks.getD h fT).k,iI (ks.getD h fT).c,iI (ks.getD h fT).g]:=by
   rw[aR,aH,wE,ck ay];rfl
  have ep:nP t i k=oC t i 1 [t.aE.getD i 0,jV (ks.getD h fT).b (ks.getD h fT).a] [dM (ks.take h),dM (ks.drop h)]:=by
   unfold nP;rw[hg,aF (by rw[hp];simp),←hks,←hhe]
  have rp:=xd t i 1 [t.aE.getD i 0,jV (ks.getD h fT).b (ks.getD h fT).a] [dM (ks.take h),dM (ks.drop h)] ay ay ay ay cW cW;rw[←ep] at rp
  have e1:aC (ks.map bP) 0 (h:Int)=(ks.take h).map bP:=by rw[cJ];rfl
  have e2:aC (ks.map bP) (h:Int) (Int.ofNat (List.length (ks.map bP)))=(ks.drop h).map bP:=by
   rw[cJ,bX,lV,show(Int.ofNat ks.length).toNat=ks.length from rfl,vZ]
  have nn1:an C dV [.c (.sub 5 (aC (ks.map bP) 0 (h:Int)))] (g9 (dM (ks.take h))) []:=by rw[e1];exact sg _ (by rw[eO];omega)
  have nn2:an C dV [.c (.sub 5 (aC (ks.map bP) (h:Int) (Int.ofNat (List.length (ks.map bP)))))] (g9 (dM (ks.drop h))) []:=by rw[e2];exact sg _ (by rw[iR];omega)
  have c1:gf 0 (h:Int) (Int.ofNat (List.length (ks.map bP)))=true:=by rw[Jw];simp;omega
  have c2:gf (h:Int) (Int.ofNat (List.length (ks.map bP))) (Int.ofNat (List.length (ks.map bP)))=true:=by rw[Jw];simp;omega
  have kw:an C ir [g9 t.nodes[i],uE k] (dL ks) []:=by
   rw[hks];exact Ci t.nodes[i] k ay ay
  clear hks hhe hR
  repeat' first
   |refine⟨_,hrow,?_⟩
   |refine⟨_,ac9,?_⟩
   |refine⟨_,_,np,?_⟩
   |refine ah cno ?_
   |refine⟨_,kw,?_⟩
   |refine ak (by rw[bD];rfl) ?_
   |rw[hq]
   |refine⟨_,_,_,_,_,hkk,?_⟩
   |refine ah c1 ?_
   |refine ah c2 ?_
   |refine⟨_,(DT _ _ _).2 rfl,?_⟩
   |refine⟨_,nn1,?_⟩
   |refine⟨_,nn2,?_⟩
   |refine⟨_,_,rp,?_⟩
   |refine⟨(Fl (bw t k),([]:List TV)),?_,?_,rfl⟩
   |refine⟨(Fl (bw t k),([]:List TV)),?_,?_,⟨rfl,by trivial⟩⟩
   |exact fin (fun a b=>(a,b)=(Fl (bw t k),([]:List TV))) rfl
   |exact fin (fun r fs=>r=Fl (bw t k)∧fs=[]) ⟨rfl,by trivial⟩
 |true=>
  have cno:(!(cX t.nodes[i] k).2)=false:=by rw[hp];rfl
  by_cases hc:0<i∧(aU (cX t.nodes[i] k).1).length=0
  ·have ci:bK 0 (i:Int)=true:=by rw[dh];simp;omega
   have nk:=(ku (cX t.nodes[i] k).1 ay ay _).2 rfl
   have cl:cn (Int.ofNat (List.length ((aU (cX t.nodes[i] k).1).map bP))) 0=true:=by rw[bD,bX,hc.2];rfl
   have ep:nP t i k=oC t i 1 [] []:=by unfold nP;rw[hg,aI hp,aI hc]
   have rp:=xd t i 1 [] [] ay ay ay ay cW cW;rw[←ep] at rp;clear hR
   repeat' first
   |refine⟨_,hrow,?_⟩
   |refine⟨_,ac9,?_⟩
   |refine⟨_,_,np,?_⟩
   |refine ak cno ?_
   |refine ah ci ?_
   |refine⟨_,nk,?_⟩
   |refine ah cl ?_
   |refine⟨_,_,rp,?_⟩
   |refine⟨(Fl (bw t k),([]:List TV)),?_,?_,rfl⟩
   |refine⟨(Fl (bw t k),([]:List TV)),?_,?_,⟨rfl,by trivial⟩⟩
   |exact fin (fun a b=>(a,b)=(Fl (bw t k),([]:List TV))) rfl
   |exact fin (fun r fs=>r=Fl (bw t k)∧fs=[]) ⟨rfl,by trivial⟩
  ·have eset:nP t i k=⟨t.aE,t.nodes.set i (cX t.nodes[i] k).1⟩:=by
    unfold nP;rw[hg,aI hp,aF hc,ags ay hil]
   have es:setRow (t.nodes.map aQ) (i:Int) 0 [TC.sub 1 ((cX t.nodes[i] k).1.map cU)]=(t.nodes.set i (cX t.nodes[i] k).1).map aQ:=aeb (a:=t.nodes[i]) (by rw[aH,ck hil]) rfl;clear hR
   by_cases hi0:0<i
   ·have ci:bK 0 (i:Int)=true:=by rw[dh];simp;omega
    have nk:=(ku (cX t.nodes[i] k).1 ay ay _).2 rfl
    have cl:cn (Int.ofNat (List.length ((aU (cX t.nodes[i] k).1).map bP))) 0=false:=by
     rw[bD,bX];exact e9 fun e=>hc ⟨hi0,by have e:((aU (cX t.nodes[i] k).1).length:Int)=0:=e;omega⟩
    repeat' first
   |refine⟨_,hrow,?_⟩
   |refine⟨_,ac9,?_⟩
   |refine⟨_,_,np,?_⟩
   |refine ak cno ?_
   |refine ah ci ?_
   |refine⟨_,nk,?_⟩
   |refine ak cl ?_
   |refine⟨(Fl (bw t k),([]:List TV)),?_,?_,rfl⟩
   |refine⟨(Fl (bw t k),([]:List TV)),?_,?_,⟨rfl,by trivial⟩⟩
   |exact fin (fun a b=>(a,b)=(Fl (bw t k),([]:List TV))) rfl
   |exact fin (fun r fs=>r=Fl (bw t k)∧fs=[]) ⟨rfl,by trivial⟩
   |(rw[es];rw[eset] at fin;exact fin (fun a b=>(a,b)=(Fl (bw t k),([]:List TV))) rfl)
   |(rw[es];rw[eset] at fin;exact fin (fun r fs=>r=Fl (bw t k)∧fs=[]) ⟨rfl,by trivial⟩)
   ·have ci:bK 0 (i:Int)=false:=by rw[dh];simp;omega
    repeat' first
   |refine⟨_,hrow,?_⟩
   |refine⟨_,ac9,?_⟩
   |refine⟨_,_,np,?_⟩
   |refine ak cno ?_
   |refine ak ci ?_
   |refine⟨(Fl (bw t k),([]:List TV)),?_,?_,rfl⟩
   |refine⟨(Fl (bw t k),([]:List TV)),?_,?_,⟨rfl,by trivial⟩⟩
   |exact fin (fun a b=>(a,b)=(Fl (bw t k),([]:List TV))) rfl
   |exact fin (fun r fs=>r=Fl (bw t k)∧fs=[]) ⟨rfl,by trivial⟩
   |(rw[es];rw[eset] at fin;exact fin (fun a b=>(a,b)=(Fl (bw t k),([]:List TV))) rfl)
   |(rw[es];rw[eset] at fin;exact fin (fun r fs=>r=Fl (bw t k)∧fs=[]) ⟨rfl,by trivial⟩)
theorem tU (t:Tree) (k:Key) (hz:cG t≤4194304):an C oJ [dW t,uE k] (Fl (bw t k)) []:=by
 have hN:=wB hz;have I6:an C dB [dW t] (dW t) []:=y7 t hN.1 hN.2;refine(Xd _ _ _ _ _ _ _ _ ⟨_,_,I6,_,yX t ay,?_⟩).run
 cases h1:gG t with
 |false=>exact ah rfl ⟨by unfold bw;rw[aF (by rw[h1];simp)],rfl⟩
 |true=>
 refine ak rfl ⟨_,(N8 _ _ _ _ _ _).2 rfl,?_⟩;change aq (!jU k) _ _
 cases h2:jU k with
 |false=>exact ah rfl ⟨by unfold bw;rw[aF (by rw[h2];simp)],rfl⟩
 |true=>
 obtain⟨i,hi,hil⟩:=WB h1 h2;have hlen:=vO h1
 have hw:an C gH [dW t,vI k.b,vI k.a] (vI (i:Int)) []:=by rw[←hi];exact Ep t k.b k.a ay
 have hrow:rowAt (t.nodes.map aQ) (i:Int)=some [TC.sub 1 (t.nodes[i].map cU)]:=by rw[aR,aH,ck hil];rfl
 have ac9:rowAt (t.aE.map bO) (i:Int)=some [iI (t.aE.getD i 0)]:=by
  rw[aR,aH,wE,ck ay];rfl
 have hg:t.nodes.getD i []=t.nodes[i]:=by rw[wE,ck hil];rfl
 have hok:=B3 h1 (D2 hil);have hsz:=K3 hok;have hps:=JC t.nodes[i] k;have hpt:=JD t.nodes[i] k;have hkl:=tP t.nodes[i] k;have hnk:=dn t.nodes[i];obtain⟨hp1,hp2,hp3⟩:=aeB (k:=k) h1 hil
 have hR:bw t k=if gG (oD (nP t i k).nodes.length (nP t i k))=true then(oD (nP t i k).nodes.length (nP t i k),true) else(t,false):=by
  unfold bw;rw[aI ⟨h1,h2⟩,hi,lV]
 have fin: ∀Q:QV,Q (Fl (bw t k)) []→ ∃(l39 l40:RR),an C bC [dW (nP t i k)] (.ag [.sub 1 l39,.sub 1 l40]) []∧(∃b:Bool,an C bh [.ag [.sub 1 l39,.sub 1 l40]] (vB b) []∧(aq (!b) (Q (.tu [(1,ahi t),(0,[iB false])]) []) (Q (.tu [(1,[.sub 1 l39,.sub 1 l40]),(0,[iB true])]) []))):=by
  intro Q hQ;refine⟨_,_,SU (nP t i k) hp2 ay,_,yX _ ay,?_⟩;rw[hR] at hQ
  cases h3:gG (oD (nP t i k).nodes.length (nP t i k)) with
  |true=>rw[aI h3] at hQ;exact ak rfl hQ
  |false=>rw[aF (by rw[h3];simp)] at hQ;exact ah rfl hQ
 have np:=QC t.nodes[i] k ay ay;have hx:=AN t i [t.aE.getD i 0] [(cX t.nodes[i] k).1] ay ay ay ay cW cW;refine ak rfl ⟨_,hw,_,hrow,?_⟩
 cases hp:(cX t.nodes[i] k).2 with
 |false=>
  have hno:=(Wx hok h2 hp).1
  have cno:(!(cX t.nodes[i] k).2)=true:=by rw[hp];rfl
  obtain⟨ks,hks⟩: ∃ks,ks=dw t.nodes[i] k:=⟨_,rfl⟩;rw[←hks] at hno hkl;have hh:=aho hno;obtain⟨h,hhe⟩: ∃h,h=(ks.length+1)/2:=⟨_,rfl⟩
  have hq:jb .i64 (aA (Int.ofNat (List.length (ks.map bP))) 1) 2=(h:Int):=by rw[bX,aqG ay,hhe]
  have hkk:rowAt (ks.map bP) (h:Int)=some [iI (ks.getD h fT).b,iI (ks.getD h fT).a,iI (ks.getD h fT).k,iI (ks.getD h fT).c,iI (ks.getD h fT).g]:=by
   rw[aR,aH,wE,ck ay];rfl
  have ep:nP t i k=oC t i 1 [t.aE.getD i 0,jV (ks.getD h fT).b (ks.getD h fT).a] [dM (ks.take h),dM (ks.drop h)]:=by
   unfold nP;rw[hg,aF (by rw[hp];simp),←hks,←hhe]
  have rp:=AN t i [t.aE.getD i 0,jV (ks.getD h fT).b (ks.getD h fT).a] [dM (ks.take h),dM (ks.drop h)] ay ay ay ay cW cW;rw[←ep] at rp
  have e1:aC (ks.map bP) 0 (h:Int)=(ks.take h).map bP:=by rw[cJ];rfl
  have e2:aC (ks.map bP) (h:Int) (Int.ofNat (List.length (ks.map bP)))=(ks.drop h).map bP:=by
   rw[cJ,bX,lV,show(Int.ofNat ks.length).toNat=ks.length from rfl,vZ]
  have nn1:an C aW [.c (.sub 5 (aC (ks.map bP) 0 (h:Int)))] (g9 (dM (ks.take h))) []:=by rw[e1];exact mj _ (by rw[eO];omega)
  have nn2:an C aW [.c (.sub 5 (aC (ks.map bP) (h:Int) (Int.ofNat (List.length (ks.map bP)))))] (g9 (dM (ks.drop h))) []:=by rw[e2];exact mj _ (by rw[iR];omega)
  have c1:gf 0 (h:Int) (Int.ofNat (List.length (ks.map bP)))=true:=by rw[Jw];simp;omega
  have c2:gf (h:Int) (Int.ofNat (List.length (ks.map bP))) (Int.ofNat (List.length (ks.map bP)))=true:=by rw[Jw];simp;omega
  have kw:an C eY [dL (iE (aU t.nodes[i]) k)] (dL ks) []:=by
   rw[hks];exact DS (iE (aU t.nodes[i]) k) (by have:=sY (aU t.nodes[i]) k;omega)
  clear hks hhe hR
  repeat' first
   |refine⟨_,hrow,?_⟩
   |refine⟨_,ac9,?_⟩
   |refine⟨_,_,np,?_⟩
   |refine⟨_,_,hx,?_⟩
   |refine ah cno ?_
   |refine⟨_,kw,?_⟩
   |refine⟨_,(ga t.nodes[i] ay ay _).2 rfl,?_⟩
   |refine⟨_,qU (aU t.nodes[i]) k ay,?_⟩
   |refine ak (by rw[bD];rfl) ?_
   |rw[hq]
   |refine⟨_,_,_,_,_,hkk,?_⟩
   |refine ah c1 ?_
   |refine ah c2 ?_
   |refine⟨_,(LJ _ _ _ _ _ _).2 rfl,?_⟩
   |refine⟨_,nn1,?_⟩
   |refine⟨_,nn2,?_⟩
   |refine⟨_,_,rp,?_⟩
   |refine⟨(Fl (bw t k),([]:List TV)),?_,?_,rfl⟩
   |refine⟨(Fl (bw t k),([]:List TV)),?_,?_,⟨rfl,by trivial⟩⟩
   |exact fin (fun a b=>(a,b)=(Fl (bw t k),([]:List TV))) rfl
   |exact fin (fun r fs=>r=Fl (bw t k)∧fs=[]) ⟨rfl,by trivial⟩
 |true=>
  have cno:(!(cX t.nodes[i] k).2)=false:=by rw[hp];rfl
  by_cases hc:0<i∧(aU (cX t.nodes[i] k).1).length=0
  ·have ci:bK 0 (i:Int)=true:=by rw[dh];simp;omega
   have nk:=(ga (cX t.nodes[i] k).1 ay ay _).2 rfl
   have cl:cn (Int.ofNat (List.length ((aU (cX t.nodes[i] k).1).map bP))) 0=true:=by rw[bD,bX,hc.2];rfl
   have ep:nP t i k=oC t i 1 [] []:=by unfold nP;rw[hg,aI hp,aI hc]
   have rp:=AN t i [] [] ay ay ay ay cW cW;rw[←ep] at rp;clear hR
   repeat' first
   |refine⟨_,hrow,?_⟩
   |refine⟨_,ac9,?_⟩
   |refine⟨_,_,np,?_⟩
   |refine⟨_,_,hx,?_⟩
   |refine ak cno ?_
   |refine ah ci ?_
   |refine⟨_,nk,?_⟩
   |refine ah cl ?_
   |refine⟨_,_,rp,?_⟩
   |refine⟨(Fl (bw t k),([]:List TV)),?_,?_,rfl⟩
   |refine⟨(Fl (bw t k),([]:List TV)),?_,?_,⟨rfl,by trivial⟩⟩
   |exact fin (fun a b=>(a,b)=(Fl (bw t k),([]:List TV))) rfl
   |exact fin (fun r fs=>r=Fl (bw t k)∧fs=[]) ⟨rfl,by trivial⟩
  ·have ep:oC t i 1 [t.aE.getD i 0] [(cX t.nodes[i] k).1]=nP t i k:=by
    unfold nP;rw[hg,aI hp,aF hc]
   rw[ep] at hx;clear hR
   by_cases hi0:0<i
   ·have ci:bK 0 (i:Int)=true:=by rw[dh];simp;omega
    have nk:=(ga (cX t.nodes[i] k).1 ay ay _).2 rfl
    have cl:cn (Int.ofNat (List.length ((aU (cX t.nodes[i] k).1).map bP))) 0=false:=by
     rw[bD,bX];exact e9 fun e=>hc ⟨hi0,by have e:((aU (cX t.nodes[i] k).1).length:Int)=0:=e;omega⟩
    repeat' first
   |refine⟨_,hrow,?_⟩
   |refine⟨_,ac9,?_⟩
   |refine⟨_,_,np,?_⟩
   |refine⟨_,_,hx,?_⟩
   |refine ak cno ?_
   |refine ah ci ?_
   |refine⟨_,nk,?_⟩
   |refine ak cl ?_
   |refine⟨(Fl (bw t k),([]:List TV)),?_,?_,rfl⟩
   |refine⟨(Fl (bw t k),([]:List TV)),?_,?_,⟨rfl,by trivial⟩⟩
   |exact fin (fun a b=>(a,b)=(Fl (bw t k),([]:List TV))) rfl
   |exact fin (fun r fs=>r=Fl (bw t k)∧fs=[]) ⟨rfl,by trivial⟩
   ·have ci:bK 0 (i:Int)=false:=by rw[dh];simp;omega
    repeat' first
   |refine⟨_,hrow,?_⟩
   |refine⟨_,ac9,?_⟩
   |refine⟨_,_,np,?_⟩
   |refine⟨_,_,hx,?_⟩
   |refine ak cno ?_
   |refine ak ci ?_
   |refine⟨(Fl (bw t k),([]:List TV)),?_,?_,rfl⟩
   |refine⟨(Fl (bw t k),([]:List TV)),?_,?_,⟨rfl,by trivial⟩⟩
   |exact fin (fun a b=>(a,b)=(Fl (bw t k),([]:List TV))) rfl
   |exact fin (fun r fs=>r=Fl (bw t k)∧fs=[]) ⟨rfl,by trivial⟩
theorem QD (p:Pool) (k:Key) (b:Bool) (hc:p.cells.length≤1073741824):an C F2 [.bx (wh p),uE k,vB b] (.tu []) [.bx (wh ⟨p.t,p.aL,if b=true∧k.k=1 then jW p.cells k.c else p.cells,p.au,p.next⟩)]:=by
 refine(Xi _ _ _ _ _ _ _ _ _ _ _ _ _ ?_).run
 cases b with
 |false=>exact ak rfl ⟨rfl,by trivial⟩
 |true=>
  refine ah rfl ?_
  by_cases h:k.k=1
  ·exact ah (by rw[bD];exact fj h) ⟨_,Cc p.cells k.c hc,rfl,by rw[aI ⟨rfl,h⟩]⟩
  ·exact ak (by rw[bD];exact e9 h) ⟨rfl,by rw[aF fun e=>h e.2]⟩
theorem vg (p:Pool) (hS:aJ p≤4194304) (k:Key):an C oK [.bx (wh p),uE k] (vB (dU p k).2) [.bx (wh (dU p k).1)]:=by
 have hP:=cC hS;have ta:=y5 p.t k.b k.a ay;have tp:=tU p.t k ay;obtain⟨T,b,hT⟩: ∃T b,bw p.t k=(T,b):=⟨_,_,rfl⟩;obtain⟨o,f,hO⟩: ∃o f,wW p.t k.b k.a=(o,f):=⟨_,_,rfl⟩
 have e:dU p k=if b=true then(⟨T,p.aL,if f=true∧o.k=1 then jW p.cells o.c else p.cells,p.au,p.next⟩,true) else(p,false):=by
  unfold dU JH;rw[hT,hO]
 have hno:=Mk (t:=p.t) (k:=k);rw[hT] at tp hno;rw[hO] at ta;rw[e];refine(Y7 _ _ _ _ _ _ _ _ _ _ _ _ ?_).run
 cases b with
 |false=>
  have hno:T=p.t:=hno rfl;subst hno;rw[aF cW];exact bM
 |true=>
  rw[aI rfl];have dr:=QD ⟨T,p.aL,p.cells,p.au,p.next⟩ o f (by simp only[];omega);exact bM
theorem nM (p:Pool) (hS:aJ p≤4194304) (k:Key):an C gZ [.bx (wh p),uE k] (vB (dU p k).2) [.bx (wh (dU p k).1)]:=by
 have hP:=cC hS;have ta:=vf p.t k.b k.a ay;have tp:=tT p.t k ay;obtain⟨T,b,hT⟩: ∃T b,bw p.t k=(T,b):=⟨_,_,rfl⟩;obtain⟨o,f,hO⟩: ∃o f,wW p.t k.b k.a=(o,f):=⟨_,_,rfl⟩
 have e:dU p k=if b=true then(⟨T,p.aL,if f=true∧o.k=1 then jW p.cells o.c else p.cells,p.au,p.next⟩,true) else(p,false):=by
  unfold dU JH;rw[hT,hO]
 have hno:=Mk (t:=p.t) (k:=k);rw[hT] at tp hno;rw[hO] at ta;rw[e];refine(Li _ _ _ _ _ _ _ _ _ _ _ _ ?_).run
 cases b with
 |false=>
  have hno:T=p.t:=hno rfl;subst hno;rw[aF cW];exact bM
 |true=>
  rw[aI rfl]
  cases f with
  |false=>
   rw[aF cW];exact bM
  |true=>
   by_cases ho:o.k=1
   ·rw[aI ⟨rfl,ho⟩]
    have ce:cn o.k 1=true:=by rw[bD];exact fj ho
    have fc:=Cd p.cells o.c ay;exact bM
   ·rw[aF fun e=>ho e.2]
    have ce:cn o.k 1=false:=by rw[bD];exact e9 ho
    exact bM
theorem WU {l:List Vol} {s:ByteArray} (h:bZ l s<0):ff l (bZ l s)=none:=gD ay
theorem xe (p:Pool) (s:ByteArray) (b:Int) (hS:aJ p≤4194304) (hz:s.size≤140737488355328):an C uR [cY p,vS s,vI b] (vI (g8 p s b)) []:=by
 have hP:=cC hS;have hva:=jj p s ay;have hvl:=Gz p s hS hz;refine(Uk _ _ _ _ _ _ _ _ _ ?_).run;unfold g8
 by_cases h1:uz p s=true
 ·rw[aI h1] at hvl ⊢
  by_cases h2:bZ p.au s<0
  ·rw[aI h2] at hvl
   rw[WU h2];exact bM
  ·rw[aF h2] at hvl
   obtain⟨v,hv⟩:=F8 h2;have hsz:=B0 (wk (by unfold uz at h1;simp only[eX] at h1;exact h1.1)) hv
   have hrv:rowAt (p.au.map cg) (bZ p.au s)=some [iS v.name,iI v.cT,iI v.size,iB v.fx]:=by rw[aR,hv];rfl
   have hin:=tj b 0 (v.size-1);have hsub:cN v.size 1=v.size-1:=de ay;rw[hv];simp only[]
   cases h3:v.fx with
   |true=>
    rw[h3] at hrv;rw[aI rfl];exact bM
   |false=>
    rw[h3] at hrv;rw[aF cW]
    cases h4:iA b 0 (v.size-1) with
    |true=>
     rw[h4,←hsub] at hin;rw[aI rfl];exact bM
    |false=>
     rw[h4,←hsub] at hin;rw[aF cW];exact bM
 ·rw[aF h1] at hvl ⊢
  exact bM
theorem vU (p:Pool) (s:ByteArray) (b:Int) (hS:aJ p≤4194304) (hz:s.size≤140737488355328):an C tg [cY p,vS s,vI b,vB true] (tII (bZ p.au s,g8 p s b)) []:=by
 have hP:=cC hS;have hva:=lP p s ay;have hok:=e8 p hS;have hnm:=(m5 s hz (jR s)).2 rfl;refine(RF _ _ _ _ _ _ _ _ _ _ ?_).run;unfold g8 uz
 cases h0:cZ p with
 |false=>
  rw[h0] at hok;exact bM
 |true=>
 rw[h0] at hok
 cases h1:jR s with
 |false=>
  rw[h1] at hnm;exact bM
 |true=>
  rw[h1] at hnm;rw[aI (show(true&&true)=true from rfl)]
  by_cases h2:bZ p.au s<0
  ·have cl:bK (bZ p.au s) 0=true:=by rw[dh];exact fj h2
   rw[WU h2];exact bM
  ·have cl:bK (bZ p.au s) 0=false:=by rw[dh];exact e9 h2
   obtain⟨v,hv⟩:=F8 h2;have hsz:=B0 (wk h0) hv
   have hrv:rowAt (p.au.map cg) (bZ p.au s)=some [iS v.name,iI v.cT,iI v.size,iB v.fx]:=by rw[aR,hv];rfl
   have hin:=nG b 0 (v.size-1);have hsub:cN v.size 1=v.size-1:=de ay;rw[hv];simp only[]
   cases h3:v.fx with
   |true=>
    rw[h3] at hrv;rw[aI rfl];exact bM
   |false=>
    rw[h3] at hrv;rw[aF cW]
    cases h4:iA b 0 (v.size-1) with
    |true=>
     rw[h4,←hsub] at hin;rw[aI rfl];exact bM
    |false=>
     rw[h4,←hsub] at hin;rw[aF cW];exact bM
theorem zY {l:List Cell} {n i:Int} {cs:List Cell} (h:jH l n=(cs,i,true)): ∃c,ff cs i=some c∧ahn cs i=c.g:=by
 have h0:eJ l=true∧iC n=true∧0≤fe l:=Classical.byContradiction fun hn=>by
  rw[qt hn] at h;cases h
 rw[wU h0] at h;obtain⟨rfl,h2⟩:=Prod.mk.inj h;obtain⟨rfl,_⟩:=Prod.mk.inj h2;have hl: -1≤fe l∧fe l<l.length:=ahl Ax l;obtain⟨c,hc⟩:=mg (l:=l.modify (fe l).toNat fun c=>⟨c.g,true,n⟩) h0.2.2 (by rw[RT];exact hl.2);exact⟨c,hc,by unfold ahn;rw[hc]⟩
theorem WV (p:Pool) (s:ByteArray) (b n:Int) (hS:aJ p≤1048576) (hz:s.size≤1048576):an C Mq [cY p,vS s,vI b,vI n] (PW (mT p s b n)) []:=by
 have rY:aJ p≤4194304:=by omega
 have hP:=cC rY;have I6:=cz p rY;have hva:=jj p s ay;have Yh:=xe p s b rY ay;have zz:=(yj n (iC n)).2 rfl;refine(acE _ _ _ _ _ _ _ _ _ _ ?_).run
 by_cases h1:g8 p s b=0
 ·rw[h1] at Yh
  obtain⟨v,hv,_⟩:=wm h1
  have hrv:rowAt (p.au.map cg) (bZ p.au s)=some [iS v.name,iI v.cT,iI v.size,iB v.fx]:=by rw[aR,hv];rfl
  cases h2:iC n with
  |false=>
   rw[h2] at zz
   have e:mT p s b n=(p,4):=by unfold mT;rw[aI h1,aF (by rw[h2];simp)]
   rw[e];exact bM
  |true=>
   rw[h2] at zz;have tk:=Cg p.cells n ay;obtain⟨cs,i,ok,uC⟩: ∃cs i ok,jH p.cells n=(cs,i,ok):=⟨_,_,_,rfl⟩
   have hcl:cs.length=p.cells.length:=by have:=NZ p.cells n;rw[uC] at this;exact this
   have hX:aJ ⟨p.t,p.aL,cs,p.au,p.next⟩≤2000000:=by unfold aJ at hS ⊢;simp only[];omega
   rw[uC] at tk
   cases ok with
   |false=>
    have e:mT p s b n=(p,6):=by unfold mT;rw[aI h1,aI h2,hv];simp only[];rw[uC];rfl
    have en:=j7 p ⟨p.t,p.aL,cs,p.au,p.next⟩ false rY ay;rw[e];exact bM
   |true=>
    obtain⟨c,hc,agH⟩:=zY uC
    have hrc:rowAt (cs.map bL) i=some [iI c.g,iB c.u,iI c.n]:=by rw[aR,hc];rfl
    have pk:=vg ⟨p.t,p.aL,cs,p.au,p.next⟩ ay ⟨b,v.cT,1,i,c.g⟩;have hpz:=sZ ⟨p.t,p.aL,cs,p.au,p.next⟩ ⟨b,v.cT,1,i,c.g⟩
    have e:mT p s b n=En p (dU ⟨p.t,p.aL,cs,p.au,p.next⟩ ⟨b,v.cT,1,i,c.g⟩).1 (dU ⟨p.t,p.aL,cs,p.au,p.next⟩ ⟨b,v.cT,1,i,c.g⟩).2:=by
     unfold mT;rw[aI h1,aI h2,hv];simp only[];unfold acg;rw[uC];simp only[];rw[agH];rfl
    rw[e];generalize dU ⟨p.t,p.aL,cs,p.au,p.next⟩ ⟨b,v.cT,1,i,c.g⟩=X at*;have en:=j7 p X.1 X.2 rY ay;exact bM
 ·have c1:cn (g8 p s b) 0=false:=by rw[bD];exact e9 h1
  have c2:(!cn (g8 p s b) 0)=true:=by rw[c1];rfl
  have e:mT p s b n=(p,g8 p s b):=by unfold mT;rw[aF h1]
  rw[e];exact bM
theorem zy (p:Pool) (hS:aJ p≤4194304) (i b:Int) (v:Vol) (hv:ff p.au i=some v):an C u9 [.bx (wh p),vI i,vI b] (vB (cE p v.cT b).2) [.bx (wh (cE p v.cT b).1)]:=by
 have hP:=cC hS
 have hrv:rowAt (p.au.map cg) i=some [iS v.name,iI v.cT,iI v.size,iB v.fx]:=by rw[aR,hv];rfl
 have sa:=AJ p.t p.aL b v.cT ay ay;have ta:=y5 p.t b v.cT ay;have pg:=vg p hS ⟨b,v.cT,2,0,0⟩;have pn:=vg p hS ⟨b,v.cT,0,0,0⟩;obtain⟨a,f,hA⟩: ∃a f,tN p.t p.aL b v.cT=(a,f):=⟨_,_,rfl⟩;obtain⟨o,q,hO⟩: ∃o q,wW p.t b v.cT=(o,q):=⟨_,_,rfl⟩
 have e:cE p v.cT b=if f=true∧a.k=1 then dU p ⟨b,v.cT,2,0,0⟩ else if q=true then dU p ⟨b,v.cT,0,0,0⟩ else(p,true):=by
  unfold cE;rw[hA,hO]
 rw[hA] at sa;rw[hO] at ta;rw[e];generalize dU p ⟨b,v.cT,2,0,0⟩=X at*;generalize dU p ⟨b,v.cT,0,0,0⟩=Y at*;refine(Pc _ _ _ _ _ _ _ _ _ ?_).run
 by_cases h1:f=true∧a.k=1
 ·obtain⟨rfl,ha⟩:=h1
  have ce:cn a.k 1=true:=by rw[bD];exact fj ha
  rw[aI ⟨rfl,ha⟩];exact bM
 ·rw[aF h1]
  have ce:f=true→cn a.k 1=false:=fun hf=>by rw[bD];exact e9 fun ha=>h1 ⟨hf,ha⟩
  cases f with
  |false=>
   cases q with
   |false=>
    rw[aF cW];exact bM
   |true=>
    rw[aI rfl];exact bM
  |true=>
   have ce:=ce rfl
   cases q with
   |false=>
    rw[aF cW];exact bM
   |true=>
    rw[aI rfl];exact bM
theorem QE (p:Pool) (s:ByteArray) (b:Int) (hS:aJ p≤1048576) (hz:s.size≤1048576):an C FW [cY p,vS s,vI b] (PW (mN p s b)) []:=by
 have rY:aJ p≤4194304:=by omega
 have hP:=cC rY;have I6:=cz p rY;have hva:=jj p s ay;have Yh:=xe p s b rY ay;refine(XJ _ _ _ _ _ _ _ _ _ ?_).run
 by_cases h1:g8 p s b=0
 ·rw[h1] at Yh
  obtain⟨v,hv,_⟩:=wm h1;have di:=zy p rY (bZ p.au s) b v hv;have hdz:=zQ p v.cT b
  have e:mN p s b=En p (cE p v.cT b).1 (cE p v.cT b).2:=by unfold mN;rw[aI h1,hv]
  rw[e];generalize cE p v.cT b=X at*;have en:=j7 p X.1 X.2 rY ay;exact bM
 ·have c1:cn (g8 p s b) 0=false:=by rw[bD];exact e9 h1
  have c2:(!cn (g8 p s b) 0)=true:=by rw[c1];rfl
  have e:mN p s b=(p,g8 p s b):=by unfold mN;rw[aF h1]
  rw[e];exact bM
theorem WW (p:Pool) (s:ByteArray) (b n:Int) (hS:aJ p≤1048576) (hz:s.size≤1048576):an C Mr [cY p,vS s,vI b,vI n] (PW (mT p s b n)) []:=by
 have rY:aJ p≤4194304:=by omega
 have hP:=cC rY;have I6:=bJ p rY;have hva:=lP p s ay;have Yh:=vU p s b rY ay;have zz:=(ym n (iC n)).2 rfl;refine(acK _ _ _ _ _ _ _ _ _ _ ?_).run
 by_cases h1:g8 p s b=0
 ·rw[h1] at Yh
  obtain⟨v,hv,_⟩:=wm h1
  have hrv:rowAt (p.au.map cg) (bZ p.au s)=some [iS v.name,iI v.cT,iI v.size,iB v.fx]:=by rw[aR,hv];rfl
  cases h2:iC n with
  |false=>
   rw[h2] at zz
   have e:mT p s b n=(p,4):=by unfold mT;rw[aI h1,aF (by rw[h2];simp)]
   rw[e];exact bM
  |true=>
   rw[h2] at zz;have tk:=Ce p.cells n ay;obtain⟨cs,i,ok,uC⟩: ∃cs i ok,jH p.cells n=(cs,i,ok):=⟨_,_,_,rfl⟩
   have hcl:cs.length=p.cells.length:=by have:=NZ p.cells n;rw[uC] at this;exact this
   have hX:aJ ⟨p.t,p.aL,cs,p.au,p.next⟩≤2000000:=by unfold aJ at hS ⊢;simp only[];omega
   rw[uC] at tk
   cases ok with
   |false=>
    have e:mT p s b n=(p,6):=by unfold mT;rw[aI h1,aI h2,hv];simp only[];rw[uC];rfl
    have en:=jy p ⟨p.t,p.aL,cs,p.au,p.next⟩ false rY ay;rw[e];exact bM
   |true=>
    obtain⟨c,hc,agH⟩:=zY uC
    have hrc:rowAt (cs.map bL) i=some [iI c.g,iB c.u,iI c.n]:=by rw[aR,hc];rfl
    have pk:=nM ⟨p.t,p.aL,cs,p.au,p.next⟩ ay ⟨b,v.cT,1,i,c.g⟩;have hpz:=sZ ⟨p.t,p.aL,cs,p.au,p.next⟩ ⟨b,v.cT,1,i,c.g⟩
    have e:mT p s b n=En p (dU ⟨p.t,p.aL,cs,p.au,p.next⟩ ⟨b,v.cT,1,i,c.g⟩).1 (dU ⟨p.t,p.aL,cs,p.au,p.next⟩ ⟨b,v.cT,1,i,c.g⟩).2:=by
     unfold mT;rw[aI h1,aI h2,hv];simp only[];unfold acg;rw[uC];simp only[];rw[agH];rfl
    rw[e];generalize dU ⟨p.t,p.aL,cs,p.au,p.next⟩ ⟨b,v.cT,1,i,c.g⟩=X at*;have en:=jy p X.1 X.2 rY ay;exact bM
 ·have c1:cn (g8 p s b) 0=false:=by rw[bD];exact e9 h1
  have c2:(!cn (g8 p s b) 0)=true:=by rw[c1];rfl
  have e:mT p s b n=(p,g8 p s b):=by unfold mT;rw[aF h1]
  rw[e];exact bM
theorem xg (p:Pool) (hS:aJ p≤4194304) (i b:Int) (v:Vol) (hv:ff p.au i=some v):an C qD [.bx (wh p),vI i,vI b] (vB (cE p v.cT b).2) [.bx (wh (cE p v.cT b).1)]:=by
 have hP:=cC hS
 have hrv:rowAt (p.au.map cg) i=some [iS v.name,iI v.cT,iI v.size,iB v.fx]:=by rw[aR,hv];rfl
 have sa:=AK p.t p.aL b v.cT ay ay;have ta:=vf p.t b v.cT ay;have pg:=nM p hS ⟨b,v.cT,2,0,0⟩;have pn:=nM p hS ⟨b,v.cT,0,0,0⟩;obtain⟨a,f,hA⟩: ∃a f,tN p.t p.aL b v.cT=(a,f):=⟨_,_,rfl⟩;obtain⟨o,q,hO⟩: ∃o q,wW p.t b v.cT=(o,q):=⟨_,_,rfl⟩
 have e:cE p v.cT b=if f=true∧a.k=1 then dU p ⟨b,v.cT,2,0,0⟩ else if q=true then dU p ⟨b,v.cT,0,0,0⟩ else(p,true):=by
  unfold cE;rw[hA,hO]
 rw[hA] at sa;rw[hO] at ta;rw[e];generalize dU p ⟨b,v.cT,2,0,0⟩=X at*;generalize dU p ⟨b,v.cT,0,0,0⟩=Y at*;refine(Kt _ _ _ _ _ _ _ _ _ ?_).run
 by_cases h1:f=true∧a.k=1
 ·obtain⟨rfl,ha⟩:=h1
  have ce:cn a.k 1=true:=by rw[bD];exact fj ha
  rw[aI ⟨rfl,ha⟩];exact bM
 ·rw[aF h1]
  have ce:f=true→cn a.k 1=false:=fun hf=>by rw[bD];exact e9 fun ha=>h1 ⟨hf,ha⟩
  cases f with
  |false=>
   cases q with
   |false=>
    rw[aF cW];exact bM
   |true=>
    rw[aI rfl];exact bM
  |true=>
   have ce:=ce rfl
   cases q with
   |false=>
    rw[aF cW];exact bM
   |true=>
    rw[aI rfl];exact bM
theorem QF (p:Pool) (s:ByteArray) (b:Int) (hS:aJ p≤1048576) (hz:s.size≤1048576):an C FX [cY p,vS s,vI b] (PW (mN p s b)) []:=by
 have rY:aJ p≤4194304:=by omega
 have hP:=cC rY;have I6:=bJ p rY;have hva:=lP p s ay;have Yh:=vU p s b rY ay;refine(XZ _ _ _ _ _ _ _ _ _ ?_).run
 by_cases h1:g8 p s b=0
 ·rw[h1] at Yh
  obtain⟨v,hv,_⟩:=wm h1;have di:=xg p rY (bZ p.au s) b v hv;have hdz:=zQ p v.cT b
  have e:mN p s b=En p (cE p v.cT b).1 (cE p v.cT b).2:=by unfold mN;rw[aI h1,hv]
  rw[e];generalize cE p v.cT b=X at*;have en:=jy p X.1 X.2 rY ay;exact bM
 ·have c1:cn (g8 p s b) 0=false:=by rw[bD];exact e9 h1
  have c2:(!cn (g8 p s b) 0)=true:=by rw[c1];rfl
  have e:mN p s b=(p,g8 p s b):=by unfold mN;rw[aF h1]
  rw[e];exact bM
theorem SW (p:Pool) (s:ByteArray) (n:Int) (hS:aJ p≤1048576) (hz:s.size≤1048576):an C gy [cY p,vS s,vI n] (PW (pV p s n)) []:=by
 have rY:aJ p≤4194304:=by omega
 have hP:=cC rY;have I6:=cz p rY;have hva:=jj p s ay;have Yh:=xe p s 0 rY ay;have hin:=tj n 1 12;obtain⟨Z,hZe⟩: ∃Z,Z=pV p s n:=⟨_,rfl⟩;rw[←hZe];refine(Y3 _ _ _ _ _ _ _ _ _ ?_).run
 by_cases h1:g8 p s 0=0
 ·rw[h1] at Yh
  obtain⟨v,hv,hfm,_⟩:=wm h1;have hvz:=B0 (wk (by unfold uz at hfm;simp only[eX] at hfm;exact hfm.1)) hv
  have hrv:rowAt (p.au.map cg) (bZ p.au s)=some [iS v.name,iI v.cT,iI v.size,iB v.fx]:=by rw[aR,hv];rfl
  cases h2:iA n 1 12 with
  |false=>
   rw[h2] at hin
   have e:Z=(p,4):=by rw[hZe];unfold pV;rw[aI h1,aF (by rw[h2];simp)]
   rw[e];exact bM
  |true=>
  rw[h2] at hin
  have hn:1≤n∧n≤12:=by unfold iA at h2;simpa using h2
  have hZ:En p (B4 (yB v.cT (v.size-n).toNat (v.size-1) p).1 (bZ p.au s) n) (yB v.cT (v.size-n).toNat (v.size-1) p).2=Z:=by
   rw[hZe];unfold pV;rw[aI h1,aI h2,hv]
  clear hZe;have hsb:cN v.size 1=v.size-1:=de ay
  have fin: ∀(ok:Bool) (X:Pool),aJ X≤4000000→X.au=p.au→En p (B4 X (bZ p.au s) n) ok=Z→ ∀Q:QV,Q (PW Z) []→ ∃(s62:ByteArray) (n63:Int) (n64:Int) (b65:Bool),rowAt (X.au.map cg) (bZ p.au s)=some [iS s62,iI n63,iI n64,iB b65]∧(∃(s66:ByteArray) (n67:Int) (n68:Int) (b69:Bool),rowAt (X.au.map cg) (bZ p.au s)=some [iS s66,iI n67,iI n68,iB b69]∧(∃(l70:RR) (l71:RR) (l72:RR) (l73:RR) (l74:RR) (n75:Int) (n76:Int),an C gz ([cY p,TV.ag [TC.sub 1 (X.t.aE.map bO),TC.sub 1 (X.t.nodes.map aQ),TC.sub 2 (X.aL.map bQ),TC.sub 3 (X.cells.map bL),TC.sub 4 (setRow (X.au.map cg) (bZ p.au s) 2 [iI n]),iI X.next],TV.c (iB ok)]) (TV.tu [(1,[TC.sub 1 l70,TC.sub 1 l71,TC.sub 2 l72,TC.sub 3 l73,TC.sub 4 l74,iI n75]),(0,[iI n76])]) []∧(Q (TV.tu [(1,[TC.sub 1 l70,TC.sub 1 l71,TC.sub 2 l72,TC.sub 3 l73,TC.sub 4 l74,iI n75]),(0,[iI n76])]) ([])))):=by
   intro ok X hX hXv hZ Q hQ
   have hrx:rowAt (X.au.map cg) (bZ p.au s)=some [iS v.name,iI v.cT,iI v.size,iB v.fx]:=by rw[hXv];exact hrv
   have en:=j7 p (B4 X (bZ p.au s) n) ok rY (by rw[aeC];omega);have e1:setRow (X.au.map cg) (bZ p.au s) 2 [iI n]=(B4 X (bZ p.au s) n).au.map cg:=Jx;rw[hZ] at en;rw[e1];exact⟨_,_,_,_,hrx,_,_,_,_,hrx,_,_,_,_,_,_,_,en,hQ⟩
  have Q0:(fun r fs=>r=PW Z∧fs=([]:List TV)) (PW Z) []:=⟨rfl,by trivial⟩
  have bad:(p,(6:Int))=Z→ ∀(b:Int) (X:Pool),aJ X≤4000000→X.au=p.au→aa C gy iX 4 0 (mD n (bZ p.au s) false b (p.t.aE.map bO) (p.t.nodes.map aQ) (p.aL.map bQ) (p.cells.map bL) (p.au.map cg) p.next (X.t.aE.map bO) (X.t.nodes.map aQ) (X.aL.map bQ) (X.cells.map bL) X.next (X.au.map cg)) (fun x st=>ax C gy iX x st fun r fs=>r=PW Z∧fs=[]):=by
   intro hZ b X hX hXv
   by_cases h:n≤b
   ·exact vD _ _ _ _ _ _ _ _ _ _ _ _ _ _ _ _ _ (ah (by rw[gj];exact fj h) (ak rfl (Tb _ _ _ _ _ _ _ _ _ _ _ _ _ _ _ _ _ (fin false X hX hXv hZ (fun r fs=>r=PW Z∧fs=[]) Q0))))
   ·exact vD _ _ _ _ _ _ _ _ _ _ _ _ _ _ _ _ _ (ak (by rw[gj];exact e9 h) (HS _ _ _ _ _ _ _ _ _ _ _ _ _ _ _ _ _ (fin false X hX hXv hZ (fun r fs=>r=PW Z∧fs=[]) Q0)))
  have key: ∀(k:Nat) (b:Int) (X:Pool),k=(b+1-n).toNat→ -1≤b→b≤12→aJ X+300*k≤4000000→X.au=p.au→En p (B4 (yB v.cT k b X).1 (bZ p.au s) n) (yB v.cT k b X).2=Z→aa C gy iX 4 0 (mD n (bZ p.au s) true b (p.t.aE.map bO) (p.t.nodes.map aQ) (p.aL.map bQ) (p.cells.map bL) (p.au.map cg) p.next (X.t.aE.map bO) (X.t.nodes.map aQ) (X.aL.map bQ) (X.cells.map bL) X.next (X.au.map cg)) (fun x st=>ax C gy iX x st fun r fs=>r=PW Z∧fs=[]):=by
   intro k
   induction k with
   |zero=>
    intro b X hk hb1 hb hX hXv hZ
    have h: ¬n≤b:=by omega
    have hZ:En p (B4 X (bZ p.au s) n) true=Z:=hZ;exact vD _ _ _ _ _ _ _ _ _ _ _ _ _ _ _ _ _ (ak (by rw[gj];exact e9 h) (HS _ _ _ _ _ _ _ _ _ _ _ _ _ _ _ _ _ (fin true X ay hXv hZ (fun r fs=>r=PW Z∧fs=[]) Q0)))
   |succ k ih=>
    intro b X hk hb1 hb hX hXv hZ
    ·have h:n≤b:=by omega
     have hsub:cN b 1=b-1:=de ay;have hr:=(JI X v.cT b).2.1;have hdz:=zQ X v.cT b;have di:=zy X ay (bZ p.au s) b v (by rw[hXv];exact hv);unfold yB at hZ;rw[show(if(cE X v.cT b).2=true then yB v.cT k (b-1) (cE X v.cT b).1 else(X,false))=if(cE X v.cT b).2=true then yB v.cT k (b-1) (cE X v.cT b).1 else(X,false) from rfl] at hZ;refine vD _ _ _ _ _ _ _ _ _ _ _ _ _ _ _ _ _ (ah (by rw[gj];exact fj h) (ah rfl ⟨_,_,_,_,_,_,_,di,?_⟩))
     rw[hsub]
     cases hd:(cE X v.cT b).2 with
     |false=>
      rw[hd] at hZ;exact bad hZ (b-1) (cE X v.cT b).1 ay (by rw[hr];exact hXv)
     |true=>
      rw[hd] at hZ;exact ih (b-1) (cE X v.cT b).1 ay ay ay ay (by rw[hr];exact hXv) hZ
  have k0:=key (v.size-n).toNat (v.size-1) p ay ay ay ay rfl hZ;rw[←hsb] at k0;exact bM
 ·have c1:cn (g8 p s 0) 0=false:=by rw[bD];exact e9 h1
  have c2:(!cn (g8 p s 0) 0)=true:=by rw[c1];rfl
  have e:Z=(p,g8 p s 0):=by rw[hZe];unfold pV;rw[aF h1]
  rw[e];exact bM
theorem SX (p:Pool) (s:ByteArray) (n:Int) (hS:aJ p≤1048576) (hz:s.size≤1048576):an C ig [cY p,vS s,vI n] (PW (pV p s n)) []:=by
 have rY:aJ p≤4194304:=by omega
 have hP:=cC rY;have I6:=bJ p rY;have hva:=lP p s ay;have Yh:=vU p s 0 rY ay;have hin:=nG n 1 12;obtain⟨Z,hZe⟩: ∃Z,Z=pV p s n:=⟨_,rfl⟩;rw[←hZe];refine(Zo _ _ _ _ _ _ _ _ _ ?_).run
 by_cases h1:g8 p s 0=0
 ·rw[h1] at Yh
  obtain⟨v,hv,hfm,_⟩:=wm h1;have hvz:=B0 (wk (by unfold uz at hfm;simp only[eX] at hfm;exact hfm.1)) hv
  have hrv:rowAt (p.au.map cg) (bZ p.au s)=some [iS v.name,iI v.cT,iI v.size,iB v.fx]:=by rw[aR,hv];rfl
  cases h2:iA n 1 12 with
  |false=>
   rw[h2] at hin
   have e:Z=(p,4):=by rw[hZe];unfold pV;rw[aI h1,aF (by rw[h2];simp)]
   rw[e];exact bM
  |true=>
  rw[h2] at hin
  have hn:1≤n∧n≤12:=by unfold iA at h2;simpa using h2
  have hZ:En p (B4 (yB v.cT (v.size-n).toNat (v.size-1) p).1 (bZ p.au s) n) (yB v.cT (v.size-n).toNat (v.size-1) p).2=Z:=by
   rw[hZe];unfold pV;rw[aI h1,aI h2,hv]
  clear hZe;have hsb:cN v.size 1=v.size-1:=de ay
  have key: ∀(k:Nat) (b:Int) (X:Pool),k=(b+1-n).toNat→ -1≤b→b≤12→aJ X+300*k≤4000000→X.au=p.au→En p (B4 (yB v.cT k b X).1 (bZ p.au s) n) (yB v.cT k b X).2=Z→aa C ig fF 4 0 (nU n (bZ p.au s) b (p.t.aE.map bO) (p.t.nodes.map aQ) (p.aL.map bQ) (p.cells.map bL) (p.au.map cg) p.next X.next (X.t.aE.map bO) (X.t.nodes.map aQ) (X.aL.map bQ) (X.cells.map bL) (X.au.map cg)) (fun x st=>ax C ig fF x st fun r fs=>r=PW Z∧fs=[]):=by
   intro k
   induction k with
   |zero=>
    intro b X hk hb1 hb hX hXv hZ
    have h: ¬n≤b:=by omega
    have hZ:En p (B4 X (bZ p.au s) n) true=Z:=hZ
    have hrx:rowAt (X.au.map cg) (bZ p.au s)=some [iS v.name,iI v.cT,iI v.size,iB v.fx]:=by rw[hXv];exact hrv
    have en:=jy p (B4 X (bZ p.au s) n) true rY (by rw[aeC];omega);have e1:setRow (X.au.map cg) (bZ p.au s) 2 [iI n]=(B4 X (bZ p.au s) n).au.map cg:=Jx;rw[hZ] at en;refine HZ _ _ _ _ _ _ _ _ _ _ _ _ _ _ _ _ (ak (by rw[gj];exact e9 h) (Ty _ _ _ _ _ _ _ _ _ _ _ _ _ _ _ _ _ ?_));rw[e1];exact⟨_,_,_,_,hrx,_,_,_,_,hrx,_,_,_,_,_,_,_,en,rfl,rfl⟩
   |succ k ih=>
    intro b X hk hb1 hb hX hXv hZ
    ·have h:n≤b:=by omega
     have hsub:cN b 1=b-1:=de ay;have hr:=(JI X v.cT b).2.1;have hdz:=zQ X v.cT b;have di:=xg X ay (bZ p.au s) b v (by rw[hXv];exact hv);unfold yB at hZ;rw[show(if(cE X v.cT b).2=true then yB v.cT k (b-1) (cE X v.cT b).1 else(X,false))=if(cE X v.cT b).2=true then yB v.cT k (b-1) (cE X v.cT b).1 else(X,false) from rfl] at hZ;refine HZ _ _ _ _ _ _ _ _ _ _ _ _ _ _ _ _ (ah (by rw[gj];exact fj h) ⟨_,_,_,_,_,_,_,di,?_⟩)
     cases hd:(cE X v.cT b).2 with
     |false=>
      rw[hd] at hZ;have hZ:(p,(6:Int))=Z:=hZ;exact ah rfl ⟨_,_,_,_,_,_,I6,Tx _ _ _ _ _ _ _ _ _ _ _ _ _ _ _ _ _ _ _ ⟨by rw[←hZ],rfl⟩⟩
     |true=>
      rw[hd] at hZ;rw[hsub];exact ak rfl (ih (b-1) (cE X v.cT b).1 ay ay ay ay (by rw[hr];exact hXv) hZ)
  have k0:=key (v.size-n).toNat (v.size-1) p ay ay ay ay rfl hZ;rw[←hsb] at k0;exact bM
 ·have c1:cn (g8 p s 0) 0=false:=by rw[bD];exact e9 h1
  have c2:(!cn (g8 p s 0) 0)=true:=by rw[c1];rfl
  have e:Z=(p,g8 p s 0):=by rw[hZe];unfold pV;rw[aF h1]
  rw[e];exact bM
theorem GA (p:Pool) (hS:aJ p≤4194304) (i:Int):an C iU [cY p,vI i] (uE (jQ p i)) []:=by
 have hP:=cC hS;have htl:=fh p.t;refine(ZS _ _ _ _ _ _ _ _ ⟨_,j5 p.t ay,?_⟩).run
 have key:((aD p.t).drop 0).find? (pG i)=(aD p.t).find? (pG i)→aa C iU ai 4 0 (nY i ((0:Nat):Int) ((aD p.t).map bP)) (fun x st=>ax C iU ai x st fun r fs=>r=uE (jQ p i)∧fs=[]):=by
  refine aZ (aD p.t) (fun j=>((aD p.t).drop j).find? (pG i)=(aD p.t).find? (pG i)→aa C iU ai 4 0 (nY i (j:Int) ((aD p.t).map bP)) (fun x st=>ax C iU ai x st fun r fs=>r=uE (jQ p i)∧fs=[])) ?_ ?_
  ·intro h0
   rw[eu] at h0;exact Iq _ _ _ _ (ak cW (Uh _ _ _ _ _ ⟨by unfold jQ;rw[←h0];rfl,rfl⟩))
  ·intro j a hj ha hd ht hn h0
   rw[hd,List.find?_cons] at h0
   have hr:rowAt ((aD p.t).map bP) (j:Int)=some [iI a.b,iI a.a,iI a.k,iI a.c,iI a.g]:=by rw[aR,aH,ha];rfl
   have tH:aA (j:Int) 1=(j:Int)+1:=aG ay;refine Iq _ _ _ _ (ah rQ ⟨_,_,_,_,_,hr,_,_,_,_,_,hr,?_⟩);rw[tH]
   by_cases h1:a.k=1
   ·refine ah (by rw[bD];exact fj h1) ⟨_,_,_,_,_,hr,_,_,_,_,_,hr,?_⟩
    by_cases h2:a.c=i
    ·have ho:pG i a=true:=by unfold pG;simp[h1,h2]
     rw[ho] at h0;exact ah (by rw[bD];exact fj h2) ⟨_,_,_,_,_,hr,_,_,_,_,_,hr,Ug _ _ _ _ _ _ _ ⟨by unfold jQ;rw[←h0],rfl⟩⟩
    ·have ho:pG i a=false:=by unfold pG;simp[h2]
     rw[ho] at h0;exact ak (by rw[bD];exact e9 h2) (hn h0)
   ·have ho:pG i a=false:=by unfold pG;simp[h1]
    rw[ho] at h0;exact ak (by rw[bD];exact e9 h1) (hn h0)
 exact key rfl
theorem wC {p:Pool} {i:Int} {c:Cell} (hc:ff p.cells i=some c) (h: ¬(c.u=true∧0≤fe p.cells∧fe p.cells≤i)):jI p i=(p,false):=by
 unfold jI
 split
 ·rw[hc];exact aF h
 ·rfl
theorem Oj {p:Pool} {i:Int} {c:Cell} (hp:cZ p=true) (hc:ff p.cells i=some c) (h:c.u=true∧0≤fe p.cells∧fe p.cells≤i):jI p i=Gq p (Gp p i c.n):=by
 unfold jI;rw[aI hp,hc];exact aI h
theorem Ok {p:Pool} {i:Int} (hc:ff p.cells i=none):jI p i=(p,false):=by
 unfold jI
 split
 ·rw[hc]
 ·rfl
theorem Ol {p:Pool} {i:Int} (hp:cZ p=false):jI p i=(p,false):=by
 unfold jI;rw[aF (by rw[hp];simp)]
theorem tr {p:Pool} {x:Pool×Bool} (h:x.2=false):Gq p x=(p,false):=by
 unfold Gq;rw[aF fun e=>by rw[h] at e;cases e.1]
theorem rM {p:Pool} {x:Pool×Bool} (h:cZ x.1=false):Gq p x=(p,false):=by
 unfold Gq;rw[aF fun e=>by rw[h] at e;cases e.2]
theorem rN {p:Pool} {x:Pool×Bool} (h1:x.2=true) (h2:cZ x.1=true):Gq p x=(x.1,true):=by
 unfold Gq;rw[aI ⟨h1,h2⟩]
theorem WX {p:Pool} {i:Int} {c:Cell} (hp:cZ p=true) (hc:ff p.cells i=some c):iC c.n=true:=by
 have h:=wY hp;simp only[eJ,eX] at h;have:=List.all_eq_true.1 h.1 c (Ek hc);simp only[kH,eX] at this;exact this.2.1
theorem ain {p:Pool} (hp:cZ p=true):p.cells.length=24:=by
 have h:=wY hp;simp only[eJ,eX,decide_eq_true_eq] at h;exact h.2
theorem Om (p:Pool) (i:Int) (hS:aJ p≤1048576):an C DI [cY p,vI i] (tPB (jI p i)) []:=by
 have Ll:aJ p≤4194304:=by omega
 have hP:=cC Ll;have htl:=fh p.t;have I6:=cz p Ll;have hok:=gL p Ll;have hin:=tj i 0 ((p.cells.length:Int)-1)
 have hsl:cN (Int.ofNat (p.cells.map bL).length) 1=(p.cells.length:Int)-1:=by rw[bX];exact de rQ
 rw[←hsl] at hin;refine(Ta _ _ _ _ _ _ _ _ ?_).run
 cases hg:cZ p with
 |false=>
  rw[hg] at hok;rw[Ol hg];exact bM
 |true=>
 rw[hg] at hok
 cases hc:ff p.cells i with
 |none=>
  have h1:iA i 0 (cN (Int.ofNat (p.cells.map bL).length) 1)=false:=by
   rw[hsl];unfold iA;refine e9 fun h=> ?_
   obtain⟨a,ha⟩:=mg (l:=p.cells) h.1 ay;rw[hc] at ha;cases ha
  rw[h1] at hin;rw[Ok hc];exact bM
 |some c=>
  have hi:0≤i∧i<p.cells.length:=Classical.byContradiction fun hn=>by rw[gD hn] at hc;cases hc
  have h1:iA i 0 (cN (Int.ofNat (p.cells.map bL).length) 1)=true:=by rw[hsl];unfold iA;exact fj ay
  rw[h1] at hin
  have hrc:rowAt (p.cells.map bL) i=some [iI c.g,iB c.u,iI c.n]:=by rw[aR,hc];rfl
  cases hu:c.u with
  |false=>
   rw[hu] at hrc;rw[wC hc fun h=>by rw[hu] at h;cases h.1];exact bM
  |true=>
  rw[hu] at hrc;have tk:=Cg p.cells c.n ay;have hk:=GA p Ll i
  by_cases hf:0≤fe p.cells
  ·have uC:=wU ⟨wY hg,WX hg hc,hf⟩
   obtain⟨cs,hcs⟩: ∃cs,cs=p.cells.modify (fe p.cells).toNat (fun d=>⟨d.g,true,c.n⟩):=⟨_,rfl⟩;rw[←hcs] at uC
   have hcl:cs.length=p.cells.length:=by rw[hcs,RT]
   obtain⟨d,hd,agH⟩:=zY uC
   have hrd:rowAt (cs.map bL) (fe p.cells)=some [iI d.g,iB d.u,iI d.n]:=by rw[aR,hd];rfl
   clear hcs;rw[uC] at tk
   by_cases hle:fe p.cells≤i
   ·have cl:bK i (fe p.cells)=false:=by rw[dh];exact e9 ay
    rw[Oj hg hc ⟨hu,hf,hle⟩];have tp:=tU p.t (r8 p i c.n) ay;have fc:=Cc cs i ay;have hk:=GA p Ll i
    have hmk:r8 p i c.n=⟨(jQ p i).b,(jQ p i).a,(jQ p i).k,fe p.cells,d.g⟩:=by unfold r8;rw[uC];simp only[];rw[agH]
    have hX:Gp p i c.n=(⟨(bw p.t (r8 p i c.n)).1,p.aL,jW cs i,p.au,p.next⟩,(bw p.t (r8 p i c.n)).2):=by unfold Gp;rw[uC]
    have hsz:=vP p.t (r8 p i c.n)
    have hXs:aJ (Gp p i c.n).1≤4194304:=by
     have h1:=FN cs i;rw[hX];unfold aJ at hS ⊢;simp only[];omega
    have pk2:=gL (Gp p i c.n).1 hXs;rw[hmk] at tp hX;obtain⟨T,b,hT⟩: ∃T b,bw p.t ⟨(jQ p i).b,(jQ p i).a,(jQ p i).k,fe p.cells,d.g⟩=(T,b):=⟨_,_,rfl⟩;rw[hT] at tp hX
    cases b with
    |false=>
     rw[tr (by rw[hX])];exact bM
    |true=>
     cases hg:cZ (Gp p i c.n).1 with
     |false=>
      rw[rM hg];rw[hg,hX] at pk2;exact bM
     |true=>
      rw[rN (by rw[hX]) hg,hX];rw[hg,hX] at pk2;exact bM
   ·have cl:bK i (fe p.cells)=true:=by rw[dh];exact fj ay
    rw[wC hc fun h=>hle h.2.2];exact bM
  ·rw[qt fun h=>hf h.2.2] at tk
   rw[wC hc fun h=>hf h.2.1];exact bM
theorem On (p:Pool) (i:Int) (hS:aJ p≤1048576):an C fu [cY p,vI i] (tPB (jI p i)) []:=by
 have Ll:aJ p≤4194304:=by omega
 have hP:=cC Ll;have htl:=fh p.t;have I6:=bJ p Ll;have hok:=e8 p Ll;have hin:=nG i 0 23;have hfr:=Gw p.cells ay;refine(Tw _ _ _ _ _ _ _ _ ?_).run
 cases hg:cZ p with
 |false=>
  rw[hg] at hok;rw[Ol hg];exact bM
 |true=>
 rw[hg] at hok;have h24:=ain hg
 cases hc:ff p.cells i with
 |none=>
  have h1:iA i 0 23=false:=by
   unfold iA;refine e9 fun h=> ?_
   obtain⟨a,ha⟩:=mg (l:=p.cells) h.1 ay;rw[hc] at ha;cases ha
  rw[h1] at hin;rw[Ok hc];exact bM
 |some c=>
  have hi:0≤i∧i<p.cells.length:=Classical.byContradiction fun hn=>by rw[gD hn] at hc;cases hc
  have h1:iA i 0 23=true:=by unfold iA;exact fj ay
  rw[h1] at hin
  have hrc:rowAt (p.cells.map bL) i=some [iI c.g,iB c.u,iI c.n]:=by rw[aR,hc];rfl
  cases hu:c.u with
  |false=>
   rw[hu] at hrc;rw[wC hc fun h=>by rw[hu] at h;cases h.1];exact bM
  |true=>
  rw[hu] at hrc
  by_cases hf:0≤fe p.cells
  ·have cf:bK (fe p.cells) 0=false:=by rw[dh];exact e9 ay
   by_cases hle:fe p.cells≤i
   ·have cl:bK i (fe p.cells)=false:=by rw[dh];exact e9 ay
    have tk:=Ce p.cells c.n ay;have uC:=wU ⟨wY hg,WX hg hc,hf⟩;obtain⟨cs,hcs⟩: ∃cs,cs=p.cells.modify (fe p.cells).toNat (fun d=>⟨d.g,true,c.n⟩):=⟨_,rfl⟩;rw[←hcs] at uC
    have hcl:cs.length=p.cells.length:=by rw[hcs,RT]
    obtain⟨d,hd,agH⟩:=zY uC
    have hrd:rowAt (cs.map bL) (fe p.cells)=some [iI d.g,iB d.u,iI d.n]:=by rw[aR,hd];rfl
    clear hcs;rw[uC] at tk;obtain⟨Z,hZ⟩: ∃Z,Z=jI p i:=⟨_,rfl⟩;rw[←hZ];rw[Oj hg hc ⟨hu,hf,hle⟩] at hZ
    have hmk:r8 p i c.n=⟨(jQ p i).b,(jQ p i).a,(jQ p i).k,fe p.cells,d.g⟩:=by unfold r8;rw[uC];simp only[];rw[agH]
    have hX:Gp p i c.n=(⟨(bw p.t (r8 p i c.n)).1,p.aL,jW cs i,p.au,p.next⟩,(bw p.t (r8 p i c.n)).2):=by unfold Gp;rw[uC]
    have tp:=tT p.t (r8 p i c.n) ay;have fc:=Cd cs i ay;have hsz:=vP p.t (r8 p i c.n)
    have hXs:aJ (Gp p i c.n).1≤4194304:=by
     have h1:=FN cs i;rw[hX];unfold aJ at hS ⊢;simp only[];omega
    have pk2:=e8 (Gp p i c.n).1 hXs;rw[hmk] at tp hX;obtain⟨Tn,bn,hT⟩: ∃T b,bw p.t ⟨(jQ p i).b,(jQ p i).a,(jQ p i).k,fe p.cells,d.g⟩=(T,b):=⟨_,_,rfl⟩;rw[hT] at tp hX;obtain⟨m,hm,hmo,hmu⟩:=agf (af9 hg) hc hu;obtain⟨hml,_⟩:=List.getElem?_eq_some_iff.1 hm
    have fin:bn=true→ ∀T:Tree,T=Tn→ax C fu fF (TX.ex 0) (xj i (fe p.cells) (Int.ofNat (List.length ((aD p.t).map bP))) ((aD p.t).length:Int) (bK ((aD p.t).length:Int) (Int.ofNat (List.length ((aD p.t).map bP)))) (p.t.aE.map bO) (p.t.nodes.map aQ) (p.aL.map bQ) (p.cells.map bL) (p.au.map cg) p.next p.next (cs.map bL) ((aD p.t).map bP) (T.aE.map bO) (T.nodes.map aQ) (p.aL.map bQ) (p.cells.map bL) (p.au.map cg)) fun r fs=>r=tPB Z∧fs=[]:=by
     intro hb T hTe;subst hTe hb;refine OE _ _ _ _ _ _ _ _ _ _ _ _ _ _ _ _ _ _ _ _ ⟨_,fc,?_⟩
     cases hgx:cZ (Gp p i c.n).1 with
     |false=>
      rw[rM hgx] at hZ;rw[hgx,hX] at pk2;exact⟨_,pk2,ah rfl ⟨_,_,_,_,_,_,I6,by rw[hZ],rfl⟩⟩
     |true=>
      rw[rN (by rw[hX]) hgx,hX] at hZ;rw[hgx,hX] at pk2;exact⟨_,pk2,ak rfl ⟨by rw[hZ],rfl⟩⟩
    have key: ∀T:Tree,(0≤m→T=p.t)→(m<0→T=Tn∧bn=true)→aa C fu fF 4 0 (j8 i (fe p.cells) ((aD p.t).map bP) ((0:Nat):Int) (p.t.aE.map bO) (p.t.nodes.map aQ) (p.aL.map bQ) (p.cells.map bL) (p.au.map cg) p.next p.next (cs.map bL) (T.aE.map bO) (T.nodes.map aQ) (p.aL.map bQ) (p.cells.map bL) (p.au.map cg)) (fun x st=>ax C fu fF x st fun r fs=>r=tPB Z∧fs=[]):=by
     refine aZ (aD p.t) (fun j=> ∀T:Tree,(j≤m→T=p.t)→(m<j→T=Tn∧bn=true)→aa C fu fF 4 0 (j8 i (fe p.cells) ((aD p.t).map bP) (j:Int) (p.t.aE.map bO) (p.t.nodes.map aQ) (p.aL.map bQ) (p.cells.map bL) (p.au.map cg) p.next p.next (cs.map bL) (T.aE.map bO) (T.nodes.map aQ) (p.aL.map bQ) (p.cells.map bL) (p.au.map cg)) (fun x st=>ax C fu fF x st fun r fs=>r=tPB Z∧fs=[])) ?_ ?_
     ·intro T h1 h2
      have h2:=h2 hml;exact C4 _ _ _ _ _ _ _ _ _ _ _ _ _ _ _ _ _ _ (ak cW (fin h2.2 T h2.1))
     ·intro j a hj ha hd2 ht hn T h1 h2
      have hr:rowAt ((aD p.t).map bP) (j:Int)=some [iI a.b,iI a.a,iI a.k,iI a.c,iI a.g]:=by rw[aR,aH,ha];rfl
      have tH:aA (j:Int) 1=(j:Int)+1:=aG ay;refine C4 _ _ _ _ _ _ _ _ _ _ _ _ _ _ _ _ _ _ (ah rQ ⟨_,_,_,_,_,hr,_,_,_,_,_,hr,?_⟩);rw[tH]
      by_cases hjm:j=m
      ·have hak:a=jQ p i:=by rw[hjm,hm] at ha;exact(Option.some.inj ha).symm
       subst hak;unfold pG at hmo;simp only[eX,decide_eq_true_eq] at hmo;refine ah (by rw[bD];exact fj hmo.1) (ah (by rw[bD];exact fj hmo.2) ⟨_,_,_,hrd,_,_,_,hrd,_,_,_,tp,?_⟩)
       cases hb:bn with
       |false=>
        rw[tr (by rw[hX,hb])] at hZ;exact ah rfl ⟨_,_,_,_,_,_,I6,OD _ _ _ _ _ _ _ _ _ _ _ _ _ _ _ _ _ _ _ _ _ _ _ _ _ _ _ _ ⟨by rw[hZ],rfl⟩⟩
       |true=>exact ak rfl (hn Tn (fun h=>by omega) (fun _=>⟨rfl,hb⟩))
      ·have hno:pG i a=false:=by
        cases ho:pG i a with
        |false=>rfl
        |true=>exact absurd (hmu j a ha ho) hjm
       have hgo:=hn T (fun h=>h1 ay) (fun h=>h2 ay);unfold pG at hno
       by_cases ha1:a.k=1
       ·have ha2: ¬a.c=i:=fun e=>by simp[ha1,e] at hno
        exact ah (by rw[bD];exact fj ha1) (ak (by rw[bD];exact e9 ha2) hgo)
       ·exact ak (by rw[bD];exact e9 ha1) hgo
    have k0:=key p.t (fun _=>rfl) (fun h=>by omega);have hkk:=j6 p.t ay;exact bM
   ·have cl:bK i (fe p.cells)=true:=by rw[dh];exact fj ay
    rw[wC hc fun h=>hle h.2.2];exact bM
  ·have cf:bK (fe p.cells) 0=true:=by rw[dh];exact fj ay
   rw[wC hc fun h=>hf h.2.1];exact bM
theorem Sn {l:List Age} {id:Int} {a:Age} (h:gU l=true) (ha:ff l (fk l id)=some a):vQ l id=((pH l id a.fr).take (fk l id).toNat++(pH l id a.fr).drop ((fk l id).toNat+1),true):=by
 unfold vQ;rw[aI h,ha]
theorem So {l:List Age} {id:Int} (ha:ff l (fk l id)=none):vQ l id=(l,false):=by
 unfold vQ
 split
 ·rw[ha]
 ·rfl
theorem WY {l:List Age} {id:Int} (h:gU l=false):vQ l id=(l,false):=by
 unfold vQ;rw[aF (by rw[h];simp)]
theorem WZ {α:Type} (f:α→α): ∀(l1:List α) (x:α) (l2:List α),(l1++x::l2).modify l1.length f=l1++f x::l2
 |[],x,l2=>List.modify_zero_cons _ _ _
 |a::r,x,l2=>by rw[RS,fW,List.modify_succ_cons,WZ f r x l2];rfl
theorem agt {l:List Age} {id fr:Int} {j:Nat} {x:Age} (h:l[j]?=some x):(pH l id fr)[j]?=some (if x.fr=id then {x with fr:=fr} else x):=by
 unfold pH;rw[lW,h];rfl
theorem SY (l:List Age) (id:Int) (hl:l.length≤1073741800):an C fm [gx l,vI id] (TV.tu [(0,[TC.sub 2 ((vQ l id).1.map bQ)]),(0,[iB (vQ l id).2])]) []:=by
 have hat:=qb l id ay;have hok:an C dD [gx l] (vB (gU l)) []:=yU l ay
 have I6:(bR (l.map bQ)&&fits (Nat.add 0 (List.length (l.map bQ))) 16)=true:=by rw[z7,cO rQ];rfl
 refine(Zv _ _ _ ?_).run
 by_cases h1:fk l id<0
 ·have cl:bK (fk l id) 0=true:=by rw[dh];exact fj h1
  rw[So (gD ay)];exact bM
 ·have cl:bK (fk l id) 0=false:=by rw[dh];exact e9 h1
  cases hg:gU l with
  |false=>
   rw[hg] at hok;rw[WY hg];exact bM
  |true=>
   rw[hg] at hok;obtain⟨a,ha,_⟩:=K1 l id h1;rw[Sn hg ha];have hlt:=aef l id;obtain⟨k,hk⟩: ∃k:Nat,fk l id=k:=⟨(fk l id).toNat,by omega⟩;rw[hk] at hat ha cl hlt ⊢;rw[lV]
   have hra:rowAt (l.map bQ) (k:Int)=some [iI a.id,iI a.fr]:=by rw[aR,ha];rfl
   obtain⟨W,hW⟩: ∃W,W=pH l id a.fr:=⟨_,rfl⟩
   have hWl:W.length=l.length:=by rw[hW];exact FR _ _ _
   rw[←hW];obtain⟨U,hU⟩: ∃U,U=W.take k++W.drop (k+1):=⟨_,rfl⟩
   have hUl:U.length≤l.length:=by rw[hU,cF,eO,iR];omega
   rw[←hU]
   have key: ∀acc:List Age,acc++(if 0≤k then(W.drop 0).take (k-0)++W.drop (k+1) else W.drop 0)=U→aa C fm bN 4 0 (iw (l.map bQ) id (k:Int) ((0:Nat):Int) (acc.map bQ)) (fun x st=>ax C fm bN x st fun r fs=>r=(TV.tu [(0,[TC.sub 2 (U.map bQ)]),(0,[iB true])])∧fs=[]):=by
    refine aZ l (fun j=> ∀acc:List Age,acc++(if j≤k then(W.drop j).take (k-j)++W.drop (k+1) else W.drop j)=U→aa C fm bN 4 0 (iw (l.map bQ) id (k:Int) (j:Int) (acc.map bQ)) (fun x st=>ax C fm bN x st fun r fs=>r=(TV.tu [(0,[TC.sub 2 (U.map bQ)]),(0,[iB true])])∧fs=[])) ?_ ?_
    ·intro acc h0
     have hk2: ¬l.length≤k:=by omega
     rw[aF hk2,←hWl,eu,qm] at h0;exact H8 _ _ _ _ _ _ (ak cW (TK _ _ _ _ _ _ _ ⟨by rw[h0],rfl⟩))
    ·intro j x hj hx hd ht hn acc h0
     have hlen:=congrArg List.length h0;rw[cF] at hlen
     have hr:rowAt (l.map bQ) (j:Int)=some [iI x.id,iI x.fr]:=by rw[aR,aH,hx];rfl
     have tH:aA (j:Int) 1=(j:Int)+1:=aG ay;have hw:=agt (id:=id) (fr:=a.fr) hx;rw[←hW] at hw
     obtain⟨y,hy⟩: ∃y:Age,y=if x.fr=id then {x with fr:=a.fr} else x:=⟨_,rfl⟩
     rw[←hy] at hw;obtain⟨hjw,hwe⟩:=List.getElem?_eq_some_iff.1 hw
     have hdw:W.drop j=y::W.drop (j+1):=by rw[Gi hjw,hwe]
     have nx: ¬j=k→aa C fm bN 4 0 (iw (l.map bQ) id (k:Int) ((j:Int)+1) ((acc++[y]).map bQ)) (fun x st=>ax C fm bN x st fun r fs=>r=(TV.tu [(0,[TC.sub 2 (U.map bQ)]),(0,[iB true])])∧fs=[]):=by
      intro hne;refine hn (acc++[y]) ?_;rw[←h0]
      by_cases h:j≤k
      ·rw[aI h,aI ay,hdw,show k-j=(k-(j+1))+1 from by omega,List.take_succ_cons];simp
      ·rw[aF h,aF ay,hdw];simp
     have sk:j=k→aa C fm bN 4 0 (iw (l.map bQ) id (k:Int) ((j:Int)+1) (acc.map bQ)) (fun x st=>ax C fm bN x st fun r fs=>r=(TV.tu [(0,[TC.sub 2 (U.map bQ)]),(0,[iB true])])∧fs=[]):=by
      intro he;refine hn acc ?_;rw[←h0,he,aI (cV _),aF ay,qP,List.take_zero,xB]
     refine H8 _ _ _ _ _ _ (ah rQ ⟨_,_,hr,?_⟩);rw[tH]
     have hfit: ∀u v:Int,(bR [[iI u,iI v]]&&fits (Nat.succ (List.length (acc.map bQ))) 16)=true:=fun u v=>by rw[vM,cO rQ];rfl
     by_cases hf:x.fr=id
     ·rw[aI hf] at hy
      subst hy;refine ah (by rw[bD];exact fj hf) ⟨_,_,hra,?_⟩;(try dsimp only);rw[BZ]
      by_cases hjk:j=k
      ·exact ak (by rw[bD,hjk];simp) (sk hjk)
      ·exact ah (by rw[bD];simp;omega) (ah (hfit _ _) (nx hjk))
     ·rw[aF hf] at hy
      subst hy;refine ak (by rw[bD];exact e9 hf) ?_;rw[BZ]
      by_cases hjk:j=k
      ·exact ak (by rw[bD,hjk];simp) (sk hjk)
      ·exact ah (by rw[bD];simp;omega) (ah (hfit _ _) (nx hjk))
   have k0:=key [] (by rw[aI (D4 _),xB,List.drop_zero,Nat.sub_zero,hU]);exact bM
theorem W0 (l:List Age) (k:Nat) (hk:k<l.length):an C Ca [gx l,vI (k:Int),vI ((k:Int)+1)] (gx (l.take k++l.drop (k+1))) []:=by
 refine an.ext (p:=akA 2) rfl ?_;unfold akA;simp only[];rw[aI ⟨trivial,by omega,by simp<;>omega,trivial⟩,lV,show((k:Int)+1).toNat=k+1 from by omega];unfold gx;rw[uv,I8,D3]
theorem SZ (l:List Age) (id:Int) (hl:l.length≤1073741800):an C jL [gx l,vI id] (TV.tu [(0,[TC.sub 2 ((vQ l id).1.map bQ)]),(0,[iB (vQ l id).2])]) []:=by
 have hat:=w8 l id ay;have I6:=oR l ay;have hok:an C dG [gx l] (vB (gU l)) []:=yW l ay;refine(ZG _ _ _ ?_).run
 by_cases h1:fk l id<0
 ·have cl:bK (fk l id) 0=true:=by rw[dh];exact fj h1
  rw[So (gD ay)];exact bM
 ·have cl:bK (fk l id) 0=false:=by rw[dh];exact e9 h1
  cases hg:gU l with
  |false=>
   rw[hg] at hok;rw[WY hg];exact bM
  |true=>
   rw[hg] at hok;obtain⟨a,ha,_⟩:=K1 l id h1;rw[Sn hg ha];have hlt:=aef l id;obtain⟨k,hk⟩: ∃k:Nat,fk l id=k:=⟨(fk l id).toNat,by omega⟩;rw[hk] at hat ha cl hlt ⊢;rw[lV]
   have hra:rowAt (l.map bQ) (k:Int)=some [iI a.id,iI a.fr]:=by rw[aR,ha];rfl
   have key: ∀M:List Age,M=pH (l.take 0) id a.fr++l.drop 0→aa C jL bN 4 0 (nW (l.map bQ) id (k:Int) (l.map bQ) ((0:Nat):Int) (M.map bQ)) (fun x st=>ax C jL bN x st fun r fs=>r=(TV.tu [(0,[TC.sub 2 (((pH l id a.fr).take k++(pH l id a.fr).drop (k+1)).map bQ)]),(0,[iB true])])∧fs=[]):=by
    refine aZ l (fun j=> ∀M:List Age,M=pH (l.take j) id a.fr++l.drop j→aa C jL bN 4 0 (nW (l.map bQ) id (k:Int) (l.map bQ) (j:Int) (M.map bQ)) (fun x st=>ax C jL bN x st fun r fs=>r=(TV.tu [(0,[TC.sub 2 (((pH l id a.fr).take k++(pH l id a.fr).drop (k+1)).map bQ)]),(0,[iB true])])∧fs=[])) ?_ ?_
    ·intro M hM
     rw[vZ,eu,qm] at hM;subst hM;have hdl:=W0 (pH l id a.fr) k (by rw[FR];omega);have tH:aA (k:Int) 1=(k:Int)+1:=aG ay;rw[←tH] at hdl;exact Ij _ _ _ _ _ _ _ (ak cW (T2 _ _ _ _ _ _ _ _ ⟨_,hdl,rfl,rfl⟩))
    ·intro j x hj hx hd ht hn M hM
     have hml:(pH (l.take j) id a.fr).length=j:=by rw[FR,eO];omega
     have hmj:M[j]?=some x:=by rw[hM,pK ay,hml,qP,hd];rfl
     have hr:rowAt (M.map bQ) (j:Int)=some [iI x.id,iI x.fr]:=by rw[aR,aH,hmj];rfl
     have tH:aA (j:Int) 1=(j:Int)+1:=aG ay
     have hre:pH (l.take (j+1)) id a.fr=pH (l.take j) id a.fr++[if x.fr=id then {x with fr:=a.fr} else x]:=by
      rw[ht];unfold pH;rw[uv];rfl
     refine Ij _ _ _ _ _ _ _ (ah rQ ⟨_,_,hr,_,_,hr,?_⟩);rw[tH]
     by_cases hf:x.fr=id
     ·refine ah (by rw[bD];exact fj hf) ⟨_,_,hra,_,_,hr,_,_,hr,?_⟩
      rw[aa7];refine hn _ ?_;rw[hre,aI hf,hM,hd,lV];have hmm:=WZ (fun z:Age=>{z with fr:=a.fr}) (pH (l.take j) id a.fr) x (l.drop (j+1));rw[hml] at hmm;rw[hmm];simp
     ·refine ak (by rw[bD];exact e9 hf) (hn M ?_)
      rw[hre,aF hf,hM,hd];simp
   have k0:=key l rfl;exact bM
theorem J4 (p:Pool):c6 p=(0,0)∨(∃i k,(c6 p=(1,i)∨c6 p=(2,i))∧ff (aD p.t) i=some k)∨
 (∃i k x,c6 p=(3,i)∧ff (aD p.t) i=some k∧ff (eA p.aL k.a) 0=some x∧Em p k.a=x)∨ ∃i a,c6 p=(4,i)∧ff p.aL i=some a:=by
 unfold c6
 split
 ·split
  ·rename_i h
   obtain⟨k,hk,_⟩:=wT (r7 p 1) (aD p.t) (by unfold mR at h;omega);exact .inr (.inl ⟨_,k,.inl rfl,hk⟩)
  ·split
   ·rename_i h
    obtain⟨k,hk,_⟩:=wT (r7 p 2) (aD p.t) (by unfold mR at h;omega);exact .inr (.inl ⟨_,k,.inr rfl,hk⟩)
   ·split
    ·rename_i h
     obtain⟨k,hk,h3⟩:=wT (r7 p 3) (aD p.t) (by unfold mR at h;omega);have h3:abb p k=true:=h3;unfold abb at h3
     split at h3
     ·cases h3
     ·rename_i h0
      have hx: ∃x,ff (eA p.aL k.a) 0=some x∧Em p k.a=x:=by
       unfold Em at h0 ⊢
       split
       ·rename_i hh
        obtain⟨x,hx⟩:=mg (l:=eA p.aL k.a) (i:=0) ay ay;exact⟨x,hx,by rw[hx]⟩
       ·rename_i hh;rw[aF hh] at h0;exact absurd rfl h0
      obtain⟨x,hx1,hx2⟩:=hx;exact .inr (.inr (.inl ⟨_,k,x,rfl,hk,hx1,hx2⟩))
    ·split
     ·rename_i h
      obtain⟨a,ha,_⟩:=wT (u7 p) p.aL (by unfold Me at h;omega);exact .inr (.inr (.inr ⟨_,a,rfl,ha⟩))
     ·exact .inl rfl
 ·exact .inl rfl
theorem aeM (p:Pool) (k:Key):aJ (B5 p k).1≤aJ p+520:=by
 have h1:=vP p.t (fU k);have h2:=vP (bw p.t (fU k)).1 (FT p k);unfold B5 aJ;simp only[];omega
theorem ahu (p:Pool) (id:Int):aJ (Yw p id).1≤aJ p:=by
 have:=agb p.aL id;unfold Yw aJ;simp only[];omega
theorem oS {p:Pool} {j i:Int} {X:Pool×Bool} (h:c6 p=(j,i)) (hj: ¬j=0) (hX:Sj p j i=X):jJ p=Gq p X:=by
 unfold jJ;rw[h,aF hj,hX]
theorem La {p:Pool} {j i:Int} {k:Key} (hj:j=1∨j=2) (hk:ff (aD p.t) i=some k):Sj p j i=dU p (fU k):=by
 unfold Sj Vr;rw[aF ay,aF ay,hk]
theorem W2 {p:Pool} {i:Int} {k:Key} (hk:ff (aD p.t) i=some k):Sj p 3 i=B5 p k:=by
 unfold Sj Vr;rw[aF ay,aI rfl,hk]
theorem abl {p:Pool} {i:Int} {a:Age} (ha:ff p.aL i=some a):Sj p 4 i=Yw p a.id:=by
 unfold Sj;rw[aI rfl,ha]
theorem Et (p:Pool) (hS:aJ p≤4194304) (k:Key):an C zS [.bx (wh p),uE k] (vB (dU p (fU k)).2) [.bx (wh (dU p (fU k)).1)]:=
 (X5 _ _ _ _ _ _ _ _ _ _ _ _ ⟨_,_,_,_,_,_,_,vg p hS (fU k),rfl,by trivial⟩).run
theorem uA (p:Pool) (hS:aJ p≤4194304) (j i:Int) (k:Key) (hj:j=1∨j=2) (hk:ff (aD p.t) i=some k):an C oL [.bx (wh p),vI j,vI i] (vB (dU p (fU k)).2) [.bx (wh (dU p (fU k)).1)]:=by
 have hP:=cC hS;have htl:=fh p.t;have hkk:=j6 p.t ay
 have hrk:rowAt ((aD p.t).map bP) i=some [iI k.b,iI k.a,iI k.k,iI k.c,iI k.g]:=by rw[aR,hk];rfl
 have pk:=nM p hS (fU k);generalize dU p (fU k)=X at*;refine(pX _ _ _ _ _ _ _ _ _ ?_).run
 have c1:cn j 4=false:=by rw[bD];exact e9 ay
 have c2:(!cn j 3)=true:=by rw[bD,e9 ay];rfl
 exact bM
theorem Bw (p:Pool) (hS:aJ p≤4194304) (i:Int) (a:Age) (ha:ff p.aL i=some a):an C oL [.bx (wh p),vI 4,vI i] (vB (Yw p a.id).2) [.bx (wh (Yw p a.id).1)]:=by
 have hP:=cC hS
 have hra:rowAt (p.aL.map bQ) i=some [iI a.id,iI a.fr]:=by rw[aR,ha];rfl
 have ca:=SZ p.aL a.id ay;refine(pX _ _ _ _ _ _ _ _ _ ?_).run;unfold Yw;exact bM
theorem AO (p:Pool) (hS:aJ p≤4194304) (i:Int) (k:Key) (x:Int) (hk:ff (aD p.t) i=some k) (hx:ff (eA p.aL k.a) 0=some x) (he:Em p k.a=x): ∃X:Pool,an C oL [.bx (wh p),vI 3,vI i] (vB (B5 p k).2) [.bx (wh X)]∧((B5 p k).2=true→X=(B5 p k).1):=by
 have hP:=cC hS;have htl:=fh p.t;have hkk:=j6 p.t ay;have hkd:=ve p.aL k.a ay
 have hrk:rowAt ((aD p.t).map bP) i=some [iI k.b,iI k.a,iI k.k,iI k.c,iI k.g]:=by rw[aR,hk];rfl
 have hrx:rowAt ((eA p.aL k.a).map bO) 0=some [iI x]:=by rw[aR,hx];rfl
 have h1:=vP p.t (fU k);have tp:=tT p.t (fU k) ay;have tq:=tT (bw p.t (fU k)).1 (FT p k) ay
 have arx:FT p k=⟨k.b,x,k.k,k.c,k.g⟩:=by unfold FT;rw[he]
 rw[arx] at tq;unfold B5;rw[arx];obtain⟨T,b,hT⟩: ∃T b,bw p.t (fU k)=(T,b):=⟨_,_,rfl⟩;rw[hT] at tp tq ⊢;obtain⟨U,c,hU⟩: ∃U c,bw T ⟨k.b,x,k.k,k.c,k.g⟩=(U,c):=⟨_,_,rfl⟩;simp only[] at tq ⊢;rw[hU] at tq ⊢;simp only[]
 cases b with
 |false=>
  refine⟨p,?_,fun h=>by cases h⟩;refine(pX _ _ _ _ _ _ _ _ _ ?_).run;exact bM
 |true=>
  refine⟨⟨U,p.aL,p.cells,p.au,p.next⟩,?_,fun _=>rfl⟩;refine(pX _ _ _ _ _ _ _ _ _ ?_).run;exact bM
theorem MG (p:Pool) (hS:aJ p≤1048576):an C AB [cY p] (tPB (jJ p)) []:=by
 have Ll:aJ p≤4194304:=by omega
 have hP:=cC Ll;have htl:=fh p.t;have I6:=cz p Ll;have hns:=Ob p Ll;have hkk:=j5 p.t ay;refine(Rq _ _ _ _ _ _ _ ?_).run;rcases J4 p with h0|⟨i,k,hn,hk⟩|⟨i,k,x,hn,hk,hx,he⟩|⟨i,a,hn,ha⟩
 ·have hps:jJ p=(p,false):=by unfold jJ;rw[h0];rfl
  rw[h0] at hns;rw[hps];exact bM
 ·have hrk:rowAt ((aD p.t).map bP) i=some [iI k.b,iI k.a,iI k.k,iI k.c,iI k.g]:=by rw[aR,hk];rfl
  rcases hn with hn|hn
  ·rw[hn] at hns
   have hj:(1:Int)=1∨(1:Int)=2:= .inl rfl;have hps:=oS hn ay rfl;rw[hps];have hsz:=sZ p (fU k);have hrun:=Et p Ll k;rw[La hj hk];generalize dU p (fU k)=X at*;have pk:=gL X.1 ay
   cases hb:X.2 with
   |false=>
    rw[hb] at hrun;rw[tr hb];exact bM
   |true=>
    rw[hb] at hrun
    cases hg:cZ X.1 with
    |false=>
     rw[hg] at pk;rw[rM hg];exact bM
    |true=>
     rw[hg] at pk;rw[rN hb hg];exact bM
  ·rw[hn] at hns
   have hj:(2:Int)=1∨(2:Int)=2:= .inr rfl;have hps:=oS hn ay rfl;rw[hps];have hsz:=sZ p (fU k);have hrun:=Et p Ll k;rw[La hj hk];generalize dU p (fU k)=X at*;have pk:=gL X.1 ay
   cases hb:X.2 with
   |false=>
    rw[hb] at hrun;rw[tr hb];exact bM
   |true=>
    rw[hb] at hrun
    cases hg:cZ X.1 with
    |false=>
     rw[hg] at pk;rw[rM hg];exact bM
    |true=>
     rw[hg] at pk;rw[rN hb hg];exact bM
 ·have hrk:rowAt ((aD p.t).map bP) i=some [iI k.b,iI k.a,iI k.k,iI k.c,iI k.g]:=by rw[aR,hk];rfl
  rw[hn] at hns;have hps:=oS hn ay (W2 hk);have hsz:=aeM p k;have h1:=vP p.t (fU k);have tp:=tU p.t (fU k) ay;have tq:=tU (bw p.t (fU k)).1 (FT p k) ay;have kd:=Gx p Ll k.a;have pk:=gL (B5 p k).1 ay;rw[hps];unfold FT at tq
  cases hb1:(bw p.t (fU k)).2 with
  |false=>
   rw[tr (by unfold B5;simp only[];rw[hb1];rfl)];obtain⟨T,hT⟩: ∃T,bw p.t (fU k)=(T,false):=⟨(bw p.t (fU k)).1,by rw[←hb1]⟩;rw[hT] at tp tq;exact bM
  |true=>
   obtain⟨T,hT⟩: ∃T,bw p.t (fU k)=(T,true):=⟨(bw p.t (fU k)).1,by rw[←hb1]⟩;rw[hT] at tp tq;simp only[] at tq;obtain⟨U,c,hU⟩: ∃U c,bw T ⟨k.b,Em p k.a,k.k,k.c,k.g⟩=(U,c):=⟨_,_,rfl⟩;rw[hU] at tq
   have hM:B5 p k=(⟨U,p.aL,p.cells,p.au,p.next⟩,c):=by unfold B5 FT;rw[hT];simp only[];rw[hU];rfl
   rw[hM] at pk ⊢
   cases c with
   |false=>
    rw[tr rfl];exact bM
   |true=>
    cases hg:cZ ⟨U,p.aL,p.cells,p.au,p.next⟩ with
    |false=>
     rw[rM hg];rw[hg] at pk;exact bM
    |true=>
     rw[rN rfl hg];rw[hg] at pk;exact bM
 ·have hra:rowAt (p.aL.map bQ) i=some [iI a.id,iI a.fr]:=by rw[aR,ha];rfl
  rw[hn] at hns;have hps:=oS hn ay (abl ha);have hrun:=SY p.aL a.id ay;have hsz:=ahu p a.id;have pk:=gL (Yw p a.id).1 ay;rw[hps];unfold Yw at pk ⊢;generalize vQ p.aL a.id=Y at*;obtain⟨Y,b⟩:=Y
  cases b with
  |false=>
   rw[tr rfl];exact bM
  |true=>
   cases hg:cZ ⟨p.t,Y,p.cells,p.au,p.next⟩ with
   |false=>
    rw[rM hg];simp only[] at pk;rw[hg] at pk;exact bM
   |true=>
    rw[rN rfl hg];simp only[] at pk;rw[hg] at pk;exact bM
theorem MH (p:Pool) (hS:aJ p≤1048576):an C AD [cY p] (tPB (jJ p)) []:=by
 have Ll:aJ p≤4194304:=by omega
 have hP:=cC Ll;have htl:=fh p.t;have I6:=bJ p Ll;have hns:=Oc p Ll;have hkk:=j6 p.t ay;refine(RD _ _ _ _ _ _ _ ?_).run;rcases J4 p with h0|⟨i,k,hn,hk⟩|⟨i,k,x,hn,hk,hx,he⟩|⟨i,a,hn,ha⟩
 ·have hps:jJ p=(p,false):=by unfold jJ;rw[h0];rfl
  rw[h0] at hns;rw[hps];exact bM
 ·have hrk:rowAt ((aD p.t).map bP) i=some [iI k.b,iI k.a,iI k.k,iI k.c,iI k.g]:=by rw[aR,hk];rfl
  rcases hn with hn|hn
  ·rw[hn] at hns
   have hj:(1:Int)=1∨(1:Int)=2:= .inl rfl;have hps:=oS hn ay rfl;rw[hps];have hsz:=sZ p (fU k);have hrun:=uA p Ll _ i k hj hk;rw[La hj hk];generalize dU p (fU k)=X at*;have pk:=e8 X.1 ay
   cases hb:X.2 with
   |false=>
    rw[hb] at hrun;rw[tr hb];exact bM
   |true=>
    rw[hb] at hrun
    cases hg:cZ X.1 with
    |false=>
     rw[hg] at pk;rw[rM hg];exact bM
    |true=>
     rw[hg] at pk;rw[rN hb hg];exact bM
  ·rw[hn] at hns
   have hj:(2:Int)=1∨(2:Int)=2:= .inr rfl;have hps:=oS hn ay rfl;rw[hps];have hsz:=sZ p (fU k);have hrun:=uA p Ll _ i k hj hk;rw[La hj hk];generalize dU p (fU k)=X at*;have pk:=e8 X.1 ay
   cases hb:X.2 with
   |false=>
    rw[hb] at hrun;rw[tr hb];exact bM
   |true=>
    rw[hb] at hrun
    cases hg:cZ X.1 with
    |false=>
     rw[hg] at pk;rw[rM hg];exact bM
    |true=>
     rw[hg] at pk;rw[rN hb hg];exact bM
 ·have hrk:rowAt ((aD p.t).map bP) i=some [iI k.b,iI k.a,iI k.k,iI k.c,iI k.g]:=by rw[aR,hk];rfl
  rw[hn] at hns;have hps:=oS hn ay (W2 hk);have hsz:=aeM p k;have pk:=e8 (B5 p k).1 ay;obtain⟨X0,hrun,hX0⟩:=AO p Ll i k x hk hx he;rw[hps];generalize B5 p k=X at*
  cases hb:X.2 with
  |false=>
   rw[hb] at hrun;rw[tr hb];exact bM
  |true=>
   have hX0:=hX0 hb;subst hX0;rw[hb] at hrun
   cases hg:cZ X.1 with
   |false=>
    rw[hg] at pk;rw[rM hg];exact bM
   |true=>
    rw[hg] at pk;rw[rN hb hg];exact bM
 ·have hra:rowAt (p.aL.map bQ) i=some [iI a.id,iI a.fr]:=by rw[aR,ha];rfl
  rw[hn] at hns;have hps:=oS hn ay (abl ha);have hrun:=Bw p Ll i a ha;have hsz:=ahu p a.id;rw[hps];generalize Yw p a.id=X at*;have pk:=e8 X.1 ay
  cases hb:X.2 with
  |false=>
   rw[hb] at hrun;rw[tr hb];exact bM
  |true=>
   rw[hb] at hrun
   cases hg:cZ X.1 with
   |false=>
    rw[hg] at pk;rw[rM hg];exact bM
   |true=>
    rw[hg] at pk;rw[rN hb hg];exact bM
theorem ja {p:Pool} {o:Av} (h:Wp o=true) (hp:cZ p=true):iH p o=
 (if o.kind=1 then yc p o.name o.a else if o.kind=2 then LA p o.name o.to (decide (o.b=1)) else if o.kind=3 then JB p o.name
  else if o.kind=4 then mT p o.name o.a o.b else if o.kind=5 then mN p o.name o.a else if o.kind=6 then pV p o.name o.a
  else if o.kind=7 then wo (jJ p) else if o.kind=8 then wo (qa p o.a) else wo (jI p o.a)):=by
 unfold iH;rw[aI ⟨h,hp⟩]
theorem F9 {p:Pool} {o:Av} (h: ¬(Wp o=true∧cZ p=true)):iH p o=(p,1):=by
 unfold iH;rw[aF h]
theorem abm {o:Av} (h:Wp o=true):o.kind=1∨o.kind=2∨o.kind=3∨o.kind=4∨o.kind=5∨o.kind=6∨o.kind=7∨o.kind=8∨o.kind=9:=by
 unfold Wp iA at h;simp only[eX,decide_eq_true_eq] at h;omega
theorem xY (p:Pool) (o:Av) (hS:aJ p≤1048576) (hk:o.kind=7∨o.kind=8∨o.kind=9):an C FZ [cY p,.ag (DF o)] (tPB (if o.kind=7 then jJ p else if o.kind=8 then qa p o.a else jI p o.a)) []:=by
 have r1:=MG p hS;have r2:=Of p o.a ay;have r3:=Om p o.a hS;obtain⟨k,s,t,a,b⟩:=o;refine(X4 _ _ _ _ _ _ _ _ _ _ _ _ ?_).run;simp only[] at hk r1 r2 r3 ⊢;rcases hk with rfl|rfl|rfl
 ·rw[aI rfl]
  exact bM
 ·rw[aF (by decide),aI rfl]
  exact bM
 ·rw[aF (by decide),aF (by decide)]
  exact bM
theorem J5 (p:Pool) (o:Av) (hS:aJ p≤1048576) (h1:o.name.size≤1048576) (h2:o.to.size≤1048576):an C FV [cY p,.ag (DF o)] (PW (iH p o)) []:=by
 have Ll:aJ p≤4194304:=by omega
 have I6:=cz p Ll;have hop:=YT o ay ay;have hok:=gL p Ll
 cases h3:Wp o with
 |false=>
  rw[h3] at hop;rw[F9 fun h=>by rw[h3] at h;cases h.1];refine(Gf _ _ _ _ _ _ _ _ _ _ _ _ ?_).run;exact bM
 |true=>
 cases h4:cZ p with
 |false=>
  rw[h3] at hop;rw[h4] at hok;rw[F9 fun h=>by rw[h4] at h;cases h.2];refine(Gf _ _ _ _ _ _ _ _ _ _ _ _ ?_).run;exact bM
 |true=>
 rw[h3] at hop;rw[h4] at hok;have hkd:=abm h3;obtain⟨k,s,t,a,b⟩:=o;simp only[] at hkd h1 h2;refine(Gf _ _ _ _ _ _ _ _ _ _ _ _ ?_).run;rcases hkd with rfl|rfl|rfl|rfl|rfl|rfl|rfl|rfl|rfl
 ·have e:iH p ⟨1,s,t,a,b⟩=yc p s a:=by rw[ja h3 h4,aI rfl]
  rw[e];have r:=SR p s a hS h1;exact bM
 ·have e:iH p ⟨2,s,t,a,b⟩=LA p s t (decide (b=1)):=by rw[ja h3 h4,aF (show ¬((2:Int)=1) by decide),aI rfl]
  rw[e];have r:=YX p s t (decide (b=1)) hS h1 h2;rw[←bD] at r ⊢;exact bM
 ·have e:iH p ⟨3,s,t,a,b⟩=JB p s:=by rw[ja h3 h4,aF (show ¬((3:Int)=1) by decide),aF (show ¬((3:Int)=2) by decide),aI rfl]
  rw[e];have r:=YV p s ay ay;exact bM
 ·have e:iH p ⟨4,s,t,a,b⟩=mT p s a b:=by rw[ja h3 h4,aF (show ¬((4:Int)=1) by decide),aF (show ¬((4:Int)=2) by decide),aF (show ¬((4:Int)=3) by decide),aI rfl]
  rw[e];have r:=WV p s a b hS h1;exact bM
 ·have e:iH p ⟨5,s,t,a,b⟩=mN p s a:=by rw[ja h3 h4,aF (show ¬((5:Int)=1) by decide),aF (show ¬((5:Int)=2) by decide),aF (show ¬((5:Int)=3) by decide),aF (show ¬((5:Int)=4) by decide),aI rfl]
  rw[e];have r:=QE p s a hS h1;exact bM
 ·have e:iH p ⟨6,s,t,a,b⟩=pV p s a:=by rw[ja h3 h4,aF (show ¬((6:Int)=1) by decide),aF (show ¬((6:Int)=2) by decide),aF (show ¬((6:Int)=3) by decide),aF (show ¬((6:Int)=4) by decide),aF (show ¬((6:Int)=5) by decide),aI rfl]
  rw[e];have r:=SW p s a hS h1;exact bM
 ·have e:iH p ⟨7,s,t,a,b⟩=wo (jJ p):=by rw[ja h3 h4,aF (show ¬((7:Int)=1) by decide),aF (show ¬((7:Int)=2) by decide),aF (show ¬((7:Int)=3) by decide),aF (show ¬((7:Int)=4) by decide),aF (show ¬((7:Int)=5) by decide),aF (show ¬((7:Int)=6) by decide),aI rfl]
  rw[e];have r:=xY p ⟨7,s,t,a,b⟩ hS cW;rw[aI (show(7:Int)=7 from rfl)] at r;generalize jJ p=Y at*;obtain⟨Y,c⟩:=Y;unfold wo
  cases c with
  |false=>
   rw[aF cW];exact bM
  |true=>
   rw[aI rfl];exact bM
 ·have e:iH p ⟨8,s,t,a,b⟩=wo (qa p a):=by rw[ja h3 h4,aF (show ¬((8:Int)=1) by decide),aF (show ¬((8:Int)=2) by decide),aF (show ¬((8:Int)=3) by decide),aF (show ¬((8:Int)=4) by decide),aF (show ¬((8:Int)=5) by decide),aF (show ¬((8:Int)=6) by decide),aF (show ¬((8:Int)=7) by decide),aI rfl]
  rw[e];have r:=xY p ⟨8,s,t,a,b⟩ hS cW;rw[aF (show ¬((8:Int)=7) by decide),aI (show(8:Int)=8 from rfl)] at r;generalize qa p a=Y at*;obtain⟨Y,c⟩:=Y;unfold wo
  cases c with
  |false=>
   rw[aF cW];exact bM
  |true=>
   rw[aI rfl];exact bM
 ·have e:iH p ⟨9,s,t,a,b⟩=wo (jI p a):=by rw[ja h3 h4,aF (show ¬((9:Int)=1) by decide),aF (show ¬((9:Int)=2) by decide),aF (show ¬((9:Int)=3) by decide),aF (show ¬((9:Int)=4) by decide),aF (show ¬((9:Int)=5) by decide),aF (show ¬((9:Int)=6) by decide),aF (show ¬((9:Int)=7) by decide),aF (show ¬((9:Int)=8) by decide)]
  rw[e];have r:=xY p ⟨9,s,t,a,b⟩ hS cW;rw[aF (show ¬((9:Int)=7) by decide),aF (show ¬((9:Int)=8) by decide)] at r;generalize jI p a=Y at*;obtain⟨Y,c⟩:=Y;unfold wo
  cases c with
  |false=>
   rw[aF cW];exact bM
  |true=>
   rw[aI rfl];exact bM
theorem W3 (p:Pool) (o:Av) (hS:aJ p≤1048576) (h1:o.name.size≤1048576) (h2:o.to.size≤1048576):an C Mo [cY p,.ag (DF o)] (PW (iH p o)) []:=by
 have Ll:aJ p≤4194304:=by omega
 have I6:=bJ p Ll;have hop:=YU o ay ay;have hok:=e8 p Ll
 cases h3:Wp o with
 |false=>
  rw[h3] at hop;rw[F9 fun h=>by rw[h3] at h;cases h.1];refine(Ge _ _ _ _ _ _ _ _ _ _ _ _ ?_).run;exact bM
 |true=>
 cases h4:cZ p with
 |false=>
  rw[h3] at hop;rw[h4] at hok;rw[F9 fun h=>by rw[h4] at h;cases h.2];refine(Ge _ _ _ _ _ _ _ _ _ _ _ _ ?_).run;exact bM
 |true=>
 rw[h3] at hop;rw[h4] at hok;have hkd:=abm h3;obtain⟨k,s,t,a,b⟩:=o;simp only[] at hkd h1 h2;refine(Ge _ _ _ _ _ _ _ _ _ _ _ _ ?_).run;rcases hkd with rfl|rfl|rfl|rfl|rfl|rfl|rfl|rfl|rfl
 ·have e:iH p ⟨1,s,t,a,b⟩=yc p s a:=by rw[ja h3 h4,aI rfl]
  rw[e];have r:=SS p s a hS h1;exact bM
 ·have e:iH p ⟨2,s,t,a,b⟩=LA p s t (decide (b=1)):=by rw[ja h3 h4,aF (show ¬((2:Int)=1) by decide),aI rfl]
  rw[e];have r:=YY p s t (decide (b=1)) hS h1 h2;rw[←bD] at r ⊢;exact bM
 ·have e:iH p ⟨3,s,t,a,b⟩=JB p s:=by rw[ja h3 h4,aF (show ¬((3:Int)=1) by decide),aF (show ¬((3:Int)=2) by decide),aI rfl]
  rw[e];have r:=YW p s ay ay;exact bM
 ·have e:iH p ⟨4,s,t,a,b⟩=mT p s a b:=by rw[ja h3 h4,aF (show ¬((4:Int)=1) by decide),aF (show ¬((4:Int)=2) by decide),aF (show ¬((4:Int)=3) by decide),aI rfl]
  rw[e];have r:=WW p s a b hS h1;exact bM
 ·have e:iH p ⟨5,s,t,a,b⟩=mN p s a:=by rw[ja h3 h4,aF (show ¬((5:Int)=1) by decide),aF (show ¬((5:Int)=2) by decide),aF (show ¬((5:Int)=3) by decide),aF (show ¬((5:Int)=4) by decide),aI rfl]
  rw[e];have r:=QF p s a hS h1;exact bM
 ·have e:iH p ⟨6,s,t,a,b⟩=pV p s a:=by rw[ja h3 h4,aF (show ¬((6:Int)=1) by decide),aF (show ¬((6:Int)=2) by decide),aF (show ¬((6:Int)=3) by decide),aF (show ¬((6:Int)=4) by decide),aF (show ¬((6:Int)=5) by decide),aI rfl]
  rw[e];have r:=SX p s a hS h1;exact bM
 ·have e:iH p ⟨7,s,t,a,b⟩=wo (jJ p):=by rw[ja h3 h4,aF (show ¬((7:Int)=1) by decide),aF (show ¬((7:Int)=2) by decide),aF (show ¬((7:Int)=3) by decide),aF (show ¬((7:Int)=4) by decide),aF (show ¬((7:Int)=5) by decide),aF (show ¬((7:Int)=6) by decide),aI rfl]
  rw[e];have r:=MH p hS
  skip
  generalize jJ p=Y at*;obtain⟨Y,c⟩:=Y;unfold wo
  cases c with
  |false=>
   rw[aF cW];exact bM
  |true=>
   rw[aI rfl];exact bM
 ·have e:iH p ⟨8,s,t,a,b⟩=wo (qa p a):=by rw[ja h3 h4,aF (show ¬((8:Int)=1) by decide),aF (show ¬((8:Int)=2) by decide),aF (show ¬((8:Int)=3) by decide),aF (show ¬((8:Int)=4) by decide),aF (show ¬((8:Int)=5) by decide),aF (show ¬((8:Int)=6) by decide),aF (show ¬((8:Int)=7) by decide),aI rfl]
  rw[e];have r:=Oi p a ay
  skip
  generalize qa p a=Y at*;obtain⟨Y,c⟩:=Y;unfold wo
  cases c with
  |false=>
   rw[aF cW];exact bM
  |true=>
   rw[aI rfl];exact bM
 ·have e:iH p ⟨9,s,t,a,b⟩=wo (jI p a):=by rw[ja h3 h4,aF (show ¬((9:Int)=1) by decide),aF (show ¬((9:Int)=2) by decide),aF (show ¬((9:Int)=3) by decide),aF (show ¬((9:Int)=4) by decide),aF (show ¬((9:Int)=5) by decide),aF (show ¬((9:Int)=6) by decide),aF (show ¬((9:Int)=7) by decide),aF (show ¬((9:Int)=8) by decide)]
  rw[e];have r:=On p a hS
  skip
  generalize jI p a=Y at*;obtain⟨Y,c⟩:=Y;unfold wo
  cases c with
  |false=>
   rw[aF cW];exact bM
  |true=>
   rw[aI rfl];exact bM
theorem Sp (X:Pool) (o:Av) (l:List Av):applyN X (o::l)=applyN (iH X o).1 l:=rfl
attribute [local semireducible] Dv in
theorem am4 (l:List Av):aC (l.map DF) 0 (Dv (Int.ofNat (List.length (l.map DF))) 200)=(l.take 200).map DF∧gf 0 (Dv (Int.ofNat (List.length (l.map DF))) 200) (Int.ofNat (List.length (l.map DF)))=true:=by
 rw[bX]
 have hm:Dv (Int.ofNat l.length) 200=((min l.length 200:Nat):Int):=by
  unfold Dv;rw[lU]
  split<;>omega
 rw[hm,cJ,Jw];refine⟨?_,fj (by simp only[lU];omega)⟩;rw[lV,show(0:Int).toNat=0 from rfl,List.drop_zero]
 by_cases h:l.length≤200
 ·rw[Nl ay,Nl h]
 ·rw[show min l.length 200=200 from by omega]
theorem Oo (p:Pool) (l:List Av) (hS:aJ p≤1048576) (hl:l.length≤1048576) (hL: ∀o∈l,o.name.size≤1048576∧o.to.size≤1048576):an C fq [cY p,Wk l] (cY (AA p l)) []:=by
 unfold AA;obtain⟨Z,hZe⟩: ∃Z,Z=applyN p (l.take 200):=⟨_,rfl⟩;rw[←hZe];have hml:(l.take 200).length=min 200 l.length:=eO ..
 have key: ∀(d j:Nat) (X:Pool),j+d=(l.take 200).length→aJ X≤1048576→applyN X ((l.take 200).drop j)=Z→aa C fq ai 4 0 (sy (l.map DF) (j:Int) (X.t.aE.map bO) (X.t.nodes.map aQ) (X.aL.map bQ) (X.cells.map bL) (X.au.map cg) X.next) (fun x st=>ax C fq ai x st fun r fs=>r=cY Z∧fs=[]):=by
  intro d
  induction d with
  |zero=>
   intro j X hj hX hZ;rw[Lm ay] at hZ;have hZ':X=Z:=hZ
   ·by_cases D0:j<l.length
    ·exact xu _ _ _ _ _ _ _ _ _ (ah (by rw[dh,bX];exact fj (by simp only[lU];omega)) (ak (by rw[dh];exact e9 ay) (O5 _ _ _ _ _ _ _ _ _ ⟨by rw[hZ'],rfl⟩)))
    ·exact xu _ _ _ _ _ _ _ _ _ (ak (by rw[dh,bX];exact e9 (by simp only[lU];omega)) (O6 _ _ _ _ _ _ _ _ _ ⟨by rw[hZ'],rfl⟩))
  |succ d ih=>
   intro j X hj hX hZ;obtain⟨o,ho⟩: ∃o,l[j]?=some o:=⟨_,ck ay⟩
   have ho2:(l.take 200)[j]?=some o:=by rw[Bz,aI ay];exact ho
   obtain⟨hjl,hje⟩:=List.getElem?_eq_some_iff.1 ho2;rw[Gi hjl,hje,Sp] at hZ;have hon:=hL o (gP ho)
   have hro:rowAt (l.map DF) (j:Int)=some [iI o.kind,iS o.name,iS o.to,iI o.a,iI o.b]:=by rw[aR,aH,ho];rfl
   have ra:=J5 X o hX hon.1 hon.2;have hsz:=K4 X o;refine xu _ _ _ _ _ _ _ _ _ (ah (by rw[dh,bX];exact fj (by simp only[lU];omega)) (ah (by first|rfl|(rw[dh];exact fj ay)) ⟨_,_,_,_,_,hro,_,_,_,_,_,_,_,ra,?_⟩))
   have tH:aA (j:Int) 1=((j+1:Nat):Int):=by rw[aG ay];omega
   rw[tH];exact ih (j+1) (iH X o).1 ay ay hZ
 have k0: ∀X:Pool,aJ X≤1048576→applyN X (l.take 200)=Z→aa C fq ai 4 0 (xo (l.map DF) (X.t.aE.map bO) (X.t.nodes.map aQ) (X.aL.map bQ) (X.cells.map bL) X.next (X.au.map cg)) (fun x st=>ax C fq ai x st fun r fs=>r=cY Z∧fs=[]):=by
  intro X hX hZ;obtain⟨j,hj0⟩: ∃j:Nat,j=0:=⟨0,rfl⟩
  cases hlc:l with
  |nil=>
   rw[←hlc];rw[hlc] at hZ;have hZ':X=Z:=hZ;exact Dm _ _ _ _ _ _ _ _ (ak (by rw[dh,bX,hlc];rfl) (O4 _ _ _ _ _ _ _ _ ⟨by rw[hZ'],rfl⟩))
  |cons o r=>
   rw[←hlc]
   have ho:l[0]?=some o:=by rw[hlc];rfl
   have hpos:0<l.length:=by rw[hlc];simp
   have hon:=hL o (gP ho)
   have hro:rowAt (l.map DF) 0=some [iI o.kind,iS o.name,iS o.to,iI o.a,iI o.b]:=by
    have:=aR DF l ((0:Nat):Int);rw[aH,ho] at this;exact this
   have ra:=J5 X o hX hon.1 hon.2;have hsz:=K4 X o
   have hd:applyN (iH X o).1 ((l.take 200).drop 1)=Z:=by rw[←hZ,hlc];rfl
   refine Dm _ _ _ _ _ _ _ _ (ah (by rw[dh,bX];exact fj (by simp only[lU];omega)) (ah (by first|rfl|(rw[dh];exact fj ay)) ⟨_,_,_,_,_,hro,_,_,_,_,_,_,_,ra,?_⟩));rw[show aA 0 1=((1:Nat):Int) from by rw[aG ay];rfl];exact key ((l.take 200).length-1) 1 (iH X o).1 ay ay hd
 exact(UB _ _ _ _ _ _ _ _ ⟨_,_,_,_,_,_,cz p ay,k0 p hS hZe.symm⟩).run
theorem Cj (p:Pool) (l:List Av) (hS:aJ p≤1048576) (hl:l.length≤1048576) (hL: ∀o∈l,o.name.size≤1048576∧o.to.size≤1048576):an C je [cY p,Wk l] (cY (AA p l)) []:=by
 unfold AA;obtain⟨Z,hZe⟩: ∃Z,Z=applyN p (l.take 200):=⟨_,rfl⟩;rw[←hZe];obtain⟨xw,as3⟩:=am4 l;obtain⟨m,hm⟩: ∃m,m=l.take 200:=⟨_,rfl⟩
 have hml:m.length≤200:=by rw[hm,eO];omega
 have hmm: ∀o∈m,o.name.size≤1048576∧o.to.size≤1048576:=fun o ho=>hL o (Ah (by rw[hm] at ho;exact ho));rw[←hm] at xw hZe
 have key: ∀(d j:Nat) (X:Pool),j+d=m.length→aJ X≤1048576→applyN X (m.drop j)=Z→aa C je ai 4 0 (so (l.map DF) (j:Int) X.next (X.t.aE.map bO) (X.t.nodes.map aQ) (X.aL.map bQ) (X.cells.map bL) (X.au.map cg)) (fun x st=>ax C je ai x st fun r fs=>r=cY Z∧fs=[]):=by
  intro d
  induction d with
  |zero=>
   intro j X hj hX hZ;rw[Lm ay] at hZ;have hZ':X=Z:=hZ;exact C3 _ _ _ _ _ _ _ _ _ (ak (by rw[dh,xw,bX];exact e9 (by simp only[lU];omega)) (OC _ _ _ _ _ _ _ _ _ _ _ ⟨by rw[hZ'],rfl⟩))
  |succ d ih=>
   intro j X hj hX hZ;obtain⟨o,ho⟩: ∃o,m[j]?=some o:=⟨_,ck ay⟩;obtain⟨hjl,hje⟩:=List.getElem?_eq_some_iff.1 ho;rw[Gi hjl,hje,Sp] at hZ;have hon:=hmm o (gP ho)
   have hro:rowAt (aC (l.map DF) 0 (Dv (Int.ofNat (List.length (l.map DF))) 200)) (j:Int)=some [iI o.kind,iS o.name,iS o.to,iI o.a,iI o.b]:=by rw[xw,aR,aH,ho];rfl
   have ra:=W3 X o hX hon.1 hon.2;have hsz:=K4 X o;refine C3 _ _ _ _ _ _ _ _ _ (ah (by rw[dh,xw,bX];exact fj (by simp only[lU];omega)) ⟨_,_,_,_,_,hro,_,_,_,_,_,_,_,ra,?_⟩)
   have tH:aA (j:Int) 1=((j+1:Nat):Int):=by rw[aG ay];omega
   rw[tH];exact ih (j+1) (iH X o).1 ay ay hZ
 exact(Tv _ _ _ _ _ _ _ _ ⟨_,_,_,_,_,_,bJ p ay,ah as3 (key m.length 0 p ay hS hZe.symm)⟩).run
theorem J6:cn 3 0=false:=by simp
theorem akP:cn 10 0=false:=by simp
def MI:Nat→Int→ByteArray→ByteArray
 |0,_,out=>out
 |n+1,k,out=>if k≤0 then out else MI n (jb .i64 k 10) (Ym (Ja [zn .u8 (48+Dw k 10)]) out)
def abn (k:Int):ByteArray:=if k≤0 then⟨#[109,48]⟩ else Ym ⟨#[109]⟩ (MI 19 k wO)
attribute [local semireducible] wI Ja Ym in
theorem aio (n:Int):wI [[TC.sc (.int .u8 n)]]=some [n]:=rfl
attribute [local semireducible] Ja in
theorem akQ (n:Int):(Ja [n]).size=1:=rfl
attribute [local semireducible] Ym in
theorem aip (a b:ByteArray):(Ym a b).size=a.size+b.size:=by show(a++b).size=_;simp
attribute [local semireducible] jb in
theorem ahv {a b:Int} (h0:0≤a) (h1:a≤9223372036854775807):jb .i64 a 10=a/10:=by
 show IntKind.i64.wrap (a.tdiv 10)=_;rw[Int.tdiv_eq_ediv_of_nonneg h0];exact IntWalk.i64_in _ ay
theorem agu (n:Nat) (k:Int) (out:ByteArray) (h:k≤0):MI n k out=out:=by cases n<;>simp[MI,h]
theorem acw (k:Int) (hk:k≤2305843009213693952):an C gv [vI k] (vS (abn k)) []:=by
 refine(Td _ _ ?_).run;unfold abn;simp only[gj,bI]
 by_cases h:k≤0
 ·rw[aI h,aI h];exact⟨rfl,by trivial⟩
 ·rw[aF h,aF h]
  have key: ∀(F:ByteArray) (n:Nat) (k':Int) (out:ByteArray),k'<10 ^ n→k'≤2305843009213693952→out.size+n≤100→MI n k' out=F→aa C gv kN 4 0 (si k' out) (fun u st=>ax C gv kN u st fun r fs=>r=vS (Ym ⟨#[109]⟩ F)∧fs=[]):=by
   intro F n
   induction n with
   |zero=>
    intro k' out h1 h2 h3 h4;refine xq _ _ _ (ak (by simp at h1 ⊢;omega) (CZ _ _ _ _ ?_));simp only[MI] at h4;subst h4;refine ah (cO (by simp only[natAdd,Mb];omega)) ⟨rfl,by trivial⟩
   |succ n ih=>
    intro k' out h1 h2 h3 h4
    by_cases h0:k'≤0
    ·rw[agu _ _ _ h0] at h4
     subst h4;exact xq _ _ _ (ak eI (CZ _ _ _ _ (ah (cO (by simp only[natAdd,Mb];omega)) ⟨rfl,by trivial⟩)))
    ·simp only[MI,aF h0] at h4
     have hr:0≤Dw k' 10∧Dw k' 10≤9:=by rw[amj,Int.tmod_eq_emod_of_nonneg ay];omega
     refine xq _ _ _ (ah eI (ak akP ⟨_,aio _,ah (cO (by simp only[natAdd,Mb,akQ];omega)) (ak akP ?_)⟩));rw[aG ay];refine ih _ _ ?_ ?_ ?_ h4
     ·rw[ahv (b:=0) ay ay]
      have:(10:Int) ^ (n+1)=10 ^ n*10:=Int.pow_succ ..;omega
     ·rw[ahv (b:=0) ay ay];omega
     ·rw[aip,akQ];omega
  exact key _ 19 k wO (by rw[show(10:Int) ^ 19=10000000000000000000 from by decide];omega) hk (by decide) rfl
theorem Ga (k:Int) (hk:k≤2305843009213693952) (q:ByteArray):an C gv [vI k] (vS q) []↔q=abn k:=ar2 (acw k hk)
def mkInt (_:Int) (k:Int):Int:=k
def Oq (_:Int):Nat:=1
theorem akR (l:List (Int)) (k:Int) (h0:0≤k) (hk:k+tot Oq l≤2305843009213693952) (hl:l.length≤1099511627776):an C lz [oz l,vI k] (vI (k+tot Oq l)) [oz (jd mkInt Oq l k)]:=by
 refine(UN _ _ _ ?_).run;refine xT (e:=bO) mkInt Oq (fun k i rows=>aa C lz aj 4 0 (sD k i rows) _) 2305843009213693952 ?_ l [] k h0 hk (by simpa using hl) ?_
 ·intro d a r k h0 hk hd hn
  have hw:Oq a=1:=rfl;rw[hw] at hk hn;refine Ds _ _ _ _ (ah eI ?_);simp (disch:=omega) only[aG];simp only[wP,aoH,p6,jF,ny,aY,dm,dy,mod_mod,J6,lI,bT];rw[BV];rw[show(k+1:Int)=k+((1:Nat):Int) by omega];exact hn
 ·refine Ds _ _ _ _ (ak (by simp[nT]) (Pd _ _ _ _ _ ⟨rfl,by trivial⟩))
theorem akS (l:List (Int)) (k:Int) (h0:0≤k) (hk:k+tot Oq l≤2305843009213693952) (hl:l.length≤1099511627776):an C lA [oz (jd mkInt Oq l k),vI k] (vI (k+tot Oq l)) []:=by
 refine(TM _ _ _ ?_).run;refine z8 (e:=bO) mkInt Oq (fun k i rows=>aa C lA aj 4 0 (sv rows k i) _) 2305843009213693952 ?_ l [] k h0 hk (by simpa using hl) ?_
 ·intro d a r k h0 hk hd hn
  have hw:Oq a=1:=rfl;rw[hw] at hk hn;refine Db _ _ _ _ (ah eI ?_);simp (disch:=omega) only[aG];simp only[wP,p6,jF,ny,aY,dm,dy,mod_mod,J6,lI,bT,mkInt,bD,FK,Wi,bI,if_true,decide_true,By];rw[show(k+1:Int)=k+((1:Nat):Int) by omega];exact hn
 ·refine Db _ _ _ _ (ak (by simp[nT]) (OO _ _ _ _ _ ⟨rfl,by trivial⟩))
def mkKey (_:Key) (k:Int):Key:=⟨k,k+1,k+1+1,k+1+1+1,k+1+1+1+1⟩
def MJ (_:Key):Nat:=5
theorem akT (l:List (Key)) (k:Int) (h0:0≤k) (hk:k+tot MJ l≤2305843009213693952) (hl:l.length≤1099511627776):an C lC [dL l,vI k] (vI (k+tot MJ l)) [dL (jd mkKey MJ l k)]:=by
 refine(U8 _ _ _ ?_).run;refine xT (e:=bP) mkKey MJ (fun k i rows=>aa C lC aj 4 0 (sE k i rows) _) 2305843009213693952 ?_ l [] k h0 hk (by simpa using hl) ?_
 ·intro d a r k h0 hk hd hn
  have hw:MJ a=5:=rfl;rw[hw] at hk hn;refine Dt _ _ _ _ (ah eI ?_);simp (disch:=omega) only[aG];simp only[lJ,aj8,aj9,aka,akb,akc,aoE,p6,jF,ny,aY,dm,dy,mod_mod,J6,lI,bT];rw[BV];rw[show(k+1+1+1+1+1:Int)=k+((5:Nat):Int) by omega];exact hn
 ·refine Dt _ _ _ _ (ak (by simp[nT]) (Pf _ _ _ _ _ ⟨rfl,by trivial⟩))
theorem akU (l:List (Key)) (k:Int) (h0:0≤k) (hk:k+tot MJ l≤2305843009213693952) (hl:l.length≤1099511627776):an C lD [dL (jd mkKey MJ l k),vI k] (vI (k+tot MJ l)) []:=by
 refine(Tt _ _ _ ?_).run;refine z8 (e:=bP) mkKey MJ (fun k i rows=>aa C lD aj 4 0 (sn rows k i) _) 2305843009213693952 ?_ l [] k h0 hk (by simpa using hl) ?_
 ·intro d a r k h0 hk hd hn
  have hw:MJ a=5:=rfl;rw[hw] at hk hn;refine C2 _ _ _ _ (ah eI ?_);simp (disch:=omega) only[aG];simp only[lJ,p6,jF,ny,aY,dm,dy,mod_mod,J6,lI,bT,mkKey,bD,FK,Wi,bI,if_true,decide_true,By];rw[show(k+1+1+1+1+1:Int)=k+((5:Nat):Int) by omega];exact hn
 ·refine C2 _ _ _ _ (ak (by simp[nT]) (OA _ _ _ _ _ ⟨rfl,by trivial⟩))
def abo (_:Age) (k:Int):Age:=⟨k,k+1⟩
def MK (_:Age):Nat:=2
theorem akV (l:List (Age)) (k:Int) (h0:0≤k) (hk:k+tot MK l≤2305843009213693952) (hl:l.length≤1099511627776):an C k9 [gx l,vI k] (vI (k+tot MK l)) [gx (jd abo MK l k)]:=by
 refine(UF _ _ _ ?_).run;refine xT (e:=bQ) abo MK (fun k i rows=>aa C k9 aj 4 0 (sA k i rows) _) 2305843009213693952 ?_ l [] k h0 hk (by simpa using hl) ?_
 ·intro d a r k h0 hk hd hn
  have hw:MK a=2:=rfl;rw[hw] at hk hn;refine Dn _ _ _ _ (ah eI ?_);simp (disch:=omega) only[aG];simp only[wQ,ah0,aa7,aoF,p6,jF,ny,aY,dm,dy,mod_mod,J6,lI,bT];rw[BV];rw[show(k+1+1:Int)=k+((2:Nat):Int) by omega];exact hn
 ·refine Dn _ _ _ _ (ak (by simp[nT]) (O7 _ _ _ _ _ ⟨rfl,by trivial⟩))
theorem akW (l:List (Age)) (k:Int) (h0:0≤k) (hk:k+tot MK l≤2305843009213693952) (hl:l.length≤1099511627776):an C lq [gx (jd abo MK l k),vI k] (vI (k+tot MK l)) []:=by
 refine(UG _ _ _ ?_).run;refine z8 (e:=bQ) abo MK (fun k i rows=>aa C lq aj 4 0 (sC rows k i) _) 2305843009213693952 ?_ l [] k h0 hk (by simpa using hl) ?_
 ·intro d a r k h0 hk hd hn
  have hw:MK a=2:=rfl;rw[hw] at hk hn;refine Dp _ _ _ _ (ah eI ?_);simp (disch:=omega) only[aG];simp only[wQ,p6,jF,ny,aY,dm,dy,mod_mod,J6,lI,bT,abo,bD,FK,Wi,bI,if_true,decide_true,By];rw[show(k+1+1:Int)=k+((2:Nat):Int) by omega];exact hn
 ·refine Dp _ _ _ _ (ak (by simp[nT]) (O8 _ _ _ _ _ ⟨rfl,by trivial⟩))
def ML (_:Cell) (k:Int):Cell:=⟨k,cn (Dw (k+1) 3) 0,k+1+1⟩
def Ck (_:Cell):Nat:=3
theorem aiq (l:List (Cell)) (k:Int) (h0:0≤k) (hk:k+tot Ck l≤2305843009213693952) (hl:l.length≤1099511627776):an C jX [jw l,vI k] (vI (k+tot Ck l)) [jw (jd ML Ck l k)]:=by
 refine(QO _ _ _ ?_).run;refine xT (e:=bL) ML Ck (fun k i rows=>aa C jX aj 4 0 (qF k i rows) _) 2305843009213693952 ?_ l [] k h0 hk (by simpa using hl) ?_
 ·intro d a r k h0 hk hd hn
  have hw:Ck a=3:=rfl;rw[hw] at hk hn;refine Bd _ _ _ _ (ah eI ?_);simp (disch:=omega) only[aG];simp only[pR,ah1,PR,PS,ab6,p6,jF,ny,aY,dm,dy,mod_mod,J6,lI,bT];rw[BV];rw[show(k+1+1+1:Int)=k+((3:Nat):Int) by omega];exact hn
 ·refine Bd _ _ _ _ (ak (by simp[nT]) (MU _ _ _ _ _ ⟨rfl,by trivial⟩))
theorem air (l:List (Cell)) (k:Int) (h0:0≤k) (hk:k+tot Ck l≤2305843009213693952) (hl:l.length≤1099511627776):an C jY [jw (jd ML Ck l k),vI k] (vI (k+tot Ck l)) []:=by
 refine(QS _ _ _ ?_).run;refine z8 (e:=bL) ML Ck (fun k i rows=>aa C jY aj 4 0 (qG rows k i) _) 2305843009213693952 ?_ l [] k h0 hk (by simpa using hl) ?_
 ·intro d a r k h0 hk hd hn
  have hw:Ck a=3:=rfl;rw[hw] at hk hn;refine Be _ _ _ _ (ah eI ?_);simp (disch:=omega) only[aG];simp only[pR,p6,jF,ny,aY,dm,dy,mod_mod,J6,lI,bT,ML,bD,FK,Wi,bI,if_true,decide_true,By];rw[show(k+1+1+1:Int)=k+((3:Nat):Int) by omega];simpa [ML] using hn
 ·refine Be _ _ _ _ (ak (by simp[nT]) (MV _ _ _ _ _ ⟨rfl,by trivial⟩))
def W4 (_:Vol) (k:Int):Vol:=⟨abn (k),k+1,k+1+1,cn (Dw (k+1+1+1) 3) 0⟩
def QG (_:Vol):Nat:=4
theorem akX (l:List (Vol)) (k:Int) (h0:0≤k) (hk:k+tot QG l≤2305843009213693952) (hl:l.length≤1099511627776):an C lg [qR l,vI k] (vI (k+tot QG l)) [qR (jd W4 QG l k)]:=by
 refine(TA _ _ _ ?_).run;refine xT (e:=cg) W4 QG (fun k i rows=>aa C lg aj 4 0 (sq k i rows) _) 2305843009213693952 ?_ l [] k h0 hk (by simpa using hl) ?_
 ·intro d a r k h0 hk hd hn
  have hw:QG a=4:=rfl;rw[hw] at hk hn;refine C5 _ _ _ _ (ah eI ?_);simp (disch:=omega) only[aG];simp only[yQ,aec,Md,Jx,ah2,aoG,Ga (k) ay,p6,jF,ny,aY,dm,dy,mod_mod,J6,lI,bT];rw[BV];rw[show(k+1+1+1+1:Int)=k+((4:Nat):Int) by omega];exact hn
 ·refine C5 _ _ _ _ (ak (by simp[nT]) (OF _ _ _ _ _ ⟨rfl,by trivial⟩))
theorem akY (l:List (Vol)) (k:Int) (h0:0≤k) (hk:k+tot QG l≤2305843009213693952) (hl:l.length≤1099511627776):an C lu [qR (jd W4 QG l k),vI k] (vI (k+tot QG l)) []:=by
 refine(TB _ _ _ ?_).run;refine z8 (e:=cg) W4 QG (fun k i rows=>aa C lu aj 4 0 (sr rows k i) _) 2305843009213693952 ?_ l [] k h0 hk (by simpa using hl) ?_
 ·intro d a r k h0 hk hd hn
  have hw:QG a=4:=rfl;rw[hw] at hk hn;refine C6 _ _ _ _ (ah eI ?_);simp (disch:=omega) only[aG];simp only[yQ,Ga (k) ay,p6,jF,ny,aY,dm,dy,mod_mod,J6,lI,bT,W4,bD,FK,Wi,bI,if_true,decide_true,By];rw[show(k+1+1+1+1:Int)=k+((4:Nat):Int) by omega];simpa [W4] using hn
 ·refine C6 _ _ _ _ (ak (by simp[nT]) (OG _ _ _ _ _ ⟨rfl,by trivial⟩))
def aqH (_:Av) (k:Int):Av:=⟨k,abn (k+1),abn (k+1+1),k+1+1+1,k+1+1+1+1⟩
def wOp (_:Av):Nat:=5
theorem am5 (l:List (Av)) (k:Int) (h0:0≤k) (hk:k+tot wOp l≤2305843009213693952) (hl:l.length≤1099511627776):an C mU [Wk l,vI k] (vI (k+tot wOp l)) [Wk (jd aqH wOp l k)]:=by
 refine(XY _ _ _ ?_).run;refine xT (e:=DF) aqH wOp (fun k i rows=>aa C mU aj 4 0 (ue k i rows) _) 2305843009213693952 ?_ l [] k h0 hk (by simpa using hl) ?_
 ·intro d a r k h0 hk hd hn
  have hw:wOp a=5:=rfl;rw[hw] at hk hn;refine Fh _ _ _ _ (ah eI ?_);simp (disch:=omega) only[aG];simp only[aqp,af2,af3,akd,amo,amp,aqq,Ga (k+1) ay,Ga (k+1+1) ay,p6,jF,ny,aY,dm,dy,mod_mod,J6,lI,bT];rw[BV];rw[show(k+1+1+1+1+1:Int)=k+((5:Nat):Int) by omega];exact hn
 ·refine Fh _ _ _ _ (ak (by simp[nT]) (RC _ _ _ _ _ ⟨rfl,by trivial⟩))
def Gb (s:List Key) (k:Int):List Key:=jd mkKey MJ s k
def nH (s:List Key):Nat:=tot MJ s
theorem ais: ∀(l:List (List Key)) (k:Int) (h0:0≤k) (hk:k+tot nH l≤2305843009213693952) (hl:l.length≤1099511627776) (hs: ∀s∈l,s.length≤1099511627776),an C jh [NS l,vI k] (vI (k+tot nH l)) [NS (jd Gb nH l k)]:=by
 intro l k h0 hk hl hs;refine(Rx _ _ _ ?_).run
 have key: ∀(r d:List (List Key)) (k:Int),0≤k→k+tot nH r≤2305843009213693952→d.length+r.length≤1099511627776→(∀s∈r,s.length≤1099511627776)→ ∀(R:TV) (F:List TV),vI (k+tot nH r)=R→[NS (d++jd Gb nH r k)]=F→aa C jh aj 4 0 (qJ k (d.length:Int) ((d++r).map cU)) (fun u st=>ax C jh aj u st fun r fs=>r=R∧fs=F):=by
  intro r
  induction r with
  |nil=>
   intro d k h0 hk hl hs R F hR hF;subst hR hF;refine Bl _ _ _ _ (ak cW (M6 _ _ _ _ _ ⟨by simp[tot],by simp[jd]⟩))
  |cons a r ih=>
   intro d k h0 hk hl hs R F hR hF;simp only[tot,fW] at hk hl;have hca:=hs a (.head _);have hu:tot MJ a=nH a:=rfl;refine Bl _ _ _ _ (ah eI ?_);simp only[xS,ny,aY,dm];refine⟨_,_,akT a k h0 ay hca,?_⟩;simp only[aoI];rw[BV,aG ay];have:=ih (d++[Gb a k]) (k+nH a) ay ay eI (fun s h=>hs s (.tail _ h)) R F (by rw[←hR];simp only[tot];rw[show k+(nH a:Int)+(tot nH r:Int)=k+((nH a+tot nH r:Nat):Int) by omega]) (by rw[←hF];simp[jd])
   rw[←hu] at this;simpa [Gb] using this
 exact key l [] k h0 hk (by simpa using hl) hs _ _ rfl cW
theorem ait: ∀(l:List (List Key)) (k:Int) (h0:0≤k) (hk:k+tot nH l≤2305843009213693952) (hl:l.length≤1099511627776) (hs: ∀s∈l,s.length≤1099511627776),an C ji [NS (jd Gb nH l k),vI k] (vI (k+tot nH l)) []:=by
 intro l k h0 hk hl hs;refine(RL _ _ _ ?_).run
 have key: ∀(r d:List (List Key)) (k:Int),0≤k→k+tot nH r≤2305843009213693952→d.length+r.length≤1099511627776→(∀s∈r,s.length≤1099511627776)→ ∀(R:TV),vI (k+tot nH r)=R→aa C ji aj 4 0 (qK ((d++jd Gb nH r k).map cU) k (d.length:Int)) (fun u st=>ax C ji aj u st fun r fs=>r=R∧fs=[]):=by
  intro r
  induction r with
  |nil=>
   intro d k h0 hk hl hs R hR;subst hR;refine Bp _ _ _ _ (ak (by simp[jd]) (Nb _ _ _ _ _ ⟨by simp[tot],rfl⟩))
  |cons a r ih=>
   intro d k h0 hk hl hs R hR;simp only[tot,fW] at hk hl;have hca:=hs a (.head _);have hu:tot MJ a=nH a:=rfl;simp only[jd];refine Bp _ _ _ _ (ah eI ?_);simp only[xS,ny,aY,dm];refine⟨_,akU a k h0 ay hca,ak eI ?_⟩;rw[aG ay];have:=ih (d++[Gb a k]) (k+nH a) ay ay eI (fun s h=>hs s (.tail _ h)) R (by rw[←hR];simp only[tot];rw[show k+(nH a:Int)+(tot nH r:Int)=k+((nH a+tot nH r:Nat):Int) by omega]);rw[hu]
   simpa [Gb] using this
 exact key l [] k h0 hk (by simpa using hl) hs _ rfl
def mkNode (s:List (List Key)) (k:Int):List (List Key):=jd Gb nH s k
def pN (s:List (List Key)):Nat:=tot nH s
theorem aiu: ∀(l:List (List (List Key))) (k:Int) (h0:0≤k) (hk:k+tot pN l≤2305843009213693952) (hl:l.length≤1099511627776) (hs: ∀s∈l,N6 s),an C jf [Aw l,vI k] (vI (k+tot pN l)) [Aw (jd mkNode pN l k)]:=by
 intro l k h0 hk hl hs;refine(QT _ _ _ ?_).run
 have key: ∀(r d:List (List (List Key))) (k:Int),0≤k→k+tot pN r≤2305843009213693952→d.length+r.length≤1099511627776→(∀s∈r,N6 s)→ ∀(R:TV) (F:List TV),vI (k+tot pN r)=R→[Aw (d++jd mkNode pN r k)]=F→aa C jf aj 4 0 (qH k (d.length:Int) ((d++r).map aQ)) (fun u st=>ax C jf aj u st fun r fs=>r=R∧fs=F):=by
  intro r
  induction r with
  |nil=>
   intro d k h0 hk hl hs R F hR hF;subst hR hF;refine Bf _ _ _ _ (ak cW (MW _ _ _ _ _ ⟨by simp[tot],by simp[jd]⟩))
  |cons a r ih=>
   intro d k h0 hk hl hs R F hR hF;simp only[tot,fW] at hk hl;have hca:=hs a (.head _);have hu:tot nH a=pN a:=rfl;refine Bf _ _ _ _ (ah eI ?_);simp only[tM,ny,aY,dm];refine⟨_,_,ais a k h0 ay hca.1 hca.2,?_⟩;simp only[ab7];rw[BV,aG ay];have:=ih (d++[mkNode a k]) (k+pN a) ay ay eI (fun s h=>hs s (.tail _ h)) R F (by rw[←hR];simp only[tot];rw[show k+(pN a:Int)+(tot pN r:Int)=k+((pN a+tot pN r:Nat):Int) by omega]) (by rw[←hF];simp[jd])
   rw[←hu] at this;simpa [mkNode] using this
 exact key l [] k h0 hk (by simpa using hl) hs _ _ rfl cW
theorem aiv: ∀(l:List (List (List Key))) (k:Int) (h0:0≤k) (hk:k+tot pN l≤2305843009213693952) (hl:l.length≤1099511627776) (hs: ∀s∈l,N6 s),an C jg [Aw (jd mkNode pN l k),vI k] (vI (k+tot pN l)) []:=by
 intro l k h0 hk hl hs;refine(Rs _ _ _ ?_).run
 have key: ∀(r d:List (List (List Key))) (k:Int),0≤k→k+tot pN r≤2305843009213693952→d.length+r.length≤1099511627776→(∀s∈r,N6 s)→ ∀(R:TV),vI (k+tot pN r)=R→aa C jg aj 4 0 (qI ((d++jd mkNode pN r k).map aQ) k (d.length:Int)) (fun u st=>ax C jg aj u st fun r fs=>r=R∧fs=[]):=by
  intro r
  induction r with
  |nil=>
   intro d k h0 hk hl hs R hR;subst hR;refine Bj _ _ _ _ (ak (by simp[jd]) (M4 _ _ _ _ _ ⟨by simp[tot],rfl⟩))
  |cons a r ih=>
   intro d k h0 hk hl hs R hR;simp only[tot,fW] at hk hl;have hca:=hs a (.head _);have hu:tot nH a=pN a:=rfl;simp only[jd];refine Bj _ _ _ _ (ah eI ?_);simp only[tM,ny,aY,dm];refine⟨_,ait a k h0 ay hca.1 hca.2,ak eI ?_⟩;rw[aG ay];have:=ih (d++[mkNode a k]) (k+pN a) ay ay eI (fun s h=>hs s (.tail _ h)) R (by rw[←hR];simp only[tot];rw[show k+(pN a:Int)+(tot pN r:Int)=k+((pN a+tot pN r:Nat):Int) by omega])
   rw[hu];simpa [mkNode] using this
 exact key l [] k h0 hk (by simpa using hl) hs _ rfl
def GB (t:Tree):Nat:=tot Oq t.aE+tot pN t.nodes
def agv (t:Tree) (k:Int):Tree:=⟨jd mkInt Oq t.aE k,jd mkNode pN t.nodes (k+tot Oq t.aE)⟩
theorem akZ (t:Tree) (k:Int) (h0:0≤k) (hk:k+GB t≤2305843009213693952) (h:abj t):an C DJ [dW t,vI k] (vI (k+GB t)) [dW (agv t k)]:=by
 unfold GB at*;refine(Uc _ _ _ _ ⟨_,_,akR t.aE k h0 ay h.1,_,_,aiu t.nodes _ ay ay h.2.1 h.2.2,?_⟩).run;(try dsimp only);exact⟨by congr 1;omega,rfl⟩
theorem ak0 (t:Tree) (k:Int) (h0:0≤k) (hk:k+GB t≤2305843009213693952) (h:abj t):an C DK [dW (agv t k),vI k] (vI (k+GB t)) []:=by
 unfold GB at*;refine(Ud _ _ _ _ ⟨_,akS t.aE k h0 ay h.1,ak eI ⟨_,aiv t.nodes _ ay ay h.2.1 h.2.2,ak eI ?_⟩⟩).run;(try dsimp only);exact⟨by congr 1;omega,rfl⟩
def Sq (p:Pool):Nat:=GB p.t+tot MK p.aL+tot Ck p.cells+tot QG p.au
def ak1 (p:Pool) (k:Int):Pool:=⟨agv p.t k,jd abo MK p.aL (k+GB p.t),jd ML Ck p.cells (k+GB p.t+tot MK p.aL),jd W4 QG p.au (k+GB p.t+tot MK p.aL+tot Ck p.cells),p.next⟩
theorem aeN (p:Pool) (k:Int) (h0:0≤k) (hk:k+Sq p≤2305843009213693952) (h:aeK p):an C yd [cY p,vI k] (vI (k+Sq p)) [cY (ak1 p k)]:=by
 unfold Sq at*;refine(S9 _ _ _ _ _ _ _ _ ⟨_,_,_,akZ p.t k h0 ay h.t,_,_,akV p.aL _ ay ay h.aL,_,_,aiq p.cells _ ay ay h.cells,_,_,akX p.au _ ay ay h.au,?_⟩).run;(try dsimp only);exact⟨by congr 1;omega,rfl⟩
theorem aeO (p:Pool) (k:Int) (h0:0≤k) (hk:k+Sq p≤2305843009213693952) (h:aeK p):an C ye [cY (ak1 p k),vI k] (vI (k+Sq p)) []:=by
 unfold Sq at*;refine(Tu _ _ _ _ _ _ _ _ ⟨_,ak0 p.t k h0 ay h.t,ak eI ⟨_,akW p.aL _ ay ay h.aL,ak eI ⟨_,air p.cells _ ay ay h.cells,ak eI ⟨_,akY p.au _ ay ay h.au,ak eI ?_⟩⟩⟩⟩).run;(try dsimp only);exact⟨by congr 1;omega,rfl⟩
theorem J7 {n z:Nat} (h:n*z≤reachBytes) (hz:1≤z):n≤140737488355328:=by
 have:reachBytes≤140737488355328:=by decide
 have h2:n*1≤n*z:=Nat.mul_le_mul_left n hz;omega
theorem apf {n:Int} (h:(Lit.int .i64 n).wf=true):n≤9223372036854775807:=by
 have:=(aoC h).2;omega
theorem ak2 {r:List TC} (h:zx C.tt anL r): ∃n:Int,r=bO n∧True:=by
 obtain⟨n,rfl,_⟩:=h.qz (k:= .i64) AG;exact⟨n,rfl,trivial⟩
theorem apg {r:List TC} (h:zx C.tt WH r): ∃x:Key,r=bP x∧True:=by
 obtain⟨q0,r0,rfl,h0,k0⟩:=(h.sW (fs:=[(0,3),(1,3),(2,3),(3,3),(4,3)]) AG).cons_inv;obtain⟨q1,r1,rfl,h1,k1⟩:=k0.cons_inv;obtain⟨q2,r2,rfl,h2,k2⟩:=k1.cons_inv;obtain⟨q3,r3,rfl,h3,k3⟩:=k2.cons_inv;obtain⟨q4,r4,rfl,h4,k4⟩:=k3.cons_inv;have e:=k4.BU;subst e;obtain⟨v0,rfl,u0⟩:=h0.qz (k:= .i64) AG;obtain⟨v1,rfl,u1⟩:=h1.qz (k:= .i64) AG;obtain⟨v2,rfl,u2⟩:=h2.qz (k:= .i64) AG;obtain⟨v3,rfl,u3⟩:=h3.qz (k:= .i64) AG
 obtain⟨v4,rfl,u4⟩:=h4.qz (k:= .i64) AG;exact⟨⟨v0,v1,v2,v3,v4⟩,rfl,trivial⟩
theorem aph {r:List TC} (h:zx C.tt WG r): ∃x:Age,r=bQ x∧True:=by
 obtain⟨q0,r0,rfl,h0,k0⟩:=(h.sW (fs:=[(0,3),(1,3)]) AG).cons_inv;obtain⟨q1,r1,rfl,h1,k1⟩:=k0.cons_inv;have e:=k1.BU;subst e;obtain⟨v0,rfl,u0⟩:=h0.qz (k:= .i64) AG;obtain⟨v1,rfl,u1⟩:=h1.qz (k:= .i64) AG;exact⟨⟨v0,v1⟩,rfl,trivial⟩
theorem am6 {r:List TC} (h:zx C.tt Sk r): ∃x:Cell,r=bL x∧True:=by
 obtain⟨q0,r0,rfl,h0,k0⟩:=(h.sW (fs:=[(0,3),(1,4),(2,3)]) AG).cons_inv;obtain⟨q1,r1,rfl,h1,k1⟩:=k0.cons_inv;obtain⟨q2,r2,rfl,h2,k2⟩:=k1.cons_inv;have e:=k2.BU;subst e;obtain⟨v0,rfl,u0⟩:=h0.qz (k:= .i64) AG;obtain⟨v1,rfl⟩:=h1.ad8 AG;obtain⟨v2,rfl,u2⟩:=h2.qz (k:= .i64) AG;exact⟨⟨v0,v1,v2⟩,rfl,trivial⟩
theorem api {r:List TC} (h:zx C.tt WI r): ∃x:Vol,r=cg x∧x.name.size≤140737488355328∧x.size≤9223372036854775807:=by
 obtain⟨q0,r0,rfl,h0,k0⟩:=(h.sW (fs:=[(0,9),(1,3),(2,3),(3,4)]) AG).cons_inv;obtain⟨q1,r1,rfl,h1,k1⟩:=k0.cons_inv;obtain⟨q2,r2,rfl,h2,k2⟩:=k1.cons_inv;obtain⟨q3,r3,rfl,h3,k3⟩:=k2.cons_inv;have e:=k3.BU;subst e;obtain⟨v0,rfl,z0⟩:=h0.ab4 AG;obtain⟨v1,rfl,u1⟩:=h1.qz (k:= .i64) AG;obtain⟨v2,rfl,u2⟩:=h2.qz (k:= .i64) AG;obtain⟨v3,rfl⟩:=h3.ad8 AG;exact⟨⟨v0,v1,v2,v3⟩,rfl,⟨uL z0 (by decide),apf u2⟩⟩
theorem aqI {r:List TC} (h:zx C.tt abi r): ∃x:Av,r=DF x∧x.name.size≤140737488355328∧x.to.size≤140737488355328:=by
 obtain⟨q0,r0,rfl,h0,k0⟩:=(h.sW (fs:=[(0,3),(1,9),(2,9),(3,3),(4,3)]) AG).cons_inv;obtain⟨q1,r1,rfl,h1,k1⟩:=k0.cons_inv;obtain⟨q2,r2,rfl,h2,k2⟩:=k1.cons_inv;obtain⟨q3,r3,rfl,h3,k3⟩:=k2.cons_inv;obtain⟨q4,r4,rfl,h4,k4⟩:=k3.cons_inv;have e:=k4.BU;subst e;obtain⟨v0,rfl,u0⟩:=h0.qz (k:= .i64) AG;obtain⟨v1,rfl,z1⟩:=h1.ab4 AG;obtain⟨v2,rfl,z2⟩:=h2.ab4 AG;obtain⟨v3,rfl,u3⟩:=h3.qz (k:= .i64) AG;obtain⟨v4,rfl,u4⟩:=h4.qz (k:= .i64) AG
 exact⟨⟨v0,v1,v2,v3,v4⟩,rfl,⟨uL z1 (by decide),uL z2 (by decide)⟩⟩
theorem aiw {r:List TC} (h:zx C.tt amT r): ∃l:List (Int),r=[.sub 1 (l.map bO)]∧l.length≤140737488355328∧ ∀x∈l,True:=by
 obtain⟨w,rfl,y,z⟩:=h.wg (e:=anL) AG;obtain⟨l,rfl,hl⟩:=qA fun r hr=>ak2 (y r hr);rw[bX] at z;exact⟨l,rfl,J7 z (by decide+kernel),hl⟩
theorem aix {r:List TC} (h:zx C.tt F5 r): ∃l:List (Key),r=[.sub 5 (l.map bP)]∧l.length≤140737488355328∧ ∀x∈l,True:=by
 obtain⟨w,rfl,y,z⟩:=h.wg (e:=WH) AG;obtain⟨l,rfl,hl⟩:=qA fun r hr=>apg (y r hr);rw[bX] at z;exact⟨l,rfl,J7 z (by decide+kernel),hl⟩
theorem aiy {r:List TC} (h:zx C.tt acn r): ∃l:List (Age),r=[.sub 2 (l.map bQ)]∧l.length≤140737488355328∧ ∀x∈l,True:=by
 obtain⟨w,rfl,y,z⟩:=h.wg (e:=WG) AG;obtain⟨l,rfl,hl⟩:=qA fun r hr=>aph (y r hr);rw[bX] at z;exact⟨l,rfl,J7 z (by decide+kernel),hl⟩
theorem agw {r:List TC} (h:zx C.tt YC r): ∃l:List (Cell),r=[.sub 3 (l.map bL)]∧l.length≤140737488355328∧ ∀x∈l,True:=by
 obtain⟨w,rfl,y,z⟩:=h.wg (e:=Sk) AG;obtain⟨l,rfl,hl⟩:=qA fun r hr=>am6 (y r hr);rw[bX] at z;exact⟨l,rfl,J7 z (by decide+kernel),hl⟩
theorem aiz {r:List TC} (h:zx C.tt aco r): ∃l:List (Vol),r=[.sub 4 (l.map cg)]∧l.length≤140737488355328∧ ∀x∈l,x.name.size≤140737488355328∧x.size≤9223372036854775807:=by
 obtain⟨w,rfl,y,z⟩:=h.wg (e:=WI) AG;obtain⟨l,rfl,hl⟩:=qA fun r hr=>api (y r hr);rw[bX] at z;exact⟨l,rfl,J7 z (by decide+kernel),hl⟩
theorem ak3 {r:List TC} (h:zx C.tt yH r): ∃l:List (Av),r=[.sub 5 (l.map DF)]∧l.length≤140737488355328∧ ∀x∈l,x.name.size≤140737488355328∧x.to.size≤140737488355328:=by
 obtain⟨w,rfl,y,z⟩:=h.wg (e:=abi) AG;obtain⟨l,rfl,hl⟩:=qA fun r hr=>aqI (y r hr);rw[bX] at z;exact⟨l,rfl,J7 z (by decide+kernel),hl⟩
theorem apj {r:List TC} (h:zx C.tt F5 r): ∃s:List Key,r=cU s∧s.length≤140737488355328:=by
 obtain⟨l,rfl,hl,_⟩:=aix h;exact⟨l,rfl,hl⟩
theorem aiA {r:List TC} (h:zx C.tt YB r): ∃l:List (List Key),r=[.sub 1 (l.map cU)]∧l.length≤140737488355328∧ ∀x∈l,x.length≤140737488355328:=by
 obtain⟨w,rfl,y,z⟩:=h.wg (e:=F5) AG;obtain⟨l,rfl,hl⟩:=qA fun r hr=>apj (y r hr);rw[bX] at z;exact⟨l,rfl,J7 z (by decide+kernel),hl⟩
theorem am7 {r:List TC} (h:zx C.tt Sl r): ∃n:List (List Key),r=aQ n∧(n.length≤140737488355328∧ ∀s∈n,s.length≤140737488355328):=by
 obtain⟨q0,r0,rfl,h0,k0⟩:=(h.sW (fs:=[(0,178)]) AG).cons_inv;have e:=k0.BU;subst e;obtain⟨l,rfl,hl,hs⟩:=aiA h0;exact⟨l,rfl,hl,hs⟩
theorem agx {r:List TC} (h:zx C.tt YD r): ∃l:List (List (List Key)),r=[.sub 1 (l.map aQ)]∧l.length≤140737488355328∧ ∀x∈l,x.length≤140737488355328∧ ∀s∈x,s.length≤140737488355328:=by
 obtain⟨w,rfl,y,z⟩:=h.wg (e:=Sl) AG;obtain⟨l,rfl,hl⟩:=qA fun r hr=>am7 (y r hr);rw[bX] at z;exact⟨l,rfl,J7 z (by decide+kernel),hl⟩
theorem am8 {r:List TC} (h:zx C.tt aeJ r): ∃t:Tree,r=ahi t∧akM t:=by
 obtain⟨q0,r0,rfl,h0,k0⟩:=(h.sW (fs:=[(0,22),(1,23)]) AG).cons_inv;obtain⟨q1,r1,rfl,h1,k1⟩:=k0.cons_inv;have e:=k1.BU;subst e;obtain⟨l,rfl,hl,_⟩:=aiw h0;obtain⟨n,rfl,hn,hs⟩:=agx h1;exact⟨⟨l,n⟩,rfl,⟨hl,hn,hs⟩⟩
theorem am9 {r:List TC} (h:zx C.tt yI r): ∃p:Pool,r=wh p∧aht p:=by
 obtain⟨q0,r0,rfl,h0,k0⟩:=(h.sW (fs:=[(0,25),(2,26),(3,27),(4,28),(5,3)]) AG).cons_inv;obtain⟨q1,r1,rfl,h1,k1⟩:=k0.cons_inv;obtain⟨q2,r2,rfl,h2,k2⟩:=k1.cons_inv;obtain⟨q3,r3,rfl,h3,k3⟩:=k2.cons_inv;obtain⟨q4,r4,rfl,h4,k4⟩:=k3.cons_inv;have e:=k4.BU;subst e;obtain⟨t,rfl,ht⟩:=am8 h0;obtain⟨a,rfl,ha,_⟩:=aiy h1;obtain⟨c,rfl,hc,_⟩:=agw h2;obtain⟨v,rfl,hv,hw⟩:=aiz h3;obtain⟨n,rfl,_⟩:=ak2 h4;exact⟨⟨t,a,c,v,n⟩,rfl,⟨ht,ha,hc,hv,fun v h=>(hw v h).1,fun v h=>(hw v h).2⟩⟩
theorem aqJ {v:TV} (h:WfV C.tt yH v): ∃l:List Av,v=Wk l∧l.length≤140737488355328∧ ∀x∈l,x.name.size≤140737488355328∧x.to.size≤140737488355328:=by
 have ht:(C.tt yH).ti= .slice 46:=by kernel_rfl
 cases h with
 |c _ hw=>
  obtain⟨l,h1,h2,h3⟩:=ak3 hw
  cases h1
  exact⟨l,rfl,h2,h3⟩
 |ag h1 _=>rw[ht] at h1;cases h1
theorem apk {v:TV} (h:WfV C.tt yI v): ∃x:Pool,v=cY x∧aht x:=by
 have ht:(C.tt yI).ti= .struct [(0,25),(2,26),(3,27),(4,28),(5,3)]:=by kernel_rfl
 cases h with
 |c hs hw=>exact absurd ht (hs _)
 |ag _ hw=>
  obtain⟨x,rfl,hx⟩:=am9 hw;exact⟨x,rfl,hx⟩
theorem ak4 {a:Int} {n:Nat} (h:bK (nB a n) 0=false) (h0:0≤a∧a≤1048576):(n:Int)≤a∧(0≤nB a n∧nB a n≤1048576)∧nB a n=a-n:=by
 rw[dh] at h;have h: ¬nB a n<0:=of_decide_eq_false h;unfold nB at*
 split at h<;>simp_all<;>omega
theorem ak5 {t:Tree} (h:cG t≤4194304):abj t:=by
 unfold cG wR at h;refine⟨by omega,by omega,fun n hn=> ?_⟩;have h1:=oA (w:=aP) hn;have e:aP n=n.length+tot bY n:=rfl
 exact⟨by omega,fun s hs=>by
  have h2:=oA (w:=bY) hs;have e2:bY s=s.length:=rfl
  omega⟩
theorem ak6 (l:List Key):tot MJ l=5*l.length:=Aa 5 l
theorem ak7 (n:List (List Key)):tot nH n≤5*tot bY n:=by
 induction n with
 |nil=>simp[tot]
 |cons s r ih=>
  simp only[tot];have:nH s=5*s.length:=ak6 s;have e:bY s=s.length:=rfl;omega
theorem aiB (l:List (List (List Key))):tot pN l≤5*tot aP l:=by
 induction l with
 |nil=>simp[tot]
 |cons n r ih=>
  simp only[tot];have h1:=ak7 n;have h2:aP n=n.length+tot bY n:=rfl;have h3:pN n=tot nH n:=rfl;omega
theorem ak8 (t:Tree):GB t≤5*cG t:=by
 have h1:=aiB t.nodes;have h2:tot Oq t.aE=1*t.aE.length:=Aa 1 t.aE;unfold GB cG wR;omega
theorem aeP {p:Pool} (h:aJ p≤4194304):aeK p:=by
 unfold aJ DG at h;exact⟨ak5 ay,by omega,by omega,by omega⟩
theorem aeQ (p:Pool):Sq p≤5*aJ p:=by
 have h1:=ak8 p.t;have h2:tot MK p.aL=2*p.aL.length:=Aa 2 p.aL;have h3:tot Ck p.cells=3*p.cells.length:=Aa 3 p.cells;have h4:tot QG p.au=4*p.au.length:=Aa 4 p.au;unfold Sq aJ DG;omega
theorem P0 {α:Type} {w:α→Nat} {c:Nat}: ∀{l:List α},(∀a∈l,w a≤c)→tot w l≤c*l.length
 |[],_=>D4 _
 |a::r,h=>by
  have h1:=h a (.head _);have h2:=P0 (l:=r) fun b hb=>h b (.tail _ hb);simp only[tot,fW,Nat.mul_add];omega
theorem acy (p:Pool) (w_p:aht p) (l:List Av) (w_l:l.length≤140737488355328) (y_l: ∀x∈l,x.name.size≤140737488355328∧x.to.size≤140737488355328):an C tf [cY p,Wk l] (vB true) []:=by
 refine(Gd _ _ _ _ _ _ _ _ ?_).run;refine⟨_,agr _ _ (by first|omega|assumption) zYs,?_⟩;refine sV (fun _=>⟨rfl,by trivial⟩) fun Vx=> ?_;obtain⟨auY,auZ,au0⟩:=ak4 Vx (by first|omega|assumption);refine⟨_,aqF _ _ (by first|omega|assumption) ay zYs,?_⟩;refine sV (fun _=>⟨rfl,by trivial⟩) fun hz1=> ?_;obtain⟨au1,au2,au3⟩:=ak4 hz1 (by first|omega|assumption);have hB:=aeP (p:=p) ay
 have hS:aJ p≤4194304:=by omega
 have hP:=cC hS
 have hL: ∀o∈l,o.name.size≤1048576∧o.to.size≤1048576:=fun o ho=>by have h1:=oA (w:=Lb) ho;have h2:Lb o=o.name.size+o.to.size:=rfl;have h3:aqr l=l.length+tot Lb l:=rfl;omega
 have hw3:tot wOp l≤5*l.length:=P0 fun m h=>cV _
 have hL2: ∀o∈l,o.name.size≤1073741824∧o.to.size≤1073741824:=fun o ho=>by have:=hL o ho;omega
 have hsz:aJ (AA p l)≤4194304:=uL (abh (l.take 200) p) ay;have hB2:=aeP (p:=(AA p l)) hsz;have hw:=aeQ p;have Yk:=aeQ (AA p l);refine⟨_,_,_,_,_,_,acp _ zYs,?_⟩;refine⟨_,ahs _ ay,?_⟩;refine⟨_,_,_,_,_,_,Oo p l ay ay hL,?_⟩;refine⟨_,_,_,_,_,_,acp _ zYs,?_⟩;refine⟨_,ahs _ ay,?_⟩;refine⟨_,_,_,_,_,_,Cj p l ay ay hL,?_⟩;refine⟨_,acq _ zYs,?_⟩;refine ak zYa ?_;refine⟨_,_,_,_,_,_,acp _ zYs,?_⟩;refine⟨_,acq _ zYs,?_⟩
 refine ak zYa ?_;refine⟨_,ahs _ ay,?_⟩;refine⟨_,aqE _ ay,?_⟩;refine ak zYa ?_;refine⟨_,_,_,_,_,_,_,aeN _ 1 ay ay zYs,?_⟩;refine⟨_,_,am5 _ _ ay ay ay,?_⟩;refine ak zYa ?_;refine⟨_,acq _ zYs,?_⟩;refine ak zYa ?_;refine⟨_,_,_,_,_,_,_,aeN _ 1 ay ay zYs,?_⟩;refine⟨_,aeO _ 1 ay ay zYs,?_⟩;refine ak zYa ?_;refine ak zYa ?_;refine⟨_,_,_,_,_,_,acp _ zYs,?_⟩;refine⟨_,ahs _ ay,?_⟩;refine⟨_,_,_,_,_,_,Cj p l ay ay hL,?_⟩
 refine⟨_,acq _ zYs,?_⟩;refine ak zYa ?_;refine⟨_,aeO _ 1 ay ay zYs,?_⟩;refine ak zYa ?_;refine ak zYa ?_;exact⟨rfl,by trivial⟩
theorem acz (vs:List TV) (h:ad5 C.tt [yI,yH] vs): ∃k,lG C k tf vs (vB true) []:=by
 cases h with
 |cons h0 h=>
  cases h with
  |cons h1 h=>
   cases h
   obtain⟨p,rfl,wp⟩:=apk h0;obtain⟨l,rfl,wl,yl⟩:=aqJ h1;exact acy p wp l wl yl
end Go.T.R
