/- What the functions answer. -/
import Derived.Test.YtiinnfilgnhjfaaGreatTR2
set_option linter.unusedVariables false
set_option linter.unusedSimpArgs false
set_option maxRecDepth 100000
set_option maxHeartbeats 4000000
namespace Go.T.R
open Go Go.T
theorem AP {P:Prop} (h:P:=by kernel_rfl):P:=h
theorem toKey (v0:Int) (v1:Int) (v2:Int) (v3:Int) (v4:Int):ai C MI [.ag [iI v0,iI v1,iI v2,iI v3,iI v4]] (.ag [iI v0,iI v1,iI v2,iI v3,iI v4]) []:=(acW _ _ _ _ _ _ ⟨rfl,by trivial⟩).run
theorem aqK (v0:Int) (v1:Int) (v2:Int) (v3:Int) (v4:Int):ai C MJ [.ag [iI v0,iI v1,iI v2,iI v3,iI v4],.ag [iI v0,iI v1,iI v2,iI v3,iI v4]] (vB true) []:=by
 refine(ac5 _ _ _ _ _ _ _ _ _ _ _ ?_).run;simp
theorem ao8 (l:List (Key)) (hl:l.length≤1099511627776):ai C oS [dM l] (dM l) []:=by
 refine(aad _ _ ?_).run;simp only[bY];refine ah eJ ?_;simp only[gU,B3,lY];refine B6 (e:=bQ) (z:=[iI 0,iI 0,iI 0,iI 0,iI 0]) l (fun i rows=>aa C oS aj 4 0 (vA (l.map bQ) i rows) _) (fun a=>rfl) ?_ ?_
 ·exact IM _ _ _ _ (an cY (UK _ _ _ _ _ ⟨rfl,by trivial⟩))
 ·intro i rows a hi ha hr hn
  refine IM _ _ _ _ (ah eJ ⟨_,_,_,_,_,dg ha,_,_,_,_,_,toKey _ _ _ _ _,_,_,_,_,_,hr,_,_,_,_,_,hr,?_⟩);rw[aG ay];exact hn
theorem ao9 (l:List (Key)) (hl:l.length≤1099511627776):ai C oT [dM l,dM l] (vB true) []:=by
 refine(aaD _ _ _ ?_).run;refine an cY ?_;refine aZ l (fun i=>aa C oT aj 4 0 (vH (l.map bQ) (l.map bQ) i) _) ?_ ?_
 ·exact I9 _ _ _ _ (an cY (Vk _ _ _ _ _ ⟨rfl,by trivial⟩))
 ·intro i a hi ha _ _ hn
  refine I9 _ _ _ _ (ah eJ ⟨_,_,_,_,_,dg ha,_,_,_,_,_,dg ha,_,aqK _ _ _ _ _,an cY ?_⟩);rw[aG ay];exact hn
theorem aqL (v0:Int) (v1:Int):ai C ME [.ag [iI v0,iI v1]] (.ag [iI v0,iI v1]) []:=(ac6 _ _ _ ⟨rfl,by trivial⟩).run
theorem aqM (v0:Int) (v1:Int):ai C MG [.ag [iI v0,iI v1],.ag [iI v0,iI v1]] (vB true) []:=by
 refine(acO _ _ _ _ _ ?_).run;simp
theorem apa (l:List (Age)) (hl:l.length≤1099511627776):ai C oJ [gy l] (gy l) []:=by
 refine(Z0 _ _ ?_).run;simp only[bY];refine ah eJ ?_;simp only[gU,B3,lY];refine B6 (e:=bR) (z:=[iI 0,iI 0]) l (fun i rows=>aa C oJ aj 4 0 (vv (l.map bR) i rows) _) (fun a=>rfl) ?_ ?_
 ·exact IB _ _ _ _ (an cY (Ul _ _ _ _ _ ⟨rfl,by trivial⟩))
 ·intro i rows a hi ha hr hn
  refine IB _ _ _ _ (ah eJ ⟨_,_,dg ha,_,_,aqL _ _,_,_,hr,_,_,hr,?_⟩);rw[aG ay];exact hn
theorem apb (l:List (Age)) (hl:l.length≤1099511627776):ai C oL [gy l,gy l] (vB true) []:=by
 refine(aai _ _ _ ?_).run;refine an cY ?_;refine aZ l (fun i=>aa C oL aj 4 0 (vC (l.map bR) (l.map bR) i) _) ?_ ?_
 ·exact IP _ _ _ _ (an cY (UO _ _ _ _ _ ⟨rfl,by trivial⟩))
 ·intro i a hi ha _ _ hn
  refine IP _ _ _ _ (ah eJ ⟨_,_,dg ha,_,_,dg ha,_,aqM _ _,an cY ?_⟩);rw[aG ay];exact hn
theorem toCell (v0:Int) (v1:Bool) (v2:Int):ai C J4 [.ag [iI v0,iB v1,iI v2]] (.ag [iI v0,iB v1,iI v2]) []:=(Zn _ _ _ _ ⟨rfl,by trivial⟩).run
theorem apc (v0:Int) (v1:Bool) (v2:Int):ai C J5 [.ag [iI v0,iB v1,iI v2],.ag [iI v0,iB v1,iI v2]] (vB true) []:=by
 refine(ZG _ _ _ _ _ _ _ ?_).run;simp
theorem am5 (l:List (Cell)) (hl:l.length≤1099511627776):ai C mZ [jx l] (jx l) []:=by
 refine(Yd _ _ ?_).run;simp only[bY];refine ah eJ ?_;simp only[gU,B3,lY];refine B6 (e:=bM) (z:=[iI 0,iB false,iI 0]) l (fun i rows=>aa C mZ aj 4 0 (um (l.map bM) i rows) _) (fun a=>rfl) ?_ ?_
 ·exact Fv _ _ _ _ (an cY (RP _ _ _ _ _ ⟨rfl,by trivial⟩))
 ·intro i rows a hi ha hr hn
  refine Fv _ _ _ _ (ah eJ ⟨_,_,_,dg ha,_,_,_,toCell _ _ _,_,_,_,hr,_,_,_,hr,?_⟩);rw[aG ay];exact hn
theorem am6 (l:List (Cell)) (hl:l.length≤1099511627776):ai C m0 [jx l,jx l] (vB true) []:=by
 refine(Xm _ _ _ ?_).run;refine an cY ?_;refine aZ l (fun i=>aa C m0 aj 4 0 (ua (l.map bM) (l.map bM) i) _) ?_ ?_
 ·exact E9 _ _ _ _ (an cY (Q4 _ _ _ _ _ ⟨rfl,by trivial⟩))
 ·intro i a hi ha _ _ hn
  refine E9 _ _ _ _ (ah eJ ⟨_,_,_,dg ha,_,_,_,dg ha,_,apc _ _ _,an cY ?_⟩);rw[aG ay];exact hn
theorem aqN (v0:ByteArray) (v1:Int) (v2:Int) (v3:Bool):ai C MF [.ag [iS v0,iI v1,iI v2,iB v3]] (.ag [iS v0,iI v1,iI v2,iB v3]) []:=(acV _ _ _ _ _ ⟨rfl,by trivial⟩).run
theorem aqO (v0:ByteArray) (v1:Int) (v2:Int) (v3:Bool):ai C MH [.ag [iS v0,iI v1,iI v2,iB v3],.ag [iS v0,iI v1,iI v2,iB v3]] (vB true) []:=by
 refine(ac0 _ _ _ _ _ _ _ _ _ ?_).run;simp
theorem apd (l:List (Vol)) (hl:l.length≤1099511627776):ai C oK [qW l] (qW l) []:=by
 refine(Zg _ _ ?_).run;simp only[bY];refine ah eJ ?_;simp only[gU,B3,lY];refine B6 (e:=cj) (z:=[iS wV,iI 0,iI 0,iB false]) l (fun i rows=>aa C oK aj 4 0 (vm (l.map cj) i rows) _) (fun a=>rfl) ?_ ?_
 ·exact Ia _ _ _ _ (an cY (Tm _ _ _ _ _ ⟨rfl,by trivial⟩))
 ·intro i rows a hi ha hr hn
  refine Ia _ _ _ _ (ah eJ ⟨_,_,_,_,dg ha,_,_,_,_,aqN _ _ _ _,_,_,_,_,hr,_,_,_,_,hr,?_⟩);rw[aG ay];exact hn
theorem ape (l:List (Vol)) (hl:l.length≤1099511627776):ai C oM [qW l,qW l] (vB true) []:=by
 refine(ZC _ _ _ ?_).run;refine an cY ?_;refine aZ l (fun i=>aa C oM aj 4 0 (vq (l.map cj) (l.map cj) i) _) ?_ ?_
 ·exact Ij _ _ _ _ (an cY (TM _ _ _ _ _ ⟨rfl,by trivial⟩))
 ·intro i a hi ha _ _ hn
  refine Ij _ _ _ _ (ah eJ ⟨_,_,_,_,dg ha,_,_,_,_,dg ha,_,aqO _ _ _ _,an cY ?_⟩);rw[aG ay];exact hn
theorem aso (v0:Int) (v1:ByteArray) (v2:ByteArray) (v3:Int) (v4:Int):ai C Qh [.ag [iI v0,iS v1,iS v2,iI v3,iI v4]] (.ag [iI v0,iS v1,iS v2,iI v3,iI v4]) []:=(ae5 _ _ _ _ _ _ ⟨rfl,by trivial⟩).run
theorem asq (v0:Int) (v1:ByteArray) (v2:ByteArray) (v3:Int) (v4:Int):ai C Qo [.ag [iI v0,iS v1,iS v2,iI v3,iI v4],.ag [iI v0,iS v1,iS v2,iI v3,iI v4]] (vB true) []:=by
 refine(afj _ _ _ _ _ _ _ _ _ _ _ ?_).run;simp
theorem ahC (l:List (AF)) (hl:l.length≤1099511627776):ai C mF [Wv l] (Wv l) []:=by
 refine(acM _ _ ?_).run;simp only[bY];refine ah eJ ?_;simp only[gU,B3,lY];refine B6 (e:=DP) (z:=[iI 0,iS wV,iS wV,iI 0,iI 0]) l (fun i rows=>aa C mF aj 4 0 (xu (l.map DP) i rows) _) (fun a=>rfl) ?_ ?_
 ·exact KD _ _ _ _ (an cY (Xk _ _ _ _ _ ⟨rfl,by trivial⟩))
 ·intro i rows a hi ha hr hn
  refine KD _ _ _ _ (ah eJ ⟨_,_,_,_,_,dg ha,_,_,_,_,_,aso _ _ _ _ _,_,_,_,_,_,hr,_,_,_,_,_,hr,?_⟩);rw[aG ay];exact hn
theorem aqP (l:List (AF)) (hl:l.length≤1099511627776):ai C qH [Wv l,Wv l] (vB true) []:=by
 refine(acY _ _ _ ?_).run;refine an cY ?_;refine aZ l (fun i=>aa C qH aj 4 0 (xx (l.map DP) (l.map DP) i) _) ?_ ?_
 ·exact KL _ _ _ _ (an cY (XT _ _ _ _ _ ⟨rfl,by trivial⟩))
 ·intro i a hi ha _ _ hn
  refine KL _ _ _ _ (ah eJ ⟨_,_,_,_,_,dg ha,_,_,_,_,_,dg ha,_,asq _ _ _ _ _,an cY ?_⟩);rw[aG ay];exact hn
theorem apf (l:List (Int)) (hl:l.length≤1099511627776):ai C oQ [oD l] (oD l) []:=by
 refine(ZF _ _ ?_).run;simp only[bY];refine ah eJ ?_;simp only[gU,B3,lY];refine B6 (e:=bP) (z:=[iI 0]) l (fun i rows=>aa C oQ aj 4 0 (vr (l.map bP) i rows) _) (fun a=>rfl) ?_ ?_
 ·exact Im _ _ _ _ (an cY (TY _ _ _ _ _ ⟨rfl,by trivial⟩))
 ·intro i rows a hi ha hr hn
  refine Im _ _ _ _ (ah eJ ⟨_,dg ha,_,hr,_,hr,?_⟩);rw[aG ay];exact hn
theorem apg (l:List (Int)) (hl:l.length≤1099511627776):ai C oR [oD l,oD l] (vB true) []:=by
 refine(Z6 _ _ _ ?_).run;refine an cY ?_;refine aZ l (fun i=>aa C oR aj 4 0 (vw (l.map bP) (l.map bP) i) _) ?_ ?_
 ·exact IE _ _ _ _ (an cY (Ux _ _ _ _ _ ⟨rfl,by trivial⟩))
 ·intro i a hi ha _ _ hn
  refine IE _ _ _ _ (ah eJ ⟨_,dg ha,_,dg ha,an cY ?_⟩);rw[aG ay];exact hn
theorem am7 (l:List (List Key)) (hl:l.length≤1099511627776) (hs: ∀s∈l,s.length≤1099511627776):ai C m6 [N3 l] (N3 l) []:=by
 refine(XN _ _ ?_).run;simp only[bY];refine ah eJ ?_;simp only[gU,B3,lY];refine B6 (e:=cW) (z:=[TC.sub 5 []]) l (fun i rows=>aa C m6 aj 4 0 (ue (l.map cW) i rows) _) (fun a=>rfl) ?_ ?_
 ·exact Fm _ _ _ _ (an cY (Rz _ _ _ _ _ ⟨rfl,by trivial⟩))
 ·intro i rows a hi ha hr hn
  refine Fm _ _ _ _ (ah eJ ⟨_,dg ha,_,ao8 _ (hs _ (gQ ha)),_,hr,_,hr,?_⟩);rw[aG ay];exact hn
def Oh (n:List (List Key)):Prop:=n.length≤1099511627776∧ ∀s∈n,s.length≤1099511627776
def aph (l:List (List (List Key))):Prop:=l.length≤1099511627776∧ ∀n∈l,Oh n
def abr (t:Tree):Prop:=t.aE.length≤1099511627776∧aph t.nodes
theorem api (n:List (List Key)) (h:Oh n):ai C J8 [hD n] (hD n) []:=(Zu _ _ ⟨_,am7 n h.1 h.2,rfl,rfl⟩).run
theorem am8 (l:List (List (List Key))) (hl:l.length≤1099511627776) (hs: ∀n∈l,Oh n):ai C m4 [AG l] (AG l) []:=by
 refine(XX _ _ ?_).run;simp only[bY];refine ah eJ ?_;simp only[gU,B3,lY];refine B6 (e:=aQ) (z:=[TC.sub 1 []]) l (fun i rows=>aa C m4 aj 4 0 (ug (l.map aQ) i rows) _) (fun a=>rfl) ?_ ?_
 ·exact Fq _ _ _ _ (an cY (RC _ _ _ _ _ ⟨rfl,by trivial⟩))
 ·intro i rows a hi ha hr hn
  refine Fq _ _ _ _ (ah eJ ⟨_,dg ha,_,api _ (hs _ (gQ ha)),_,hr,_,hr,?_⟩);rw[aG ay];exact hn
theorem toTree (t:Tree) (h:abr t):ai C JZ [dX t] (dX t) []:=(ZB _ _ _ ⟨_,apf _ h.1,_,am8 _ h.2.1 h.2.2,rfl,rfl⟩).run
theorem am9 (l:List (List Key)) (hl:l.length≤1099511627776) (hs: ∀s∈l,s.length≤1099511627776):ai C m7 [N3 l,N3 l] (vB true) []:=by
 refine(X8 _ _ _ ?_).run;refine an cY ?_;refine aZ l (fun i=>aa C m7 aj 4 0 (uj (l.map cW) (l.map cW) i) _) ?_ ?_
 ·exact Ft _ _ _ _ (an cY (RM _ _ _ _ _ ⟨rfl,by trivial⟩))
 ·intro i a hi ha _ _ hn
  refine Ft _ _ _ _ (ah eJ ⟨_,dg ha,_,dg ha,_,ao9 _ (hs _ (gQ ha)),an cY ?_⟩);rw[aG ay];exact hn
theorem apj (n:List (List Key)) (h:Oh n):ai C J9 [hD n,hD n] (vB true) []:=(ZQ _ _ _ ⟨_,am9 n h.1 h.2,by simp⟩).run
theorem ana (l:List (List (List Key))) (hl:l.length≤1099511627776) (hs: ∀n∈l,Oh n):ai C m5 [AG l,AG l] (vB true) []:=by
 refine(Yg _ _ _ ?_).run;refine an cY ?_;refine aZ l (fun i=>aa C m5 aj 4 0 (uo (l.map aQ) (l.map aQ) i) _) ?_ ?_
 ·exact Fw _ _ _ _ (an cY (RS _ _ _ _ _ ⟨rfl,by trivial⟩))
 ·intro i a hi ha _ _ hn
  refine Fw _ _ _ _ (ah eJ ⟨_,dg ha,_,dg ha,_,apj _ (hs _ (gQ ha)),an cY ?_⟩);rw[aG ay];exact hn
theorem apk (t:Tree) (h:abr t):ai C J0 [dX t,dX t] (vB true) []:=(Z3 _ _ _ _ _ ⟨_,apg _ h.1,an rfl ⟨_,ana _ h.2.1 h.2.2,by simp⟩⟩).run
structure aeT (p:Pool):Prop where
 t:abr p.t
 aL:p.aL.length≤1099511627776
 cells:p.cells.length≤1099511627776
 au:p.au.length≤1099511627776
theorem acz (p:Pool) (h:aeT p):ai C wC [c6 p] (c6 p) []:=(Zy _ _ _ _ _ _ _ ⟨_,_,toTree p.t h.t,_,apa _ h.aL,_,am5 _ h.cells,_,apd _ h.au,rfl,rfl⟩).run
theorem acA (p:Pool) (h:aeT p):ai C wD [c6 p,c6 p] (vB true) []:=(aag _ _ _ _ _ _ _ _ _ _ _ _ _ ⟨_,apk p.t h.t,an rfl ⟨_,apb _ h.aL,an rfl ⟨_,am6 _ h.cells,an rfl ⟨_,ape _ h.au,an rfl cY⟩⟩⟩⟩).run
theorem apl (l:List (Int)) (left:Int) (h0:0≤left∧left≤1048576) (hl:l.length≤140737488355328):ai C J3 [oD l,vI left] (vI (nG left l.length)) []:=by
 refine(Zl _ _ _ ?_).run;simp only[bY,gU];rw[dh ay];unfold nG;simp only[dm,bJ]
 by_cases h:left<(l.length:Int)
 ·rw[aI ay,aI h];exact⟨rfl,by trivial⟩
 ·rw[aF ay,aF h];exact⟨rfl,by trivial⟩
theorem apm (l:List (Key)) (left:Int) (h0:0≤left∧left≤1048576) (hl:l.length≤140737488355328):ai C Ka [dM l,vI left] (vI (nG left l.length)) []:=by
 refine(ZY _ _ _ ?_).run;simp only[bY,gU];rw[dh ay];unfold nG;simp only[dm,bJ]
 by_cases h:left<(l.length:Int)
 ·rw[aI ay,aI h];exact⟨rfl,by trivial⟩
 ·rw[aF ay,aF h];exact⟨rfl,by trivial⟩
theorem apn (l:List (Age)) (left:Int) (h0:0≤left∧left≤1048576) (hl:l.length≤140737488355328):ai C JY [gy l,vI left] (vI (nG left l.length)) []:=by
 refine(ZA _ _ _ ?_).run;simp only[bY,gU];rw[dh ay];unfold nG;simp only[dm,bJ]
 by_cases h:left<(l.length:Int)
 ·rw[aI ay,aI h];exact⟨rfl,by trivial⟩
 ·rw[aF ay,aF h];exact⟨rfl,by trivial⟩
theorem anb (l:List (Cell)) (left:Int) (h0:0≤left∧left≤1048576) (hl:l.length≤140737488355328):ai C F8 [jx l,vI left] (vI (nG left l.length)) []:=by
 refine(XV _ _ _ ?_).run;simp only[bY,gU];rw[dh ay];unfold nG;simp only[dm,bJ]
 by_cases h:left<(l.length:Int)
 ·rw[aI ay,aI h];exact⟨rfl,by trivial⟩
 ·rw[aF ay,aF h];exact⟨rfl,by trivial⟩
theorem anc (l:List (List Key)) (left:Int) (h0:0≤left∧left≤1048576) (hl:l.length≤140737488355328) (hs: ∀s∈l,s.length≤140737488355328):ai C jq [N3 l,vI left] (vI (nG left (l.length+tot bZ l))) []:=by
 refine(XA _ _ _ ?_).run;simp only[bY,gU];rw[dh ay];simp only[dm,bJ]
 by_cases h:left<(l.length:Int)
 ·rw[aI ay]
  refine⟨?_,by trivial⟩;unfold nG;rw[aI ay]
 ·rw[aF ay]
  have key: ∀cur:Int,0≤cur∧cur≤1048576→nG cur (tot bZ (l.drop 0))=nG left (l.length+tot bZ l)→aa C jq av 4 0 (qi (l.map cW) cur ((0:Nat):Int)) (fun x st=>ax C jq av x st fun r fs=>r=vI (nG left (l.length+tot bZ l))∧fs=[]):=by
   refine aZ l (fun i=> ∀cur:Int,0≤cur∧cur≤1048576→nG cur (tot bZ (l.drop i))=nG left (l.length+tot bZ l)→aa C jq av 4 0 (qi (l.map cW) cur i) _) ?_ ?_
   ·intro cur hc he
    refine Fg _ _ _ _ (an cY (Ro _ _ _ _ _ ⟨?_,by trivial⟩));rw[←he,ew];unfold nG tot;rw[aF ay];simp
   ·intro i a hi ha hd _ hn cur hc he
    rw[hd] at he;simp only[tot] at he;refine Fg _ _ _ _ (ah eJ ⟨_,dg ha,_,apm a cur hc (hs a (gQ ha)),?_⟩)
    by_cases hw:cur<(bZ a:Int)
    ·refine ah (by simp[nG,bZ] at hw ⊢;omega) (Rn _ ⟨?_,by trivial⟩)
     rw[←he];unfold nG;rw[aI ay]
    ·have Ea:nG cur (bZ a)=cur-bZ a:=aF hw
     refine an (by simp[nG,bZ] at hw ⊢;omega) ?_;rw[aG ay];have:=hn (cur-bZ a) ay (by rw[←he];unfold nG;split<;>split<;>omega);rw[←Ea] at this;exact this
  refine key (left-l.length) ay ?_;simp only[List.drop_zero];unfold nG
  split<;>split<;>omega
theorem agz (n:List (List Key)) (left:Int) (h0:0≤left∧left≤1048576) (hl:n.length≤140737488355328) (hs: ∀s∈n,s.length≤140737488355328):ai C J7 [hD n,vI left] (vI (nG left (aP n))) []:=by
 refine(aaa _ _ _ ⟨_,anc n left h0 hl hs,?_⟩).run;show aq _ _ _;unfold aP;simp only[dm,bJ]
 split
 ·refine⟨?_,by trivial⟩
  unfold nG at*
  split<;>simp_all<;>omega
 ·simp
theorem ane (l:List (List (List Key))) (left:Int) (h0:0≤left∧left≤1048576) (hl:l.length≤140737488355328) (hs: ∀n∈l,n.length≤140737488355328∧ ∀s∈n,s.length≤140737488355328):ai C jo [AG l,vI left] (vI (nG left (l.length+tot aP l))) []:=by
 refine(XI _ _ _ ?_).run;simp only[bY,gU];rw[dh ay];simp only[dm,bJ]
 by_cases h:left<(l.length:Int)
 ·rw[aI ay]
  refine⟨?_,by trivial⟩;unfold nG;rw[aI ay]
 ·rw[aF ay]
  have key: ∀cur:Int,0≤cur∧cur≤1048576→nG cur (tot aP (l.drop 0))=nG left (l.length+tot aP l)→aa C jo av 4 0 (qk (l.map aQ) cur ((0:Nat):Int)) (fun x st=>ax C jo av x st fun r fs=>r=vI (nG left (l.length+tot aP l))∧fs=[]):=by
   refine aZ l (fun i=> ∀cur:Int,0≤cur∧cur≤1048576→nG cur (tot aP (l.drop i))=nG left (l.length+tot aP l)→aa C jo av 4 0 (qk (l.map aQ) cur i) _) ?_ ?_
   ·intro cur hc he
    refine Fi _ _ _ _ (an cY (Rs _ _ _ _ _ ⟨?_,by trivial⟩));rw[←he,ew];unfold nG tot;rw[aF ay];simp
   ·intro i a hi ha hd _ hn cur hc he
    rw[hd] at he;simp only[tot] at he;refine Fi _ _ _ _ (ah eJ ⟨_,dg ha,_,agz a cur hc (hs a (gQ ha)).1 (hs a (gQ ha)).2,?_⟩)
    by_cases hw:cur<(aP a:Int)
    ·refine ah (by simp[nG,aP] at hw ⊢;omega) (Rr _ ⟨?_,by trivial⟩)
     rw[←he];unfold nG;rw[aI ay]
    ·have Ea:nG cur (aP a)=cur-aP a:=aF hw
     refine an (by simp[nG,aP] at hw ⊢;omega) ?_;rw[aG ay];have:=hn (cur-aP a) ay (by rw[←he];unfold nG;split<;>split<;>omega);rw[←Ea] at this;exact this
  refine key (left-l.length) ay ?_;simp only[List.drop_zero];unfold nG
  split<;>split<;>omega
theorem VE {a:Int} {n m:Nat} (h: ¬nG a n<0) (h0:0≤a):nG (nG a n) m=nG a (n+m):=by unfold nG at*;split<;>split<;>split<;>simp_all<;>omega
theorem acB {a:Int} {n:Nat} (h: ¬nG a n<0) (h0:0≤a∧a≤1048576):0≤nG a n∧nG a n≤1048576:=by unfold nG at*;split<;>simp_all<;>omega
theorem VF {a:Int} {n m:Nat} (h:nG a n<0) (h0:0≤a):nG a (n+m)= -1:=by unfold nG at*;split<;>simp_all<;>omega
structure akX (t:Tree):Prop where
 aE:t.aE.length≤140737488355328
 nodes:t.nodes.length≤140737488355328
 node: ∀n∈t.nodes,n.length≤140737488355328∧ ∀s∈n,s.length≤140737488355328
theorem agA (t:Tree) (left:Int) (h0:0≤left∧left≤1048576) (h:akX t):ai C JX [dX t,vI left] (vI (nG left (cH t))) []:=by
 refine(Zf _ _ _ _ ⟨_,apl _ left h0 h.aE,?_⟩).run;unfold cH wY;refine td (fun hb=> ?_) fun hb=>⟨_,ane _ _ (acB (by simpa using hb) h0) h.nodes h.node,?_⟩
 ·rw[VF (by simpa using hb) h0.1];exact⟨rfl,by trivial⟩
 ·have hb: ¬nG left t.aE.length<0:=by simpa using hb
  rw[VE hb h0.1];refine td (fun hc=> ?_) fun hc=>⟨rfl,by trivial⟩;refine⟨?_,by trivial⟩
  have hc:nG left (t.aE.length+(t.nodes.length+tot aP t.nodes))<0:=by simpa using hc
  unfold nG at*
  split<;>simp_all<;>omega
theorem aiv (s:ByteArray) (a z:Int) (f:Bool) (left:Int) (h0:0≤left∧left≤1048576) (hl:s.size≤140737488355328):ai C MD [.ag [iS s,iI a,iI z,iB f],vI left] (vI (nG left s.size)) []:=by
 refine(acZ _ _ _ _ _ _ ?_).run;simp only[Mm,gU];rw[dh ay];unfold nG;simp only[dm,bJ]
 by_cases h:left<(s.size:Int)
 ·rw[aI ay,aI h];exact⟨rfl,by trivial⟩
 ·rw[aF ay,aF h];exact⟨rfl,by trivial⟩
theorem apo (l:List (Vol)) (left:Int) (h0:0≤left∧left≤1048576) (hl:l.length≤140737488355328) (hs: ∀v∈l,v.name.size≤140737488355328):ai C kk [qW l,vI left] (vI (nG left (l.length+tot qd l))) []:=by
 refine(aah _ _ _ ?_).run;simp only[bY,gU];rw[dh ay];simp only[dm,bJ]
 by_cases h:left<(l.length:Int)
 ·rw[aI ay]
  refine⟨?_,by trivial⟩;unfold nG;rw[aI ay]
 ·rw[aF ay]
  have key: ∀cur:Int,0≤cur∧cur≤1048576→nG cur (tot qd (l.drop 0))=nG left (l.length+tot qd l)→aa C kk av 4 0 (rF (l.map cj) cur ((0:Nat):Int)) (fun x st=>ax C kk av x st fun r fs=>r=vI (nG left (l.length+tot qd l))∧fs=[]):=by
   refine aZ l (fun i=> ∀cur:Int,0≤cur∧cur≤1048576→nG cur (tot qd (l.drop i))=nG left (l.length+tot qd l)→aa C kk av 4 0 (rF (l.map cj) cur i) _) ?_ ?_
   ·intro cur hc he
    refine IN _ _ _ _ (an cY (UN _ _ _ _ _ ⟨?_,by trivial⟩));rw[←he,ew];unfold nG tot;rw[aF ay];simp
   ·intro i a hi ha hd _ hn cur hc he
    rw[hd] at he;simp only[tot] at he;refine IN _ _ _ _ (ah eJ ⟨_,_,_,_,dg ha,_,aiv _ _ _ _ cur hc (hs a (gQ ha)),?_⟩)
    by_cases hw:cur<(qd a:Int)
    ·refine ah (by simp[nG,qd] at hw ⊢;omega) (UM _ ⟨?_,by trivial⟩)
     rw[←he];unfold nG;rw[aI ay]
    ·have Ea:nG cur (qd a)=cur-qd a:=aF hw
     refine an (by simp[nG,qd] at hw ⊢;omega) ?_;rw[aG ay];have:=hn (cur-qd a) ay (by rw[←he];unfold nG;split<;>split<;>omega);rw[←Ea] at this;exact this
  refine key (left-l.length) ay ?_;simp only[List.drop_zero];unfold nG
  split<;>split<;>omega
structure ahD (p:Pool):Prop where
 t:akX p.t
 aL:p.aL.length≤140737488355328
 cells:p.cells.length≤140737488355328
 au:p.au.length≤140737488355328
 vol: ∀v∈p.au,v.name.size≤140737488355328
 siz: ∀v∈p.au,v.size≤9223372036854775807
theorem agB (p:Pool) (left:Int) (h0:0≤left∧left≤1048576) (h:ahD p):ai C JW [c6 p,vI left] (vI (nG left (aJ p))) []:=by
 refine(aaf _ _ _ _ _ _ _ _ ⟨_,agA p.t left h0 h.t,?_⟩).run;unfold aJ DQ;refine td (fun hb=> ?_) fun hb=>⟨_,apn _ _ (acB (by simpa using hb) h0) h.aL,?_⟩
 ·rw[nw,nw,VF (by simpa using hb) h0.1];exact⟨rfl,by trivial⟩
 rw[VE (by simpa using hb) h0.1];refine td (fun hb=> ?_) fun hb=>⟨_,anb _ _ (acB (by simpa using hb) h0) h.cells,?_⟩
 ·rw[nw,VF (by simpa using hb) h0.1];exact⟨rfl,by trivial⟩
 rw[VE (by simpa using hb) h0.1];refine td (fun hb=> ?_) fun hb=>⟨_,apo _ _ (acB (by simpa using hb) h0) h.au h.vol,?_⟩
 ·rw[VF (by simpa using hb) h0.1];exact⟨rfl,by trivial⟩
 rw[VE (by simpa using hb) h0.1];refine td (fun hc=> ?_) fun hc=>⟨rfl,by trivial⟩;refine⟨?_,by trivial⟩
 have hc:nG left (cH p.t+p.aL.length+p.cells.length+(p.au.length+tot qd p.au))<0:=by simpa using hc
 unfold nG at*
 split<;>simp_all<;>omega
theorem akY (k:Int) (s t:ByteArray) (a b left:Int) (h0:0≤left∧left≤1048576) (hs:s.size≤140737488355328) (ht:t.size≤140737488355328):ai C Qg [.ag [iI k,iS s,iS t,iI a,iI b],vI left] (vI (nG left (s.size+t.size))) []:=by
 refine(aff _ _ _ _ _ _ _ ?_).run;simp only[Mm,gU];rw[dh (a:=left) ay,dh ay];unfold nG;simp only[dm,bJ]
 split
 ·rw[aI ay];exact⟨rfl,by trivial⟩
 ·split
  ·rw[aI ay];exact⟨rfl,by trivial⟩
  ·rw[aF ay];rw[show left-(s.size:Int)-(t.size:Int)=left-((s.size+t.size:Nat):Int) by omega];exact⟨rfl,by trivial⟩
theorem aqQ (l:List (AF)) (left:Int) (h0:0≤left∧left≤1048576) (hl:l.length≤140737488355328) (hs: ∀o∈l,o.name.size≤140737488355328∧o.to.size≤140737488355328):ai C mE [Wv l,vI left] (vI (nG left (l.length+tot Lm l))) []:=by
 refine(acX _ _ _ ?_).run;simp only[bY,gU];rw[dh ay];simp only[dm,bJ]
 by_cases h:left<(l.length:Int)
 ·rw[aI ay]
  refine⟨?_,by trivial⟩;unfold nG;rw[aI ay]
 ·rw[aF ay]
  have key: ∀cur:Int,0≤cur∧cur≤1048576→nG cur (tot Lm (l.drop 0))=nG left (l.length+tot Lm l)→aa C mE av 4 0 (tJ (l.map DP) cur ((0:Nat):Int)) (fun x st=>ax C mE av x st fun r fs=>r=vI (nG left (l.length+tot Lm l))∧fs=[]):=by
   refine aZ l (fun i=> ∀cur:Int,0≤cur∧cur≤1048576→nG cur (tot Lm (l.drop i))=nG left (l.length+tot Lm l)→aa C mE av 4 0 (tJ (l.map DP) cur i) _) ?_ ?_
   ·intro cur hc he
    refine KK _ _ _ _ (an cY (XR _ _ _ _ _ ⟨?_,by trivial⟩));rw[←he,ew];unfold nG tot;rw[aF ay];simp
   ·intro i a hi ha hd _ hn cur hc he
    rw[hd] at he;simp only[tot] at he;refine KK _ _ _ _ (ah eJ ⟨_,_,_,_,_,dg ha,_,akY _ _ _ _ _ cur hc (hs a (gQ ha)).1 (hs a (gQ ha)).2,?_⟩)
    by_cases hw:cur<(Lm a:Int)
    ·refine ah (by simp[nG,Lm] at hw ⊢;omega) (XQ _ ⟨?_,by trivial⟩)
     rw[←he];unfold nG;rw[aI ay]
    ·have Ea:nG cur (Lm a)=cur-Lm a:=aF hw
     refine an (by simp[nG,Lm] at hw ⊢;omega) ?_;rw[aG ay];have:=hn (cur-Lm a) ay (by rw[←he];unfold nG;split<;>split<;>omega);rw[←Ea] at this;exact this
  refine key (left-l.length) ay ?_;simp only[List.drop_zero];unfold nG
  split<;>split<;>omega
theorem nL (a b c:Int):ai C cM [vI a,vI b,vI c] (vB (iC a b c)) []:=by
 refine(aal _ _ _ _ ?_).run;simp only[gl,bJ,iC]
 split<;>simp_all<;>omega
theorem tE (a b c:Int):ai C dP [vI a,vI b,vI c] (vB (iC a b c)) []:=by
 refine(afd _ _ _ _ ?_).run;simp only[gl,bJ,iC]
 split<;>simp_all<;>omega
@[simp] theorem xh (a b c:Int) (q:Bool):ai C cM [vI a,vI b,vI c] (vB q) []↔q=iC a b c:=vQ (nL a b c)
@[simp] theorem D1 (a b c:Int) (q:Bool):ai C dP [vI a,vI b,vI c] (vB q) []↔q=iC a b c:=vQ (tE a b c)
theorem WW (b a k c g:Int):ai C AO [.ag [iI b,iI a,iI k,iI c,iI g]] (vB (jW ⟨b,a,k,c,g⟩)) []:=by
 refine(ac8 _ _ _ _ _ _ ?_).run;simp only[xh,dA,jW,bE,bU,bJ]
 cases iC b 0 15<;>cases iC a 1 60<;>cases iC k 0 2<;>by_cases h:k=1<;>by_cases h1:c=0<;>by_cases h2:g=0<;>cases iC c 0 23<;>simp_all
theorem WX (b a k c g:Int):ai C AN [.ag [iI b,iI a,iI k,iI c,iI g]] (vB (jW ⟨b,a,k,c,g⟩)) []:=by
 refine(acQ _ _ _ _ _ _ ?_).run;simp only[D1,dA,jW,bE,bU,bJ]
 cases iC b 0 15<;>cases iC a 1 60<;>cases iC k 0 2<;>by_cases h:k=1<;>by_cases h1:c=0<;>by_cases h2:g=0<;>cases iC c 0 23<;>simp_all
@[simp] theorem Oi (b a k c g:Int) (q:Bool):ai C AO [.ag [iI b,iI a,iI k,iI c,iI g]] (vB q) []↔q=jW ⟨b,a,k,c,g⟩:=vQ (WW b a k c g)
@[simp] theorem Oj (b a k c g:Int) (q:Bool):ai C AN [.ag [iI b,iI a,iI k,iI c,iI g]] (vB q) []↔q=jW ⟨b,a,k,c,g⟩:=vQ (WX b a k c g)
@[simp] theorem Kb (b a k c g b' a' k' c' g':Int) (q:Bool):ai C Ab [.ag [iI b,iI a,iI k,iI c,iI g],.ag [iI b',iI a',iI k',iI c',iI g']] (vB q) []↔q=fT ⟨b,a,k,c,g⟩ ⟨b',a',k',c',g'⟩:=vQ (by
  refine(XO _ _ _ _ _ _ _ _ _ _ _ ?_).run;simp only[dm,bE,bJ,fT]
  by_cases h1:b<b'<;>by_cases h2:b=b'<;>simp_all)
@[simp] theorem Kd (b a k c g b' a' k' c' g':Int) (q:Bool):ai C z8 [.ag [iI b,iI a,iI k,iI c,iI g],.ag [iI b',iI a',iI k',iI c',iI g']] (vB q) []↔q=fT ⟨b,a,k,c,g⟩ ⟨b',a',k',c',g'⟩:=vQ (by
  refine(Xy _ _ _ _ _ _ _ _ _ _ _ ?_).run;simp only[dm,bE,bU,bJ,fT]
  by_cases h2:b=b'<;>simp_all)
@[simp] theorem SK (b a k c g b' a' k' c' g':Int) (q:Bool):ai C uY [.ag [iI b,iI a,iI k,iI c,iI g],.ag [iI b',iI a',iI k',iI c',iI g']] (vB q) []↔q=qe ⟨b,a,k,c,g⟩ ⟨b',a',k',c',g'⟩:=vQ (by
  refine(UJ _ _ _ _ _ _ _ _ _ _ _ ?_).run;simp only[dm,bE,bU,bJ,qe]
  by_cases h2:b=b'<;>simp_all)
@[simp] theorem SL (b a k c g b' a' k' c' g':Int) (q:Bool):ai C uX [.ag [iI b,iI a,iI k,iI c,iI g],.ag [iI b',iI a',iI k',iI c',iI g']] (vB q) []↔q=qe ⟨b,a,k,c,g⟩ ⟨b',a',k',c',g'⟩:=vQ (by
  refine(Uf _ _ _ _ _ _ _ _ _ _ _ ?_).run;simp only[dm,bE,bU,bJ,qe]
  by_cases h2:b=b'<;>simp_all)
theorem qZ (l:List Key) (x:Key) (hl:l.length≤1073741824):ai C cz [dM l,uJ x] (dM (iF l x)) []:=by
 refine(ZL _ _ _ _ _ _ _ ?_).run
 have key: ∀(put:Bool) (acc:List Key),acc.length+(l.drop 0).length≤l.length+(if put then 1 else 0)→acc++iE x put (l.drop 0)=iF l x→aa C cz av 4 0 (iz (l.map bQ) put ((0:Nat):Int) x.b x.a x.k x.c x.g (acc.map bQ)) (fun u st=>ax C cz av u st fun r fs=>r=dM (iF l x)∧fs=[]):=by
  refine aZ l (fun i=> ∀(put:Bool) (acc:List Key),acc.length+(l.drop i).length≤l.length+(if put then 1 else 0)→acc++iE x put (l.drop i)=iF l x→aa C cz av 4 0 (iz (l.map bQ) put i x.b x.a x.k x.c x.g (acc.map bQ)) _) ?_ ?_
  ·intro put acc hb he
   refine Ir _ _ _ _ _ _ _ _ _ _ (an cY (T9 _ _ _ _ _ _ _ _ _ _ _ ?_));simp only[B7,eu,qG,dz,bU,cT,bY]
   have hb2:acc.length≤l.length+1:=by simp at hb;split at hb<;>omega
   rw[cP ay];rw[ew] at he
   cases put<;>simp[iE] at he ⊢ <;>rw[←he]<;>simp
  ·intro i a hi ha hd _ hn put acc hb he
   rw[hd] at hb he;simp only[fX] at hb
   have hb':acc.length+(List.drop (i+1) l).length+1≤l.length+1:=by split at hb<;>omega
   refine Ir _ _ _ _ _ _ _ _ _ _ (ah eJ ?_);simp only[lN,aH,ha,aY,dw,Kd,SL,dA,bU,eu,B7,qG,dz,cT,bY,cG,gL];simp (disch:=omega) only[cP,aG,lg];simp only[iE] at he
   cases put<;>cases hk:fT a x<;>cases hs:qe a x<;>simp only[lg,lM]<;>simp[hk,hs] at he hb<;>exact hn _ _ (by simp at hb ⊢;omega) (by simpa using he)
 exact key false [] cY rfl
@[simp] theorem YP (l:List Key) (hl:l.length≤1073741824) (b a k c g:Int) (q:RR):ai C cz [.c (.sub 5 (l.map bQ)),.ag [iI b,iI a,iI k,iI c,iI g]] (.c (.sub 5 q)) []↔q=(iF l ⟨b,a,k,c,g⟩).map bQ:=aem (qZ l ⟨b,a,k,c,g⟩ hl)
theorem vi (l:List Key) (x:Key) (hl:l.length≤1073741824):ai C eD [dM l,uJ x] (dM (iF l x)) []:=by
 refine(aaA _ _ _ _ _ _ _ ?_).run
 have key: ∀(put:Bool) (acc:List Key),acc.length+(l.drop 0).length≤l.length+(if put then 1 else 0)→acc++iE x put (l.drop 0)=iF l x→aa C eD av 4 0 (iA put (l.map bQ) ((0:Nat):Int) x.b x.a x.k x.c x.g (acc.map bQ)) (fun u st=>ax C eD av u st fun r fs=>r=dM (iF l x)∧fs=[]):=by
  refine aZ l (fun i=> ∀(put:Bool) (acc:List Key),acc.length+(l.drop i).length≤l.length+(if put then 1 else 0)→acc++iE x put (l.drop i)=iF l x→aa C eD av 4 0 (iA put (l.map bQ) i x.b x.a x.k x.c x.g (acc.map bQ)) _) ?_ ?_
  ·intro put acc hb he
   refine I6 _ _ _ _ _ _ _ _ _ _ (an cY (Vg _ _ _ _ _ _ _ _ _ _ _ _ ?_));simp only[B7,eu,qG,dz,bU,cT,bY]
   have hb2:acc.length≤l.length+1:=by simp at hb;split at hb<;>omega
   rw[cP ay];rw[ew] at he
   cases put<;>simp[iE] at he ⊢ <;>rw[←he]<;>simp
  ·intro i a hi ha hd _ hn put acc hb he
   rw[hd] at hb he;simp only[fX] at hb
   have hb':acc.length+(List.drop (i+1) l).length+1≤l.length+1:=by split at hb<;>omega
   refine I6 _ _ _ _ _ _ _ _ _ _ (ah eJ ?_);simp only[lN,aH,ha,aY,dw,Kb,SK,dA,bU,eu,B7,qG,dz,cT,bY,cG,gL];simp (disch:=omega) only[cP,aG,lg];simp only[iE] at he
   cases put<;>cases hk:fT a x<;>cases hs:qe a x<;>simp only[lg,lM]<;>simp[hk,hs] at he hb<;>exact hn _ _ (by simp at hb ⊢;omega) (by simpa using he)
 exact key false [] cY rfl
@[simp] theorem YQ (l:List Key) (hl:l.length≤1073741824) (b a k c g:Int) (q:RR):ai C eD [.c (.sub 5 (l.map bQ)),.ag [iI b,iI a,iI k,iI c,iI g]] (.c (.sub 5 q)) []↔q=(iF l ⟨b,a,k,c,g⟩).map bQ:=aem (vi l ⟨b,a,k,c,g⟩ hl)
theorem MK (old new:List Key) (hl:old.length+new.length≤1073741824):ai C gr [dM old,dM new] (dM (dO old new)) []:=by
 refine(RL _ _ _ ?_).run;rw[ni,cP eJ];refine ah rfl ?_
 have key: ∀(acc:List Key),acc.length+(new.drop 0).length≤old.length+new.length→dO acc (new.drop 0)=dO old new→aa C gr aj 4 0 (nO (new.map bQ) ((0:Nat):Int) (acc.map bQ)) (fun u st=>ax C gr aj u st fun r fs=>r=(dM (dO old new))∧fs=[]):=by
  refine aZ new (fun i=> ∀(acc:List Key),acc.length+(new.drop i).length≤old.length+new.length→dO acc (new.drop i)=dO old new→aa C gr aj 4 0 (nO (new.map bQ) i (acc.map bQ)) (fun u st=>ax C gr aj u st fun r fs=>r=(dM (dO old new))∧fs=[])) ?_ ?_
  ·intro acc h0 h1
   refine Bx _ _ _ _ (an cY (Nl _ _ _ _ _ ?_));rw[ew] at h1;rw[←h1];exact⟨rfl,by trivial⟩
  ·intro i a hi ha hd ht hn acc h0 h1
   refine Bx _ _ _ _ (ah eJ ?_);rw[hd] at h0 h1;simp only[fX] at h0;simp only[lN,YP acc ay,aH,ha,aY,dw,dA,bU,fA,g7,eu,fC,dR,fD,fE,g8,cT,natAdd,bY,cG,gL,dz,jV];rw[aG ay];have h2:=th acc a;exact hn _ ay (by rw[←h1];rfl)
 exact key old cY rfl
theorem Qs (old new:List Key) (hl:old.length+new.length≤1073741824) (q:RR):ai C gr [dM old,dM new] (.c (.sub 5 q)) []↔q=(dO old new).map bQ:=aem (MK old new hl)
theorem D2 (l:List Key) (hl:l.length≤1073741824):ai C e7 [dM l] (dM (si l)) []:=by
 refine(ae8 _ _ ?_).run
 have key: ∀(acc:List Key),acc.length+(l.drop 0).length≤l.length→acc++si (l.drop 0)=si l→aa C e7 aj 4 0 (rT (l.map bQ) ((0:Nat):Int) (acc.map bQ)) (fun u st=>ax C e7 aj u st fun r fs=>r=(dM (si l))∧fs=[]):=by
  refine aZ l (fun i=> ∀(acc:List Key),acc.length+(l.drop i).length≤l.length→acc++si (l.drop i)=si l→aa C e7 aj 4 0 (rT (l.map bQ) i (acc.map bQ)) (fun u st=>ax C e7 aj u st fun r fs=>r=(dM (si l))∧fs=[])) ?_ ?_
  ·intro acc h0 h1
   refine L0 _ _ _ _ (an cY (Zq _ _ _ _ _ ?_));rw[ew] at h1;simp[si] at h1;simp[si,h1]
  ·intro i a hi ha hd ht hn acc h0 h1
   refine L0 _ _ _ _ (ah eJ ?_);rw[hd] at h0 h1;simp only[fX] at h0;simp only[lN,B7,qG,bE,bJ,aH,ha,aY,dw,dA,bU,fA,g7,eu,fC,dR,fD,fE,g8,cT,natAdd,bY,cG,gL,dz,jV];simp (disch:=omega) only[cP,aG,lg]
   by_cases hk:a.k=0
   ·rw[aI hk]
    exact hn _ ay (by rw[←h1];simp[si,hk])
   ·rw[aF hk]
    exact hn (acc++[a]) (by simp only[cG,gL];omega) (by rw[←h1];simp[si,hk])
 exact key [] cY rfl
theorem Cl (n:List (List Key)) (hb:n.length≤1073741824) (hl:tot bZ n≤1073741824):ai C bu [hD n] (dM (aU n)) []:=by
 refine(UB _ _ ?_).run
 have key: ∀(acc:List Key),acc.length+tot bZ (n.drop 0)≤tot bZ n→(n.drop 0).foldl dO acc=Ak n→aa C bu aj 4 0 (pF ((0:Nat):Int) (n.map cW) (acc.map bQ)) (fun u st=>ax C bu aj u st fun r fs=>r=(dM (aU n))∧fs=[]):=by
  refine aZ n (fun i=> ∀(acc:List Key),acc.length+tot bZ (n.drop i)≤tot bZ n→(n.drop i).foldl dO acc=Ak n→aa C bu aj 4 0 (pF i (n.map cW) (acc.map bQ)) (fun u st=>ax C bu aj u st fun r fs=>r=(dM (aU n))∧fs=[])) ?_ ?_
  ·intro acc h0 h1
   refine Dv _ _ _ _ (an cY (Pf _ _ _ _ _ ?_));rw[ew] at h0 h1;simp only[List.foldl_nil] at h1;refine⟨_,D2 acc ay,?_⟩;rw[h1];exact⟨rfl,by trivial⟩
  ·intro i a hi ha hd ht hn acc h0 h1
   refine Dv _ _ _ _ (ah eJ ?_);rw[hd] at h0 h1;simp only[tot,bZ] at h0;simp only[xY,Qs acc a ay,aH,ha,aY,dw,dA,bU,fA,g7,eu,fC,dR,fD,fE,g8,cT,natAdd,bY,cG,gL,dz,jV];rw[aG ay];have h2:=yh a acc;exact hn _ ay (by rw[←h1];rfl)
 exact key [] cY rfl
theorem gf (n:List (List Key)) (hb:n.length≤1073741824) (hl:tot bZ n≤1073741824) (q:RR):ai C bu [.ag [.sub 1 (n.map cW)]] (.c (.sub 5 q)) []↔q=(aU n).map bQ:=aem (Cl n hb hl)
theorem j7 (t:Tree) (hl:cH t≤1073741824):ai C eA [dX t] (dM (aD t)) []:=by
 refine(Uv _ _ _ ?_).run
 have key: ∀(acc:List Key),acc.length+tot aP (t.nodes.drop 0)≤tot aP t.nodes→acc++(t.nodes.drop 0).flatMap aU=aD t→aa C eA aj 4 0 (o9 ((0:Nat):Int) (t.aE.map bP) (t.nodes.map aQ) (acc.map bQ)) (fun u st=>ax C eA aj u st fun r fs=>r=(dM (aD t))∧fs=[]):=by
  refine aZ t.nodes (fun i=> ∀(acc:List Key),acc.length+tot aP (t.nodes.drop i)≤tot aP t.nodes→acc++(t.nodes.drop i).flatMap aU=aD t→aa C eA aj 4 0 (o9 i (t.aE.map bP) (t.nodes.map aQ) (acc.map bQ)) (fun u st=>ax C eA aj u st fun r fs=>r=(dM (aD t))∧fs=[])) ?_ ?_
  ·intro acc h0 h1
   refine Dr _ _ _ _ _ (an cY (O6 _ _ _ _ _ _ ?_));rw[ew] at h1;simp at h1;simp[h1]
  ·intro i a hi ha hd ht hn acc h0 h1
   refine Dr _ _ _ _ _ (ah (by have:=hi;unfold cH wY at hl;simp;omega) ?_);have hz:a.length+tot bZ a≤tot aP t.nodes:=oF (w:=aP) ha;rw[hd] at h0 h1;simp only[tot,aP] at h0;unfold cH wY at hl;have h2:=dx a;simp only[aht,tT,gf a ay ay,ni,aH,ha,aY,dw,dA,bU,fA,g7,eu,fC,dR,fD,fE,g8,cT,natAdd,bY,cG,gL,dz,jV];rw[cP ay,aG ay];refine ah rfl ?_;rw[←uA];exact hn _ eJ (by rw[←h1];simp)
 exact key [] cY rfl
theorem SM (t:Tree) (b:Int) (hl:cH t≤1073741824):ai C jP [dX t,vI b] (dM (iP t b)) []:=by
 refine(aaC _ _ _ _ ?_).run;refine⟨_,j7 t hl,?_⟩
 have key: ∀(acc:List Key),acc.length+((aD t).drop 0).length≤(aD t).length→acc++((aD t).drop 0).filter (fun k=>decide (k.b=b))=iP t b→aa C jP av 4 0 (ou b ((0:Nat):Int) (acc.map bQ) ((aD t).map bQ)) (fun u st=>ax C jP av u st fun r fs=>r=(dM (iP t b))∧fs=[]):=by
  refine aZ (aD t) (fun i=> ∀(acc:List Key),acc.length+((aD t).drop i).length≤(aD t).length→acc++((aD t).drop i).filter (fun k=>decide (k.b=b))=iP t b→aa C jP av 4 0 (ou b i (acc.map bQ) ((aD t).map bQ)) (fun u st=>ax C jP av u st fun r fs=>r=(dM (iP t b))∧fs=[])) ?_ ?_
  ·intro acc h0 h1
   refine I8 _ _ _ _ _ (an cY (Vj _ _ _ _ _ _ ?_));rw[ew] at h1;simp at h1;simp[h1]
  ·intro i a hi ha hd ht hn acc h0 h1
   refine I8 _ _ _ _ _ (ah eJ ?_);rw[hd] at h0 h1;simp only[fX] at h0;have hz:=fj t;simp only[lN,B7,qG,bE,bJ,aH,ha,aY,dw,dA,bU,fA,g7,eu,fC,dR,fD,fE,g8,cT,natAdd,bY,cG,gL,dz,jV];simp (disch:=omega) only[cP,aG,lg]
   by_cases hk:a.b=b
   ·rw[aI hk]
    exact hn (acc++[a]) (by simp only[cG,gL];omega) (by rw[←h1];simp[hk])
   ·rw[aF hk]
    exact hn _ ay (by rw[←h1];simp[hk])
 exact key [] cY rfl
theorem oU (l:List Key) (hl:l.length≤2147483648):ai C rQ [dM l] (dM l) []:=by
 refine(TB _ _ ?_).run;rw[ni,cP eJ];exact⟨rfl,by trivial⟩
theorem ML (old new:List Key) (hl:old.length+new.length≤1073741824):ai C gu [dM old,dM new] (dM (dO old new)) []:=by
 refine(Rm _ _ _ ?_).run;refine⟨_,oU old ay,?_⟩
 have key: ∀(acc:List Key),acc.length+(new.drop 0).length≤old.length+new.length→dO acc (new.drop 0)=dO old new→aa C gu aj 4 0 (nN (new.map bQ) ((0:Nat):Int) (acc.map bQ)) (fun u st=>ax C gu aj u st fun r fs=>r=(dM (dO old new))∧fs=[]):=by
  refine aZ new (fun i=> ∀(acc:List Key),acc.length+(new.drop i).length≤old.length+new.length→dO acc (new.drop i)=dO old new→aa C gu aj 4 0 (nN (new.map bQ) i (acc.map bQ)) (fun u st=>ax C gu aj u st fun r fs=>r=(dM (dO old new))∧fs=[])) ?_ ?_
  ·intro acc h0 h1
   refine Bq _ _ _ _ (an cY (Nc _ _ _ _ _ _ ?_));rw[ew] at h1;rw[←h1];exact⟨rfl,by trivial⟩
  ·intro i a hi ha hd ht hn acc h0 h1
   refine Bq _ _ _ _ (ah eJ ?_);rw[hd] at h0 h1;simp only[fX] at h0;simp only[lN,YQ acc ay,aH,ha,aY,dw,dA,bU,fA,g7,eu,fC,dR,fD,fE,g8,cT,natAdd,bY,cG,gL,dz,jV];rw[aG ay];have h2:=th acc a;exact hn _ ay (by rw[←h1];rfl)
 exact key old cY rfl
theorem Qu (old new:List Key) (hl:old.length+new.length≤1073741824) (q:RR):ai C gu [dM old,dM new] (.c (.sub 5 q)) []↔q=(dO old new).map bQ:=aem (ML old new hl)
theorem LQ (l:List Key) (hl:l.length≤1073741824):ai C mo [dM l] (dM (si l)) []:=by
 refine(afe _ _ ?_).run
 have key: ∀(acc:List Key),acc.length+(l.drop 0).length≤l.length→acc++si (l.drop 0)=si l→aa C mo aj 4 0 (rU (l.map bQ) ((0:Nat):Int) (acc.map bQ)) (fun u st=>ax C mo aj u st fun r fs=>r=(dM (si l))∧fs=[]):=by
  refine aZ l (fun i=> ∀(acc:List Key),acc.length+(l.drop i).length≤l.length→acc++si (l.drop i)=si l→aa C mo aj 4 0 (rU (l.map bQ) i (acc.map bQ)) (fun u st=>ax C mo aj u st fun r fs=>r=(dM (si l))∧fs=[])) ?_ ?_
  ·intro acc h0 h1
   refine L3 _ _ _ _ (an cY (ZU _ _ _ _ _ _ ?_));rw[ew] at h1;simp[si] at h1;simp[si,h1]
  ·intro i a hi ha hd ht hn acc h0 h1
   refine L3 _ _ _ _ (ah eJ ?_);rw[hd] at h0 h1;simp only[fX] at h0;simp only[lN,B7,qG,bE,bJ,aH,ha,aY,dw,dA,bU,fA,g7,eu,fC,dR,fD,fE,g8,cT,natAdd,bY,cG,gL,dz,jV];simp (disch:=omega) only[cP,aG,lg]
   by_cases hk:a.k=0
   ·rw[aI hk]
    exact hn _ ay (by rw[←h1];simp[si,hk])
   ·rw[aF hk]
    exact hn (acc++[a]) (by simp only[cG,gL];omega) (by rw[←h1];simp[si,hk])
 exact key [] cY rfl
theorem Ok (n:List (List Key)) (hb:n.length≤1073741824) (hl:tot bZ n≤1073741824):ai C dn [hD n] (dM (aU n)) []:=by
 refine(UC _ _ ?_).run
 have key: ∀(acc:List Key),acc.length+tot bZ (n.drop 0)≤tot bZ n→(n.drop 0).foldl dO acc=Ak n→aa C dn aj 4 0 (pG (n.map cW) ((0:Nat):Int) (acc.map bQ)) (fun u st=>ax C dn aj u st fun r fs=>r=(dM (aU n))∧fs=[]):=by
  refine aZ n (fun i=> ∀(acc:List Key),acc.length+tot bZ (n.drop i)≤tot bZ n→(n.drop i).foldl dO acc=Ak n→aa C dn aj 4 0 (pG (n.map cW) i (acc.map bQ)) (fun u st=>ax C dn aj u st fun r fs=>r=(dM (aU n))∧fs=[])) ?_ ?_
  ·intro acc h0 h1
   refine Dw _ _ _ _ (an cY (Pg _ _ _ _ _ _ ?_));rw[ew] at h0 h1;simp only[List.foldl_nil] at h1;refine⟨_,LQ acc ay,?_⟩;rw[h1];exact⟨rfl,by trivial⟩
  ·intro i a hi ha hd ht hn acc h0 h1
   refine Dw _ _ _ _ (ah eJ ?_);rw[hd] at h0 h1;simp only[tot,bZ] at h0;simp only[xY,Qu acc a ay,aH,ha,aY,dw,dA,bU,fA,g7,eu,fC,dR,fD,fE,g8,cT,natAdd,bY,cG,gL,dz,jV];rw[aG ay];have h2:=yh a acc;exact hn _ ay (by rw[←h1];rfl)
 exact key [] cY rfl
theorem kC (n:List (List Key)) (hb:n.length≤1073741824) (hl:tot bZ n≤1073741824) (q:RR):ai C dn [.ag [.sub 1 (n.map cW)]] (.c (.sub 5 q)) []↔q=(aU n).map bQ:=aem (Ok n hb hl)
theorem j8 (t:Tree) (hl:cH t≤1073741824):ai C fz [dX t] (dM (aD t)) []:=by
 refine(TT _ _ _ ?_).run
 have key: ∀(acc:List Key),acc.length+tot aP (t.nodes.drop 0)≤tot aP t.nodes→acc++(t.nodes.drop 0).flatMap aU=aD t→aa C fz aj 4 0 (oZ (t.nodes.map aQ) ((0:Nat):Int) (acc.map bQ)) (fun u st=>ax C fz aj u st fun r fs=>r=(dM (aD t))∧fs=[]):=by
  refine aZ t.nodes (fun i=> ∀(acc:List Key),acc.length+tot aP (t.nodes.drop i)≤tot aP t.nodes→acc++(t.nodes.drop i).flatMap aU=aD t→aa C fz aj 4 0 (oZ (t.nodes.map aQ) i (acc.map bQ)) (fun u st=>ax C fz aj u st fun r fs=>r=(dM (aD t))∧fs=[])) ?_ ?_
  ·intro acc h0 h1
   refine Dh _ _ _ _ (an cY (OS _ _ _ _ _ _ ?_));rw[ew] at h1;simp at h1;simp[h1]
  ·intro i a hi ha hd ht hn acc h0 h1
   refine Dh _ _ _ _ (ah (by have:=hi;unfold cH wY at hl;simp;omega) ?_);have hz:a.length+tot bZ a≤tot aP t.nodes:=oF (w:=aP) ha;rw[hd] at h0 h1;simp only[tot,aP] at h0;unfold cH wY at hl;have h2:=dx a;simp only[aht,tT,kC a ay ay,ni,aH,ha,aY,dw,dA,bU,fA,g7,eu,fC,dR,fD,fE,g8,cT,natAdd,bY,cG,gL,dz,jV];rw[cP ay,aG ay];refine ah rfl ?_;rw[←uA];exact hn _ eJ (by rw[←h1];simp)
 exact key [] cY rfl
theorem SN (t:Tree) (b:Int) (hl:cH t≤1073741824):ai C jQ [dX t,vI b] (dM (iP t b)) []:=by
 refine(ZX _ _ _ _ ?_).run;refine⟨_,j8 t hl,?_⟩
 have key: ∀(acc:List Key),acc.length+((aD t).drop 0).length≤(aD t).length→acc++((aD t).drop 0).filter (fun k=>decide (k.b=b))=iP t b→aa C jQ aj 4 0 (oe b ((aD t).map bQ) ((0:Nat):Int) (acc.map bQ)) (fun u st=>ax C jQ aj u st fun r fs=>r=(dM (iP t b))∧fs=[]):=by
  refine aZ (aD t) (fun i=> ∀(acc:List Key),acc.length+((aD t).drop i).length≤(aD t).length→acc++((aD t).drop i).filter (fun k=>decide (k.b=b))=iP t b→aa C jQ aj 4 0 (oe b ((aD t).map bQ) i (acc.map bQ)) (fun u st=>ax C jQ aj u st fun r fs=>r=(dM (iP t b))∧fs=[])) ?_ ?_
  ·intro acc h0 h1
   refine IA _ _ _ _ _ (an cY (Uk _ _ _ _ _ _ _ ?_));rw[ew] at h1;simp at h1;simp[h1]
  ·intro i a hi ha hd ht hn acc h0 h1
   refine IA _ _ _ _ _ (ah eJ ?_);rw[hd] at h0 h1;simp only[fX] at h0;have hz:=fj t;simp only[lN,B7,qG,bE,bJ,aH,ha,aY,dw,dA,bU,fA,g7,eu,fC,dR,fD,fE,g8,cT,natAdd,bY,cG,gL,dz,jV];simp (disch:=omega) only[cP,aG,lg]
   by_cases hk:a.b=b
   ·rw[aI hk]
    exact hn (acc++[a]) (by simp only[cG,gL];omega) (by rw[←h1];simp[hk])
   ·rw[aF hk]
    exact hn _ ay (by rw[←h1];simp[hk])
 exact key [] cY rfl
theorem qg (l:List Age) (id:Int) (hl:l.length≤1073741824):ai C ef [gy l,vI id] (vI (fm l id)) []:=by
 refine(acR _ _ _ ?_).run
 have key:eT (fun a:Age=>decide (a.id=id)) (l.drop 0) ((0:Nat):Int)=eT (fun a:Age=>decide (a.id=id)) l 0→aa C ef ak 4 0 (tG (l.map bR) id ((0:Nat):Int)) (fun u st=>ax C ef ak u st fun r fs=>r=vI (fm l id)∧fs=[]):=by
  refine aZ l (fun i=>eT (fun a:Age=>decide (a.id=id)) (l.drop i) (i:Int)=eT (fun a:Age=>decide (a.id=id)) l 0→aa C ef ak 4 0 (tG (l.map bR) id i) _) ?_ ?_
  ·intro h0
   refine KG _ _ _ _ (an cY (Xw _ _ _ _ _ ?_));rw[ew] at h0;simp only[eT] at h0;change _=vI (eT (fun a:Age=>decide (a.id=id)) l 0)∧_;rw[←h0];exact⟨rfl,by trivial⟩
  ·intro i a hi ha hd uH hn h0
   refine KG _ _ _ _ (ah eJ ?_);rw[hd] at h0;simp only[eT] at h0;simp only[wX,bE,bJ,aH,ha,aY,dw,dA,bU,fA,g7,eu,fC,dR,fD,fE,g8,cT,natAdd,bY,cG,gL,dz,jV];rw[aG ay]
   split at h0
   ·rename_i hp
    have hp:=yy hp
    first|rw[aI hp]|rw[aI hp.symm]
    refine Xv _ _ ?_;rw[h0];exact⟨rfl,by trivial⟩
   ·rename_i hp
    have hp: ¬_:=fun h=>hp (fk h)
    first|rw[aF hp]|rw[aF (fun h=>hp h.symm)]
    exact hn h0
 exact key rfl
@[simp] theorem WY (a b id:Int) (q:Bool):ai C Aa [.ag [iI a,iI b],.bx [iI id]] (vB q) []↔q=decide (a=id):=vQ (by
  refine(Ya _ _ _ _ ?_).run
  simp)
theorem YR (l:List Age) (id:Int) (hl:l.length≤1073741824):ai C dJ [gy l,.fn Aa [[iI id]]] (vI (fm l id)) []:=by
 refine(u7 _ _ _ ?_).run
 have key:eT (fun a:Age=>decide (a.id=id)) (l.drop 0) ((0:Nat):Int)=eT (fun a:Age=>decide (a.id=id)) l 0→aa C dJ ak 4 0 (ez (l.map bR) ((0:Nat):Int) id) (fun u st=>ax C dJ ak u st fun r fs=>r=vI (fm l id)∧fs=[]):=by
  refine aZ l (fun i=>eT (fun a:Age=>decide (a.id=id)) (l.drop i) (i:Int)=eT (fun a:Age=>decide (a.id=id)) l 0→aa C dJ ak 4 0 (ez (l.map bR) i id) _) ?_ ?_
  ·intro h0
   refine mD _ _ _ _ (an cY (ux _ _ _ _ _ _ ?_));rw[ew] at h0;simp only[eT] at h0;change _=vI (eT (fun a:Age=>decide (a.id=id)) l 0)∧_;rw[←h0];exact⟨rfl,by trivial⟩
  ·intro i a hi ha hd uH hn h0
   refine mD _ _ _ _ (ah eJ ?_);rw[hd] at h0;simp only[eT] at h0;simp only[wX,bE,WY,bJ,aH,ha,aY,dw,dA,bU,fA,g7,eu,fC,dR,fD,fE,g8,cT,natAdd,bY,cG,gL,dz,jV];rw[aG ay]
   split at h0
   ·rename_i hp
    have hp:=yy hp
    first|rw[aI hp]|rw[aI hp.symm]
    refine uw _ _ _ ?_;rw[h0];exact⟨rfl,by trivial⟩
   ·rename_i hp
    have hp: ¬_:=fun h=>hp (fk h)
    first|rw[aF hp]|rw[aF (fun h=>hp h.symm)]
    exact hn h0
 exact key rfl
theorem xj (l:List Age) (id:Int) (hl:l.length≤1073741824):ai C iQ [gy l,vI id] (vI (fm l id)) []:=(ac1 _ _ _ ⟨_,YR l id hl,rfl,by trivial⟩).run
theorem Gg (l:List Age) (id:Int) (hl:l.length≤1073741824) (q:Int):ai C ef [gy l,vI id] (vI q) []↔q=fm l id:=akp (qg l id hl)
theorem Gh (l:List Age) (id:Int) (hl:l.length≤1073741824) (q:Int):ai C iQ [gy l,vI id] (vI q) []↔q=fm l id:=akp (xj l id hl)
theorem GD (l:List Age) (id:Int) (hl:l.length≤1073741824):ai C ku [gy l,vI id] (oD (pathOf l id)) []:=by
 refine(aaB _ _ _ ⟨_,qg l id hl,?_⟩).run
 have key: ∀(n:Nat) (id':Int) (acc:List Int),acc.length+n=l.length+1→acc++JK l n id'=pathOf l id→aa C ku kQ 4 0 (vG (l.map bR) (fm l id') (acc.map bP)) (fun u st=>ax C ku kQ u st fun r fs=>r=oD (pathOf l id)∧fs=[]):=by
  intro n
  induction n with
  |zero=>
   intro id' acc h0 h1;simp only[JK,qt] at h1;refine zu _ _ _ _ (td (fun _=> ?_) fun _=>I7 _ _ _ _ (by rw[h1];exact⟨rfl,by trivial⟩));exact an eJ (Vh _ _ _ _ _ (by rw[h1];exact⟨rfl,by trivial⟩))
  |succ n ih=>
   intro id' acc h0 h1;simp only[JK] at h1
   by_cases h:fm l id'<0
   ·rw[aI h,qt] at h1
    exact zu _ _ _ _ (an eJ (I7 _ _ _ _ (by rw[h1];exact⟨rfl,by trivial⟩)))
   ·rw[aF h] at h1
    obtain⟨a,ha,he⟩:=Lc l id' h;rw[ha] at h1;refine zu _ _ _ _ (ah eJ (ah eJ ?_));simp only[wX,ha,aY,dw,acg,dz,cT,bY];rw[cP ay];refine ah rfl ⟨_,qg l a.fr hl,?_⟩;rw[VA];exact ih a.fr (acc++[a.id]) eJ (by rw[←h1,he];simp)
 exact key (l.length+1) id [] cY rfl
theorem GF (l:List Age) (id:Int) (hl:l.length≤1073741824):ai C kz [gy l,vI id] (oD (pathOf l id)) []:=by
 refine(ZW _ _ _ ?_).run
 have key: ∀(n:Nat) (id':Int) (acc:List Int) (k:Nat),k+n=l.length+1→acc.length=k→acc++JK l n id'=pathOf l id→aa C kz aj 4 0 (vu (l.map bR) id' k (acc.map bP)) (fun u st=>ax C kz aj u st fun r fs=>r=oD (pathOf l id)∧fs=[]):=by
  intro n
  induction n with
  |zero=>
   intro id' acc k h0 h2 h1;simp only[JK,qt] at h1;refine Iz _ _ _ _ _ (an ?_ (Ui _ _ _ _ _ _ _ (by rw[h1];exact⟨rfl,by trivial⟩)));rw[aG eJ];simp;omega
  |succ n ih=>
   intro id' acc k h0 h2 h1;simp only[JK] at h1;refine Iz _ _ _ _ _ (ah (by rw[aG eJ];simp;omega) ⟨_,xj l id' hl,?_⟩)
   by_cases h:fm l id'<0
   ·rw[aI h,qt] at h1
    exact ah eJ (Uh _ _ _ _ _ _ _ _ (by rw[h1];exact⟨rfl,by trivial⟩))
   ·rw[aF h] at h1
    obtain⟨a,ha,he⟩:=Lc l id' h;rw[ha] at h1;refine an eJ ?_;simp only[wX,ha,aY,dw,acg,dz,cT,bY];rw[cP ay];refine ah rfl ?_;rw[VA,aG ay];exact ih a.fr (acc++[id']) (k+1) ay eJ (by rw[←h1];simp)
 exact key (l.length+1) id [] 0 cY rfl rfl
theorem WZ (l:List Int) (n:Int) (hl:l.length≤1073741824):ai C kP [oD l,vI n] (vB (Ln l n)) []:=by
 refine(acS _ _ _ ?_).run
 have key:(l.drop 0).any (fun a:Int=>decide (a=n))=l.any (fun a:Int=>decide (a=n))→aa C kP ak 4 0 (tH (l.map bP) n ((0:Nat):Int)) (fun u st=>ax C kP ak u st fun r fs=>r=vB (Ln l n)∧fs=[]):=by
  refine aZ l (fun i=>(l.drop i).any (fun a:Int=>decide (a=n))=l.any (fun a:Int=>decide (a=n))→aa C kP ak 4 0 (tH (l.map bP) n i) _) ?_ ?_
  ·intro h0
   refine KH _ _ _ _ (an cY (XE _ _ _ _ _ ?_));rw[ew] at h0;simp only[List.any_nil] at h0;show _=vB (Ln l n)∧_
   first|unfold Ln|unfold qX|skip
   rw[←h0];exact⟨rfl,by trivial⟩
  ·intro i a hi ha hd uH hn h0
   refine KH _ _ _ _ (ah eJ ?_);rw[hd] at h0;simp only[List.any_cons] at h0;simp only[wW,bE,bJ,aH,ha,aY,dw,dA,bU,fA,g7,eu,fC,dR,fD,fE,g8,cT,natAdd,bY,cG,gL,dz,jV];rw[aG ay]
   split
   ·rename_i hp
    refine XD _ ?_
    have e:l.any (fun a:Int=>decide (a=n))=true:=by rw[←h0];simp[hp]
    first|unfold Ln|unfold qX|skip
    rw[e];exact⟨rfl,by trivial⟩
   ·rename_i hp
    exact hn (by simpa [hp] using h0)
 exact key rfl
theorem LR (p:Pool) (id:Int) (hl:p.au.length≤1073741824):ai C nj [c6 p,vI id] (vB (qX p.au id)) []:=by
 refine(afk _ _ _ _ _ _ _ _ ?_).run
 have key:(p.au.drop 0).any (fun v:Vol=>decide (v.cV=id))=p.au.any (fun v:Vol=>decide (v.cV=id))→aa C nj ak 4 0 (u5 id ((0:Nat):Int) (p.t.aE.map bP) (p.t.nodes.map aQ) (p.aL.map bR) (p.cells.map bM) (p.au.map cj) p.next) (fun u st=>ax C nj ak u st fun r fs=>r=vB (qX p.au id)∧fs=[]):=by
  refine aZ p.au (fun i=>(p.au.drop i).any (fun v:Vol=>decide (v.cV=id))=p.au.any (fun v:Vol=>decide (v.cV=id))→aa C nj ak 4 0 (u5 id i (p.t.aE.map bP) (p.t.nodes.map aQ) (p.aL.map bR) (p.cells.map bM) (p.au.map cj) p.next) _) ?_ ?_
  ·intro h0
   refine L5 _ _ _ _ _ _ _ _ _ (an cY (aav _ _ _ _ _ _ _ _ _ _ ?_));rw[ew] at h0;simp only[List.any_nil] at h0;show _=vB (qX p.au id)∧_
   first|unfold Ln|unfold qX|skip
   rw[←h0];exact⟨rfl,by trivial⟩
  ·intro i a hi ha hd uH hn h0
   refine L5 _ _ _ _ _ _ _ _ _ (ah eJ ?_);rw[hd] at h0;simp only[List.any_cons] at h0;simp only[yX,bE,bJ,aH,ha,aY,dw,dA,bU,fA,g7,eu,fC,dR,fD,fE,g8,cT,natAdd,bY,cG,gL,dz,jV];rw[aG ay]
   split
   ·rename_i hp
    refine aau _ _ _ _ _ _ _ ?_
    have e:p.au.any (fun v:Vol=>decide (v.cV=id))=true:=by rw[←h0];simp[hp]
    first|unfold Ln|unfold qX|skip
    rw[e];exact⟨rfl,by trivial⟩
   ·rename_i hp
    exact hn (by simpa [hp] using h0)
 exact key rfl
theorem aeU (l:List Int) (n:Int) (hl:l.length≤1073741824):ai C fF [oD l,vI n] (vI (eT (fun a:Int=>decide (a=n)) l 0)) []:=by
 refine(Nm _ _ _ ?_).run
 have key:eT (fun a:Int=>decide (a=n)) (l.drop 0) ((0:Nat):Int)=eT (fun a:Int=>decide (a=n)) l 0→aa C fF ak 4 0 (lT (l.map bP) n ((0:Nat):Int)) (fun u st=>ax C fF ak u st fun r fs=>r=vI (eT (fun a:Int=>decide (a=n)) l 0)∧fs=[]):=by
  refine aZ l (fun i=>eT (fun a:Int=>decide (a=n)) (l.drop i) (i:Int)=eT (fun a:Int=>decide (a=n)) l 0→aa C fF ak 4 0 (lT (l.map bP) n i) _) ?_ ?_
  ·intro h0
   refine yR _ _ _ _ (an cY (KS _ _ _ _ _ _ ?_));rw[ew] at h0;simp only[eT] at h0;change _=vI (eT (fun a:Int=>decide (a=n)) l 0)∧_;rw[←h0];exact⟨rfl,by trivial⟩
  ·intro i a hi ha hd uH hn h0
   refine yR _ _ _ _ (ah eJ ?_);rw[hd] at h0;simp only[eT] at h0;simp only[wW,bE,bJ,aH,ha,aY,dw,dA,bU,fA,g7,eu,fC,dR,fD,fE,g8,cT,natAdd,bY,cG,gL,dz,jV];rw[aG ay]
   split at h0
   ·rename_i hp
    have hp:=yy hp
    first|rw[aI hp]|rw[aI hp.symm]
    refine KR _ _ ?_;rw[h0];exact⟨rfl,by trivial⟩
   ·rename_i hp
    have hp: ¬_:=fun h=>hp (fk h)
    first|rw[aF hp]|rw[aF (fun h=>hp h.symm)]
    exact hn h0
 exact key rfl
theorem acC (l:List Int) (n:Int) (hl:l.length≤1073741824):ai C p6 [oD l,vI n] (vB (Ln l n)) []:=by
 refine(Jf _ _ _ ⟨_,aeU l n hl,?_⟩).run;rw[gl,N5 _ _ _ ay];exact⟨rfl,by trivial⟩
theorem GG (t:Tree) (b:Int) (path:List Int) (hl:cH t≤1073741824) (hp:path.length≤1073741824):ai C gR [dX t,vI b,oD path] (Yq (near (iP t b) path)) []:=by
 refine(Zx _ _ _ _ _ ?_).run;refine⟨_,SM t b hl,?_⟩
 have key: ∀(pr:Key×Bool),((iP t b).drop 0).foldl (N6 path) pr=near (iP t b) path→aa C gR bO 4 0 (kE (path.map bP) pr.2 ((0:Nat):Int) pr.1.b pr.1.a pr.1.k pr.1.c pr.1.g ((iP t b).map bQ)) (fun u st=>ax C gR bO u st fun r fs=>r=(Yq (near (iP t b) path))∧fs=[]):=by
  refine aZ (iP t b) (fun i=> ∀(pr:Key×Bool),((iP t b).drop i).foldl (N6 path) pr=near (iP t b) path→aa C gR bO 4 0 (kE (path.map bP) pr.2 i pr.1.b pr.1.a pr.1.k pr.1.c pr.1.g ((iP t b).map bQ)) (fun u st=>ax C gR bO u st fun r fs=>r=(Yq (near (iP t b) path))∧fs=[])) ?_ ?_
  ·intro pr h0
   refine Ih _ _ _ _ _ _ _ _ _ _ (an cY (TD _ _ _ _ _ _ _ _ _ _ _ ?_));rw[ew] at h0;simp only[List.foldl_nil] at h0;rw[h0];exact⟨rfl,by trivial⟩
  ·intro i a hi ha hd ht hn pr h0
   have hk:=Wy t b;have hz:=fj t;refine Ih _ _ _ _ _ _ _ _ _ _ (ah eJ ?_);rw[hd] at h0;simp only[List.foldl_cons] at h0;obtain⟨bk,bf⟩:=pr;have hh: ∀q,ai C kP [oD path,vI a.a] (vB q) []↔q=Ln path a.a:=fun q=>vQ (WZ path a.a hp);simp only[lN,hh,dm,bJ,aH,ha,aY,dw,dA,bU,fA,g7,eu,fC,dR,fD,fE,g8,cT,natAdd,bY,cG,gL,dz,jV];rw[aG ay]
   have e:N6 path (bk,bf) a=if Ln path a.a&&(!bf||decide (bk.a<a.a)) then(a,true) else(bk,bf):=rfl
   rw[e] at h0
   cases h1:Ln path a.a<;>cases bf<;>by_cases h2:bk.a<a.a<;>simp[h1,h2] at h0 ⊢ <;>first|exact hn (a,true) h0|exact hn (bk,false) h0|exact hn (bk,true) h0
 exact key (fU,false) rfl
theorem GH (t:Tree) (b:Int) (path:List Int) (hl:cH t≤1073741824) (hp:path.length≤1073741824):ai C gT [dX t,vI b,oD path] (Yq (near (iP t b) path)) []:=by
 refine(aac _ _ _ _ _ ?_).run;refine⟨_,SN t b hl,?_⟩
 have key: ∀(pr:Key×Bool),((iP t b).drop 0).foldl (N6 path) pr=near (iP t b) path→aa C gT aj 4 0 (kG (path.map bP) pr.2 ((iP t b).map bQ) ((0:Nat):Int) pr.1.b pr.1.a pr.1.k pr.1.c pr.1.g) (fun u st=>ax C gT aj u st fun r fs=>r=(Yq (near (iP t b) path))∧fs=[]):=by
  refine aZ (iP t b) (fun i=> ∀(pr:Key×Bool),((iP t b).drop i).foldl (N6 path) pr=near (iP t b) path→aa C gT aj 4 0 (kG (path.map bP) pr.2 ((iP t b).map bQ) i pr.1.b pr.1.a pr.1.k pr.1.c pr.1.g) (fun u st=>ax C gT aj u st fun r fs=>r=(Yq (near (iP t b) path))∧fs=[])) ?_ ?_
  ·intro pr h0
   refine IL _ _ _ _ _ _ _ _ _ _ (an cY (UI _ _ _ _ _ _ _ _ _ _ _ _ ?_));rw[ew] at h0;simp only[List.foldl_nil] at h0;rw[h0];exact⟨rfl,by trivial⟩
  ·intro i a hi ha hd ht hn pr h0
   have hk:=Wy t b;have hz:=fj t;refine IL _ _ _ _ _ _ _ _ _ _ (ah eJ ?_);rw[hd] at h0;simp only[List.foldl_cons] at h0;obtain⟨bk,bf⟩:=pr;have hh: ∀q,ai C p6 [oD path,vI a.a] (vB q) []↔q=Ln path a.a:=fun q=>vQ (acC path a.a hp);simp only[lN,hh,dm,bJ,aH,ha,aY,dw,dA,bU,fA,g7,eu,fC,dR,fD,fE,g8,cT,natAdd,bY,cG,gL,dz,jV];rw[aG ay]
   have e:N6 path (bk,bf) a=if Ln path a.a&&(!bf||decide (bk.a<a.a)) then(a,true) else(bk,bf):=rfl
   rw[e] at h0
   cases h1:Ln path a.a<;>cases bf<;>by_cases h2:bk.a<a.a<;>simp[h1,h2] at h0 ⊢ <;>first|exact hn (a,true) h0|exact hn (bk,false) h0|exact hn (bk,true) h0
 exact key (fU,false) rfl
@[simp] theorem yu (a:Int) (q:Bool):ai C jM [vI a] (vB q) []↔q=iD a:=vQ ((aam _ _ ⟨_,tE _ _ _,rfl,by trivial⟩).run)
theorem SO (l:List Cell) (i gen:Int) (hl:l.length≤1073741824):ai C yK [jx l,vI i,vI gen] (tIB (cellAt l i gen)) []:=by
 refine(ZR _ _ _ _ ?_).run;simp only[D1,dA,bY,lX,bU,pX];rw[dh ay]
 by_cases h:0≤i∧i<l.length
 ·obtain⟨a,ha⟩:=mm h.1 h.2
  have e:iC i 0 ((l.length:Int)-1)=true:=fk ay;simp only[e,lg,ha,aY,dw,bE,bJ,cellAt]
  cases h1:a.u<;>by_cases h2:a.g=gen<;>simp[h1,h2]
 ·have e:iC i 0 ((l.length:Int)-1)=false:=fe ay
  have hn:fh l i=none:=gE h;simp[e,cellAt,hn]
theorem YS (l:List Cell) (hl:l.length≤1073741824) (i gen:Int) (n:Int) (q:Bool):ai C yK [jx l,vI i,vI gen] (.tu [(0,[iI n]),(0,[iB q])]) []↔n=(cellAt l i gen).1∧q=(cellAt l i gen).2:=anU (SO l i gen hl)
theorem MM (l:List Cell) (hl:l.length≤1073741824):ai C gn [jx l] (vI (cv l)) []:=by
 refine(RJ _ _ ?_).run
 have key: ∀(n:Nat),n+(l.drop 0).length≤l.length→n+cv (l.drop 0)=cv l→aa C gn aj 4 0 (kY (l.map bM) n ((0:Nat):Int)) (fun u st=>ax C gn aj u st fun r fs=>r=(vI (cv l))∧fs=[]):=by
  refine aZ l (fun i=> ∀(n:Nat),n+(l.drop i).length≤l.length→n+cv (l.drop i)=cv l→aa C gn aj 4 0 (kY (l.map bM) n i) (fun u st=>ax C gn aj u st fun r fs=>r=(vI (cv l))∧fs=[])) ?_ ?_
  ·intro n h0 h1
   refine Bv _ _ _ _ (an cY (Nj _ _ _ _ _ ?_));rw[ew] at h1;simp[cv] at h1;simp[h1,cv]
  ·intro i a hi ha hd ht hn n h0 h1
   refine Bv _ _ _ _ (ah eJ ?_);rw[hd] at h0 h1;simp only[fX] at h0;simp only[pX,aH,ha,aY,dw,dA,bU,fA,g7,eu,fC,dR,fD,fE,g8,cT,natAdd,bY,cG,gL,dz,jV];rw[aG ay,aG ay]
   cases hu:a.u
   ·exact hn n ay (by rw[←h1];simp[cv,hu])
   ·exact hn (n+1) ay (by rw[←h1];simp[cv,hu];omega)
 exact key 0 cY cY
theorem Qv (l:List Cell) (hl:l.length≤1073741824):ai C eM [jx l] (vB ((l.all kK&&decide (l.length=24)))) []:=by
 refine(Yh _ _ ?_).run
 have key:((l.drop 0).all kK&&decide (l.length=24))=(l.all kK&&decide (l.length=24))→aa C eM ak 4 0 (k9 (l.map bM) ((0:Nat):Int)) (fun u st=>ax C eM ak u st fun r fs=>r=vB ((l.all kK&&decide (l.length=24)))∧fs=[]):=by
  refine aZ l (fun i=>((l.drop i).all kK&&decide (l.length=24))=(l.all kK&&decide (l.length=24))→aa C eM ak 4 0 (k9 (l.map bM) i) (fun u st=>ax C eM ak u st fun r fs=>r=vB ((l.all kK&&decide (l.length=24)))∧fs=[])) ?_ ?_
  ·intro h0
   refine Fx _ _ _ (an cY (RU _ _ _ _ ?_));rw[ew] at h0;simp only[qT,dz] at h0;rw[←h0];simp[bE]
   try omega
  ·intro i a hi ha hd uH hn h0
   have gO:kK a=false→(l.all kK&&decide (l.length=24))=false:=fun e=>by rw[←h0,hd];simp[e]
   have gN:kK a=true→aa C eM ak 4 0 (k9 (l.map bM) ((i:Int)+1)) (fun u st=>ax C eM ak u st fun r fs=>r=vB ((l.all kK&&decide (l.length=24)))∧fs=[]):=fun e=>hn (by rw[←h0,hd];simp[e]);refine Fx _ _ _ (ah eJ ?_);simp only[pX,D1,yu,bE,aH,ha,aY,dw,dA,bU,fA,g7,eu,fC,dR,fD,fE,g8,cT,natAdd,bY,cG,gL,dz,jV];rw[aG ay]
   cases h1:iC a.g 0 999<;>cases h2:iD a.n<;>cases h3:a.u<;>by_cases h4:a.n=0<;>simp only[h1,h2,h3,h4,lg,lM,decide_true,decide_false,not_true_eq_false,not_false_eq_true,BI,Bool.not_false]<;>first|exact gN (by unfold kK;rw[h1,h2,h3];simp[h4])|exact RT _ (by rw[gO (by unfold kK;rw[h1,h2,h3];simp[h4])];exact⟨rfl,by trivial⟩)
 exact key rfl
theorem AQ (l:List Cell) (hl:l.length≤1073741824) (q:Bool):ai C eM [jx l] (vB q) []↔q=eK l:=vQ (Qv l hl)
@[simp] theorem yw (a:Int) (q:Bool):ai C tD [vI a] (vB q) []↔q=iD a:=vQ ((Zj _ _ ⟨_,nL _ _ _,rfl,by trivial⟩).run)
theorem SP (l:List Cell) (i gen:Int) (hl:l.length≤1073741824):ai C yL [jx l,vI i,vI gen] (tIB (cellAt l i gen)) []:=by
 refine(ZS _ _ _ _ ?_).run;simp only[xh,dA,bY,lX,bU,pX];rw[dh ay]
 by_cases h:0≤i∧i<l.length
 ·obtain⟨a,ha⟩:=mm h.1 h.2
  have e:iC i 0 ((l.length:Int)-1)=true:=fk ay;simp only[e,lg,ha,aY,dw,bE,bJ,cellAt]
  cases h1:a.u<;>by_cases h2:a.g=gen<;>simp[h1,h2]
 ·have e:iC i 0 ((l.length:Int)-1)=false:=fe ay
  have hn:fh l i=none:=gE h;simp[e,cellAt,hn]
theorem YT (l:List Cell) (hl:l.length≤1073741824) (i gen:Int) (n:Int) (q:Bool):ai C yL [jx l,vI i,vI gen] (.tu [(0,[iI n]),(0,[iB q])]) []↔n=(cellAt l i gen).1∧q=(cellAt l i gen).2:=anU (SP l i gen hl)
theorem MN (l:List Cell) (hl:l.length≤1073741824):ai C gq [jx l] (vI (cv l)) []:=by
 refine(RK _ _ ?_).run
 have key: ∀(n:Nat),n+(l.drop 0).length≤l.length→n+cv (l.drop 0)=cv l→aa C gq aj 4 0 (kZ n (l.map bM) ((0:Nat):Int)) (fun u st=>ax C gq aj u st fun r fs=>r=(vI (cv l))∧fs=[]):=by
  refine aZ l (fun i=> ∀(n:Nat),n+(l.drop i).length≤l.length→n+cv (l.drop i)=cv l→aa C gq aj 4 0 (kZ n (l.map bM) i) (fun u st=>ax C gq aj u st fun r fs=>r=(vI (cv l))∧fs=[])) ?_ ?_
  ·intro n h0 h1
   refine Bw _ _ _ _ (an cY (Nk _ _ _ _ _ _ ?_));rw[ew] at h1;simp[cv] at h1;simp[h1,cv]
  ·intro i a hi ha hd ht hn n h0 h1
   refine Bw _ _ _ _ (ah eJ ?_);rw[hd] at h0 h1;simp only[fX] at h0;simp only[pX,aH,ha,aY,dw,dA,bU,fA,g7,eu,fC,dR,fD,fE,g8,cT,natAdd,bY,cG,gL,dz,jV];rw[aG ay,aG ay]
   cases hu:a.u
   ·exact hn n ay (by rw[←h1];simp[cv,hu])
   ·exact hn (n+1) ay (by rw[←h1];simp[cv,hu];omega)
 exact key 0 cY cY
theorem Qw (l:List Cell) (hl:l.length≤1073741824):ai C eO [jx l] (vB ((l.all kK&&decide (l.length=24)))) []:=by
 refine(XZ _ _ ?_).run
 have key:((l.drop 0).all kK&&decide (l.length=24))=(l.all kK&&decide (l.length=24))→aa C eO ak 4 0 (kX (l.map bM) ((0:Nat):Int)) (fun u st=>ax C eO ak u st fun r fs=>r=vB ((l.all kK&&decide (l.length=24)))∧fs=[]):=by
  refine aZ l (fun i=>((l.drop i).all kK&&decide (l.length=24))=(l.all kK&&decide (l.length=24))→aa C eO ak 4 0 (kX (l.map bM) i) (fun u st=>ax C eO ak u st fun r fs=>r=vB ((l.all kK&&decide (l.length=24)))∧fs=[])) ?_ ?_
  ·intro h0
   refine Fs _ _ _ (an cY (RF _ _ _ _ _ ?_));rw[ew] at h0;simp only[qT,dz] at h0;rw[←h0];simp[bE]
   try omega
  ·intro i a hi ha hd uH hn h0
   have gO:kK a=false→(l.all kK&&decide (l.length=24))=false:=fun e=>by rw[←h0,hd];simp[e]
   have gN:kK a=true→aa C eO ak 4 0 (kX (l.map bM) ((i:Int)+1)) (fun u st=>ax C eO ak u st fun r fs=>r=vB ((l.all kK&&decide (l.length=24)))∧fs=[]):=fun e=>hn (by rw[←h0,hd];simp[e]);refine Fs _ _ _ (ah eJ ?_);simp only[pX,xh,yw,bE,aH,ha,aY,dw,dA,bU,fA,g7,eu,fC,dR,fD,fE,g8,cT,natAdd,bY,cG,gL,dz,jV];rw[aG ay]
   cases h1:iC a.g 0 999<;>cases h2:iD a.n<;>cases h3:a.u<;>by_cases h4:a.n=0<;>simp only[h1,h2,h3,h4,lg,lM,decide_true,decide_false,not_true_eq_false,not_false_eq_true,BI,Bool.not_false]<;>first|exact gN (by unfold kK;rw[h1,h2,h3];simp[h4])|exact RE _ _ _ _ (by rw[gO (by unfold kK;rw[h1,h2,h3];simp[h4])];exact⟨rfl,by trivial⟩)
 exact key rfl
theorem AR (l:List Cell) (hl:l.length≤1073741824) (q:Bool):ai C eO [jx l] (vB q) []↔q=eK l:=vQ (Qw l hl)
theorem SQ (s:ByteArray) (hl:s.size≤140737488355328):ai C eC [vS s] (vB ((dU s.size (gm s)&&iC s.size 1 6))) []:=by
 refine(aao _ _ ?_).run
 have key:((ov 0 (s.size-0)).all (gm s)&&iC s.size 1 6)=(dU s.size (gm s)&&iC s.size 1 6)→aa C eC ak 4 0 (mM s ((0:Nat):Int)) (fun u st=>ax C eC ak u st fun r fs=>r=vB ((dU s.size (gm s)&&iC s.size 1 6))∧fs=[]):=by
  refine tg (s.size) (fun i=>((ov i (s.size-i)).all (gm s)&&iC s.size 1 6)=(dU s.size (gm s)&&iC s.size 1 6)→aa C eC ak 4 0 (mM s i) (fun u st=>ax C eC ak u st fun r fs=>r=vB ((dU s.size (gm s)&&iC s.size 1 6))∧fs=[])) ?_ ?_
  ·intro h0
   refine IU _ _ _ (an cY (U0 _ _ _ _ ?_));rw[qU] at h0;simp only[Gv,qT,dz] at h0;rw[←h0];simp only[D1,dA,Mm,lX];simp
  ·intro i hi hn h0
   rw[nH hi,qq] at h0
   have gO:(gm s) i=false→(dU s.size (gm s)&&iC s.size 1 6)=false:=fun e=>by rw[←h0,e];rfl
   have gN:(gm s) i=true→aa C eC ak 4 0 (mM s ((i:Int)+1)) (fun u st=>ax C eC ak u st fun r fs=>r=vB ((dU s.size (gm s)&&iC s.size 1 6))∧fs=[]):=fun e=>hn (by rw[←h0,e];rfl);refine IU _ _ _ (ah eJ ?_);obtain⟨n,hb,hn0,hn1⟩:=abg hi;have hw:zz .i64 n=n:=aen ay;simp only[hb,aY,dw,D1,dA,hw,bU];rw[aG ay]
   have e:gm s i=(iC n 97 122||iC n 48 57):=by unfold gm;rw[hb];rfl
   rw[e] at gO gN
   cases h1:iC n 97 122<;>cases h2:iC n 48 57<;>simp only[lg,lM]<;>first|exact gN (by rw[h1,h2];rfl)|exact UZ _ (by rw[gO (by rw[h1,h2];rfl)];exact⟨rfl,by trivial⟩)
 exact key rfl
theorem uZ (s:ByteArray) (hl:s.size≤140737488355328) (q:Bool):ai C eC [vS s] (vB q) []↔q=jT s:=vQ (SQ s hl)
theorem anX (l:List Age): ∀(id:Int),id=0→eB l id=[]:=fun id h=>aI h
theorem yZ (l:List Age) (id:Int) (hl:l.length≤1073741824):ai C gD [gy l,vI id] (oD (eB l id)) []:=by
 refine(Z9 _ _ _ ?_).run
 have key: ∀(acc:List Int),acc.length+(l.drop 0).length≤l.length→acc++eB (l.drop 0) id=eB l id→aa C gD aj 4 0 (mL (l.map bR) id ((0:Nat):Int) (acc.map bP)) (fun u st=>ax C gD aj u st fun r fs=>r=(oD (eB l id))∧fs=[]):=by
  refine aZ l (fun i=> ∀(acc:List Int),acc.length+(l.drop i).length≤l.length→acc++eB (l.drop i) id=eB l id→aa C gD aj 4 0 (mL (l.map bR) id i (acc.map bP)) (fun u st=>ax C gD aj u st fun r fs=>r=(oD (eB l id))∧fs=[])) ?_ ?_
  ·intro acc h0 h1
   refine IJ _ _ _ _ _ (an cY (UE _ _ _ _ _ _ ?_));rw[ew] at h1;simp[eB] at h1;simp[eB,h1]
  ·intro i a hi ha hd ht hn acc h0 h1
   refine IJ _ _ _ _ _ (ah eJ ?_);rw[hd] at h0 h1;simp only[fX] at h0;simp only[wX,VA,acg,bE,bJ,aH,ha,aY,dw,dA,bU,fA,g7,eu,fC,dR,fD,fE,g8,cT,natAdd,bY,cG,gL,dz,jV];simp (disch:=omega) only[cP,aG,lg]
   by_cases hz:id=0
   ·rw[anX _ _ hz] at h1
    have e: ∀(A B:Prop),(if a.fr=id then(if id=0 then A else B) else A)=if a.fr=id then A else A:=fun A B=>by rw[aI hz]
    rw[e,ite_self];exact hn _ ay (by rw[anX _ _ hz,←h1])
   by_cases hk:a.fr=id
   ·rw[aI hk,aF hz]
    exact hn (acc++[a.id]) (by simp only[cG,gL];omega) (by rw[←h1];simp[eB,hk,hz])
   ·rw[aF hk]
    exact hn _ ay (by rw[←h1];simp[eB,hk,hz])
 exact key [] cY rfl
theorem Qx (l:List Key) (hl:l.length≤1073741824):ai C j6 [dM l] (vB (dU l.length (jw l fT))) []:=by
 refine(XP _ _ ?_).run
 have key: ∀(k i:Nat),i+k=l.length→1≤i→(ov i k).all (jw l fT)=dU l.length (jw l fT)→aa C j6 ak 4 0 (uf (l.map bQ) i) (fun u st=>ax C j6 ak u st fun r fs=>r=vB (dU l.length (jw l fT))∧fs=[]):=by
  intro k
  induction k with
  |zero=>
   intro i h h1 h0;refine ye _ _ _ (an eJ (Fo _ _ _ _ ?_));simp only[Gv,qT] at h0;rw[←h0];exact⟨rfl,by trivial⟩
  |succ k ih=>
   intro i h h1 h0;obtain⟨j,rfl⟩: ∃j,i=j+1:=⟨i-1,by omega⟩;have hj:l[j]?=some l[j]:=cm ay;have hj1:l[j+1]?=some l[j+1]:=cm ay
   have e:jw l fT (j+1)=fT l[j] l[j+1]:=by simp only[jw,hj,hj1]
   rw[List.range'_succ,qq,e] at h0;refine ye _ _ _ (ah eJ ?_);rw[dh ay,show((j+1:Nat):Int)-1=(j:Int) by omega];simp only[lN,aH,hj,hj1,aY,dw,Kd,dA,eu,bU];rw[aG ay]
   cases hb:fT l[j] l[j+1] with
   |true=>
    rw[hb,dz] at h0;exact ah rfl (ih (j+1+1) ay ay h0)
   |false=>
    rw[hb,Bool.false_and] at h0;refine an rfl (RA _ ?_);rw[←h0];exact⟨rfl,by trivial⟩
 cases hz:l.length with
 |zero=>
  have:l=[]:=Eb hz;subst this;exact ye _ _ _ (an cY (Fo _ _ _ _ ⟨rfl,by trivial⟩))
 |succ n=>
  rw[hz] at key;exact key n 1 ay ay (by unfold dU;rw[List.range'_succ,qq];rfl)
theorem W0 (l:List Key) (hl:l.length≤1073741824):ai C gX [dM l] (vB ((l.all jW&&(dU l.length (jw l fT)&&decide (l.length≤60))))) []:=by
 refine(ac9 _ _ ?_).run
 have key:((l.drop 0).all jW&&(dU l.length (jw l fT)&&decide (l.length≤60)))=(l.all jW&&(dU l.length (jw l fT)&&decide (l.length≤60)))→aa C gX ak 4 0 (qo (l.map bQ) ((0:Nat):Int)) (fun u st=>ax C gX ak u st fun r fs=>r=vB ((l.all jW&&(dU l.length (jw l fT)&&decide (l.length≤60))))∧fs=[]):=by
  refine aZ l (fun i=>((l.drop i).all jW&&(dU l.length (jw l fT)&&decide (l.length≤60)))=(l.all jW&&(dU l.length (jw l fT)&&decide (l.length≤60)))→aa C gX ak 4 0 (qo (l.map bQ) i) (fun u st=>ax C gX ak u st fun r fs=>r=vB ((l.all jW&&(dU l.length (jw l fT)&&decide (l.length≤60))))∧fs=[])) ?_ ?_
  ·intro h0
   refine KT _ _ _ (an cY (Yj _ _ _ _ ?_));rw[ew] at h0;simp only[qT,dz] at h0;rw[←h0];refine⟨_,Qx l hl,?_⟩;simp only[gl,bY,lX]
   cases dU l.length (jw l fT)<;>simp
   omega
  ·intro i a hi ha hd uH hn h0
   have gO:jW a=false→(l.all jW&&(dU l.length (jw l fT)&&decide (l.length≤60)))=false:=fun e=>by rw[←h0,hd];simp[e]
   have gN:jW a=true→aa C gX ak 4 0 (qo (l.map bQ) ((i:Int)+1)) (fun u st=>ax C gX ak u st fun r fs=>r=vB ((l.all jW&&(dU l.length (jw l fT)&&decide (l.length≤60))))∧fs=[]):=fun e=>hn (by rw[←h0,hd];simp[e]);refine KT _ _ _ (ah eJ ?_);simp only[lN,Oj,aH,ha,aY,dw,dA,bU,fA,g7,eu,fC,dR,fD,fE,g8,cT,natAdd,bY,cG,gL,dz,jV];rw[aG ay]
   cases h1:jW a<;>simp only[lg,lM]<;>first|exact gN zYs|exact Yi _ (by rw[gO zYs];exact⟨rfl,by trivial⟩)
 exact key rfl
theorem SR (l:List Key) (hl:l.length≤1073741824):ai C gX [dM l] (vB (JJ l)) []:=by
 have:=W0 l hl;rw[Wx];exact this
theorem acD (l:List Key) (hl:l.length≤1073741824) (q:Bool):ai C gX [dM l] (vB q) []↔q=JJ l:=vQ (SR l hl)
theorem SS (s:ByteArray) (hl:s.size≤140737488355328):ai C dH [vS s] (vB ((dU s.size (gm s)&&iC s.size 1 6))) []:=by
 refine(aaq _ _ ?_).run
 have key:((ov 0 (s.size-0)).all (gm s)&&iC s.size 1 6)=(dU s.size (gm s)&&iC s.size 1 6)→aa C dH ak 4 0 (mO s ((0:Nat):Int)) (fun u st=>ax C dH ak u st fun r fs=>r=vB ((dU s.size (gm s)&&iC s.size 1 6))∧fs=[]):=by
  refine tg (s.size) (fun i=>((ov i (s.size-i)).all (gm s)&&iC s.size 1 6)=(dU s.size (gm s)&&iC s.size 1 6)→aa C dH ak 4 0 (mO s i) (fun u st=>ax C dH ak u st fun r fs=>r=vB ((dU s.size (gm s)&&iC s.size 1 6))∧fs=[])) ?_ ?_
  ·intro h0
   refine IW _ _ _ (an cY (U3 _ _ _ _ ?_));rw[qU] at h0;simp only[Gv,qT,dz] at h0;rw[←h0];simp only[xh,dA,Mm,lX];simp
  ·intro i hi hn h0
   rw[nH hi,qq] at h0
   have gO:(gm s) i=false→(dU s.size (gm s)&&iC s.size 1 6)=false:=fun e=>by rw[←h0,e];rfl
   have gN:(gm s) i=true→aa C dH ak 4 0 (mO s ((i:Int)+1)) (fun u st=>ax C dH ak u st fun r fs=>r=vB ((dU s.size (gm s)&&iC s.size 1 6))∧fs=[]):=fun e=>hn (by rw[←h0,e];rfl);refine IW _ _ _ (ah eJ ?_);obtain⟨n,hb,hn0,hn1⟩:=abg hi;have hw:zz .i64 n=n:=aen ay;simp only[hb,aY,dw,xh,dA,hw,bU];rw[aG ay]
   have e:gm s i=(iC n 97 122||iC n 48 57):=by unfold gm;rw[hb];rfl
   rw[e] at gO gN
   cases h1:iC n 97 122<;>cases h2:iC n 48 57<;>simp only[lg,lM]<;>first|exact gN (by rw[h1,h2];rfl)|exact U2 _ (by rw[gO (by rw[h1,h2];rfl)];exact⟨rfl,by trivial⟩)
 exact key rfl
theorem nc (s:ByteArray) (hl:s.size≤140737488355328) (q:Bool):ai C dH [vS s] (vB q) []↔q=jT s:=vQ (SS s hl)
theorem vj (l:List Age) (id:Int) (hl:l.length≤1073741824):ai C ga [gy l,vI id] (oD (eB l id)) []:=by
 refine(aaw _ _ _ ?_).run;unfold eB
 by_cases hz:id=0
 ·refine ah (by simp[hz]) ?_
  rw[aI hz];exact⟨rfl,by trivial⟩
 refine an (by simp[hz]) ?_;rw[aF hz]
 have key: ∀(acc:List Int),acc.length+(l.drop 0).length≤l.length→acc++((l.drop 0).filter fun a=>decide (a.fr=id)).map (·.id)=(l.filter fun a=>decide (a.fr=id)).map (·.id)→aa C ga av 4 0 (oq id (l.map bR) ((0:Nat):Int) (acc.map bP)) (fun u st=>ax C ga av u st fun r fs=>r=oD ((l.filter fun a=>decide (a.fr=id)).map (·.id))∧fs=[]):=by
  refine aZ l (fun i=> ∀(acc:List Int),acc.length+(l.drop i).length≤l.length→acc++((l.drop i).filter fun a=>decide (a.fr=id)).map (·.id)=(l.filter fun a=>decide (a.fr=id)).map (·.id)→aa C ga av 4 0 (oq id (l.map bR) i (acc.map bP)) (fun u st=>ax C ga av u st fun r fs=>r=oD ((l.filter fun a=>decide (a.fr=id)).map (·.id))∧fs=[])) ?_ ?_
  ·intro acc h0 h1
   refine IY _ _ _ _ _ (an cY (U9 _ _ _ _ _ _ _ ?_));rw[ew] at h1;simp only[List.filter_nil,List.map_nil,qt] at h1;rw[h1];exact⟨rfl,by trivial⟩
  ·intro i a hi ha hd ht hn acc h0 h1
   refine IY _ _ _ _ _ (ah eJ ?_);rw[hd] at h0 h1;simp only[fX] at h0;simp only[wX,VA,acg,bE,bJ,aH,ha,aY,dw,dA,bU,fA,g7,eu,fC,dR,fD,fE,g8,cT,natAdd,bY,cG,gL,dz,jV];simp (disch:=omega) only[cP,aG,lg]
   by_cases hk:a.fr=id
   ·rw[aI hk]
    exact hn (acc++[a.id]) (by simp only[cG,gL];omega) (by rw[←h1];simp[hk])
   ·rw[aF hk]
    exact hn _ ay (by rw[←h1];simp[hk])
 exact key [] cY rfl
theorem SU (l:List Key) (hl:l.length≤1073741824):ai C gW [dM l] (vB ((dU l.length (pY l)&&decide (l.length≤60)))) []:=by
 refine(ac4 _ _ ?_).run
 have key:((ov 0 (l.length-0)).all (pY l)&&decide (l.length≤60))=(dU l.length (pY l)&&decide (l.length≤60))→aa C gW ak 4 0 (nP (l.map bQ) ((0:Nat):Int)) (fun u st=>ax C gW ak u st fun r fs=>r=vB ((dU l.length (pY l)&&decide (l.length≤60)))∧fs=[]):=by
  refine tg (l.length) (fun i=>((ov i (l.length-i)).all (pY l)&&decide (l.length≤60))=(dU l.length (pY l)&&decide (l.length≤60))→aa C gW ak 4 0 (nP (l.map bQ) i) (fun u st=>ax C gW ak u st fun r fs=>r=vB ((dU l.length (pY l)&&decide (l.length≤60)))∧fs=[])) ?_ ?_
  ·intro h0
   refine KP _ _ _ (an cY (X9 _ _ _ _ _ ?_));rw[qU] at h0;simp only[Gv,qT,dz] at h0;rw[←h0];simp[gl];omega
  ·intro i hi hn h0
   rw[nH hi,qq] at h0
   have gO:(pY l) i=false→(dU l.length (pY l)&&decide (l.length≤60))=false:=fun e=>by rw[←h0,e];rfl
   have gN:(pY l) i=true→aa C gW ak 4 0 (nP (l.map bQ) ((i:Int)+1)) (fun u st=>ax C gW ak u st fun r fs=>r=vB ((dU l.length (pY l)&&decide (l.length≤60)))∧fs=[]):=fun e=>hn (by rw[←h0,e];rfl);refine KP _ _ _ (ah eJ ?_);have ha:l[i]?=some l[i]:=cm hi;simp only[lN,Oi,Kb,aH,ha,aY,dw,dA,bU,fA,g7,eu,fC,dR,fD,fE,g8,cT,natAdd,bY,cG,gL,dz,jV];rw[aG ay]
   cases i with
   |zero=>
    have e:pY l 0=jW l[0]:=by simp[pY,atL,jw,hi]
    simp only[e] at gO gN
    cases h1:jW l[0]<;>simp only[h1,lg,lM,dm,bJ,Int.natCast_zero,Int.lt_irrefl,if_false]<;>first|exact gN h1|exact KQ _ _ _ _ _ _ (by rw[gO h1];exact⟨rfl,by trivial⟩)
   |succ k=>
    have hk:l[k]?=some l[k]:=cm ay
    have e:pY l (k+1)=(jW l[k+1]&&fT l[k] l[k+1]):=by simp only[pY,atL,jw,hk,ha]
    simp only[e] at gO gN;rw[dh ay,show((k+1:Nat):Int)-1=(k:Int) by omega];simp only[aH,hk,aY,dw,eu,dm,bJ];rw[aI ay]
    cases h1:jW l[k+1]<;>cases h2:fT l[k] l[k+1]<;>simp only[lg,lM]<;>first|exact gN (by rw[h1,h2];rfl)|exact KQ _ _ _ _ _ _ (by rw[gO (by rw[h1,h2];rfl)];exact⟨rfl,by trivial⟩)
 exact key rfl
theorem acE (l:List Key) (hl:l.length≤1073741824) (q:Bool):ai C gW [dM l] (vB q) []↔q=JJ l:=vQ (SU l hl)
theorem YU (t:Tree) (l:List Age) (b id:Int) (hl:cH t≤1073741824) (ha:l.length≤1073741823):ai C Qp [dX t,gy l,vI b,vI id] (Yq (LJ t l b id)) []:=by
 refine(afm _ _ _ _ _ _ ?_).run;refine⟨_,GD l id ay,_,_,_,_,_,_,GG t b _ hl (by have:=FW l id;omega),?_⟩;exact⟨rfl,by trivial⟩
theorem AS (t:Tree) (l:List Age) (b id:Int) (hl:cH t≤1073741824) (ha:l.length≤1073741823):ai C xe [dX t,gy l,vI b,vI id] (Yq (tU t l b id)) []:=by
 refine(RH _ _ _ _ _ _ ?_).run;have hp:=FW l id;refine⟨_,GD l id ay,?_⟩;simp only[bY,lX,bE,bJ,cK];unfold tU
 by_cases h:(pathOf l id).length=0
 ·rw[aI ay,Eb h]
  simp[akr,fU]
 ·rw[aF ay]
  refine ah eJ ⟨_,_,_,_,_,_,GG t b _ hl eJ,?_⟩
  have e:List.drop (Int.toNat 1) (List.take (Int.toNat ((pathOf l id).length:Int)) (pathOf l id))=(pathOf l id).drop 1:=by rw[lY,wh];rfl
  rw[e];exact⟨rfl,by trivial⟩
theorem YV (t:Tree) (l:List Age) (k:Key) (id:Int) (hl:cH t≤1073741824) (ha:l.length≤1073741823):ai C Li [dX t,gy l,uJ k,vI id] (vB (nI t l k id)) []:=by
 refine(afl _ _ _ _ _ _ _ _ _ _ ?_).run;refine⟨_,_,_,_,_,_,YU t l k.b id hl ha,?_⟩;unfold nI;simp only[bE]
 cases h:(LJ t l k.b id).2
 ·exact an rfl ⟨rfl,by trivial⟩
 ·exact ah rfl ⟨by simp,by trivial⟩
theorem MO (p:Pool) (k:Key) (ht:cH p.t≤1073741824) (hg:p.aL.length≤1073741823) (hl:p.au.length≤1073741824):ai C eg [c6 p,uJ k] (vB ((p.au.any (fun v:Vol=>decide (k.b<v.size)&&nI p.t p.aL k v.cV)))) []:=by
 refine(RY _ _ _ _ _ _ _ _ _ _ _ _ ?_).run
 have key:((p.au.drop 0).any (fun v:Vol=>decide (k.b<v.size)&&nI p.t p.aL k v.cV))=(p.au.any (fun v:Vol=>decide (k.b<v.size)&&nI p.t p.aL k v.cV))→aa C eg ak 4 0 (jE ((0:Nat):Int) (p.t.aE.map bP) (p.t.nodes.map aQ) (p.aL.map bR) (p.cells.map bM) (p.au.map cj) p.next k.b k.a k.k k.c k.g) (fun u st=>ax C eg ak u st fun r fs=>r=vB ((p.au.any (fun v:Vol=>decide (k.b<v.size)&&nI p.t p.aL k v.cV)))∧fs=[]):=by
  refine aZ p.au (fun i=>((p.au.drop i).any (fun v:Vol=>decide (k.b<v.size)&&nI p.t p.aL k v.cV))=(p.au.any (fun v:Vol=>decide (k.b<v.size)&&nI p.t p.aL k v.cV))→aa C eg ak 4 0 (jE i (p.t.aE.map bP) (p.t.nodes.map aQ) (p.aL.map bR) (p.cells.map bM) (p.au.map cj) p.next k.b k.a k.k k.c k.g) (fun u st=>ax C eg ak u st fun r fs=>r=vB ((p.au.any (fun v:Vol=>decide (k.b<v.size)&&nI p.t p.aL k v.cV)))∧fs=[])) ?_ ?_
  ·intro h0
   refine Bz _ _ _ _ _ _ _ _ _ _ _ _ _ (an cY (Np _ _ _ _ _ _ _ _ _ _ _ _ _ _ ?_));rw[ew] at h0;simp only[List.any_nil,dz] at h0;rw[←h0];exact⟨rfl,by trivial⟩
  ·intro i a hi ha hd uH hn h0
   have gO:(fun v:Vol=>decide (k.b<v.size)&&nI p.t p.aL k v.cV) a=true→(p.au.any (fun v:Vol=>decide (k.b<v.size)&&nI p.t p.aL k v.cV))=true:=fun e=>by rw[←h0,hd];simp[e]
   have gN:(fun v:Vol=>decide (k.b<v.size)&&nI p.t p.aL k v.cV) a=false→aa C eg ak 4 0 (jE ((i:Int)+1) (p.t.aE.map bP) (p.t.nodes.map aQ) (p.aL.map bR) (p.cells.map bM) (p.au.map cj) p.next k.b k.a k.k k.c k.g) (fun u st=>ax C eg ak u st fun r fs=>r=vB ((p.au.any (fun v:Vol=>decide (k.b<v.size)&&nI p.t p.aL k v.cV)))∧fs=[]):=fun e=>hn (by rw[←h0,hd];simp[e]);refine Bz _ _ _ _ _ _ _ _ _ _ _ _ _ (ah eJ ?_)
   have hh: ∀q,ai C Li [dX p.t,gy p.aL,uJ k,vI a.cV] (vB q) []↔q=nI p.t p.aL k a.cV:=fun q=>vQ (YV p.t p.aL k a.cV ht hg);simp only[yX,hh,dm,bJ,aH,ha,aY,dw,dA,bU,fA,g7,eu,fC,dR,fD,fE,g8,cT,natAdd,bY,cG,gL,dz,jV];rw[aG ay]
   by_cases h1:k.b<a.size<;>cases h2:nI p.t p.aL k a.cV<;>simp only[h1,if_true,if_false,lg,lM]<;>first|exact gN (by simp[h1,h2])|exact No _ _ _ _ _ _ _ _ _ _ _ _ (by rw[gO (by simp[h1,h2])];exact⟨rfl,by trivial⟩)
 exact key rfl
theorem Lq (p:Pool) (k:Key) (ht:cH p.t≤1073741824) (hg:p.aL.length≤1073741823) (hl:p.au.length≤1073741824):ai C eg [c6 p,uJ k] (vB (P5 p k)) []:=MO p k ht hg hl
theorem YW (t:Tree) (l:List Age) (b id:Int) (hl:cH t≤1073741824) (ha:l.length≤1073741823):ai C Qq [dX t,gy l,vI b,vI id] (Yq (LJ t l b id)) []:=by
 refine(afa _ _ _ _ _ _ ?_).run;refine⟨_,GF l id ay,_,_,_,_,_,_,GH t b _ hl (by have:=FW l id;omega),?_⟩;exact⟨rfl,by trivial⟩
theorem AT (t:Tree) (l:List Age) (b id:Int) (hl:cH t≤1073741824) (ha:l.length≤1073741823):ai C xg [dX t,gy l,vI b,vI id] (Yq (tU t l b id)) []:=by
 refine(RW _ _ _ _ _ _ ?_).run;have hp:=FW l id;refine⟨_,GF l id ay,?_⟩;simp only[bY,lX,cK,amq];unfold tU
 have e: ∀m:Int,((m=1∧1≤(pathOf l id).length)∨(m=0∧(pathOf l id).length=0))→List.drop m.toNat (List.take (Int.toNat ((pathOf l id).length:Int)) (pathOf l id))=(pathOf l id).drop 1:=fun m hm=>by
  rw[lY,wh];rcases hm with⟨rfl,_⟩|⟨rfl,h⟩
  ·rfl
  ·rw[Eb h];rfl
 have hm:(if((pathOf l id).length:Int)<1 then((pathOf l id).length:Int) else 1)=1∧1≤(pathOf l id).length∨((if((pathOf l id).length:Int)<1 then((pathOf l id).length:Int) else 1)=0∧(pathOf l id).length=0):=by split<;>omega
 revert hm
 generalize (if((pathOf l id).length:Int)<1 then((pathOf l id).length:Int) else 1)=m;intro hm;rw[e m hm];refine ah eJ ⟨_,_,_,_,_,_,GH t b _ hl eJ,?_⟩;exact⟨rfl,by trivial⟩
theorem YX (t:Tree) (l:List Age) (k:Key) (id:Int) (hl:cH t≤1073741824) (ha:l.length≤1073741823):ai C Lj [dX t,gy l,uJ k,vI id] (vB (nI t l k id)) []:=by
 refine(ae9 _ _ _ _ _ _ _ _ _ _ ?_).run;refine⟨_,_,_,_,_,_,YW t l k.b id hl ha,?_⟩;unfold nI;simp only[bE]
 cases h:(LJ t l k.b id).2
 ·exact an rfl ⟨rfl,by trivial⟩
 ·exact ah rfl ⟨by simp,by trivial⟩
theorem MP (p:Pool) (k:Key) (ht:cH p.t≤1073741824) (hg:p.aL.length≤1073741823) (hl:p.au.length≤1073741824):ai C ek [c6 p,uJ k] (vB ((p.au.any (fun v:Vol=>decide (k.b<v.size)&&nI p.t p.aL k v.cV)))) []:=by
 refine(Ry _ _ _ _ _ _ _ _ _ _ _ _ ?_).run
 have key:((p.au.drop 0).any (fun v:Vol=>decide (k.b<v.size)&&nI p.t p.aL k v.cV))=(p.au.any (fun v:Vol=>decide (k.b<v.size)&&nI p.t p.aL k v.cV))→aa C ek ak 4 0 (jC (p.au.map cj) ((0:Nat):Int) (p.t.aE.map bP) (p.t.nodes.map aQ) (p.aL.map bR) (p.cells.map bM) p.next k.b k.a k.k k.c k.g) (fun u st=>ax C ek ak u st fun r fs=>r=vB ((p.au.any (fun v:Vol=>decide (k.b<v.size)&&nI p.t p.aL k v.cV)))∧fs=[]):=by
  refine aZ p.au (fun i=>((p.au.drop i).any (fun v:Vol=>decide (k.b<v.size)&&nI p.t p.aL k v.cV))=(p.au.any (fun v:Vol=>decide (k.b<v.size)&&nI p.t p.aL k v.cV))→aa C ek ak 4 0 (jC (p.au.map cj) i (p.t.aE.map bP) (p.t.nodes.map aQ) (p.aL.map bR) (p.cells.map bM) p.next k.b k.a k.k k.c k.g) (fun u st=>ax C ek ak u st fun r fs=>r=vB ((p.au.any (fun v:Vol=>decide (k.b<v.size)&&nI p.t p.aL k v.cV)))∧fs=[])) ?_ ?_
  ·intro h0
   refine Br _ _ _ _ _ _ _ _ _ _ _ _ _ (an cY (Nf _ _ _ _ _ _ _ _ _ _ _ _ _ _ _ ?_));rw[ew] at h0;simp only[List.any_nil,dz] at h0;rw[←h0];exact⟨rfl,by trivial⟩
  ·intro i a hi ha hd uH hn h0
   have gO:(fun v:Vol=>decide (k.b<v.size)&&nI p.t p.aL k v.cV) a=true→(p.au.any (fun v:Vol=>decide (k.b<v.size)&&nI p.t p.aL k v.cV))=true:=fun e=>by rw[←h0,hd];simp[e]
   have gN:(fun v:Vol=>decide (k.b<v.size)&&nI p.t p.aL k v.cV) a=false→aa C ek ak 4 0 (jC (p.au.map cj) ((i:Int)+1) (p.t.aE.map bP) (p.t.nodes.map aQ) (p.aL.map bR) (p.cells.map bM) p.next k.b k.a k.k k.c k.g) (fun u st=>ax C ek ak u st fun r fs=>r=vB ((p.au.any (fun v:Vol=>decide (k.b<v.size)&&nI p.t p.aL k v.cV)))∧fs=[]):=fun e=>hn (by rw[←h0,hd];simp[e]);refine Br _ _ _ _ _ _ _ _ _ _ _ _ _ (ah eJ ?_)
   have hh: ∀q,ai C Lj [dX p.t,gy p.aL,uJ k,vI a.cV] (vB q) []↔q=nI p.t p.aL k a.cV:=fun q=>vQ (YX p.t p.aL k a.cV ht hg);simp only[yX,hh,dm,bJ,aH,ha,aY,dw,dA,bU,fA,g7,eu,fC,dR,fD,fE,g8,cT,natAdd,bY,cG,gL,dz,jV];rw[aG ay]
   by_cases h1:k.b<a.size<;>cases h2:nI p.t p.aL k a.cV<;>simp only[h1,if_true,if_false,lg,lM]<;>first|exact gN (by simp[h1,h2])|exact Nd _ _ _ _ _ _ _ _ _ _ _ _ _ _ _ _ (by rw[gO (by simp[h1,h2])];exact⟨rfl,by trivial⟩)
 exact key rfl
theorem Lr (p:Pool) (k:Key) (ht:cH p.t≤1073741824) (hg:p.aL.length≤1073741823) (hl:p.au.length≤1073741824):ai C ek [c6 p,uJ k] (vB (P5 p k)) []:=MP p k ht hg hl
theorem jk (p:Pool) (s:ByteArray) (hl:p.au.length≤1073741824):ai C ee [c6 p,vS s] (vI (cc p.au s)) []:=by
 refine(acU _ _ _ _ _ _ _ _ ?_).run
 have key:eT (fun v:Vol=>decide (v.name=s)) (p.au.drop 0) ((0:Nat):Int)=eT (fun v:Vol=>decide (v.name=s)) p.au 0→aa C ee ak 4 0 (tI s ((0:Nat):Int) (p.t.aE.map bP) (p.t.nodes.map aQ) (p.aL.map bR) (p.cells.map bM) (p.au.map cj) p.next) (fun u st=>ax C ee ak u st fun r fs=>r=vI (cc p.au s)∧fs=[]):=by
  refine aZ p.au (fun i=>eT (fun v:Vol=>decide (v.name=s)) (p.au.drop i) (i:Int)=eT (fun v:Vol=>decide (v.name=s)) p.au 0→aa C ee ak 4 0 (tI s i (p.t.aE.map bP) (p.t.nodes.map aQ) (p.aL.map bR) (p.cells.map bM) (p.au.map cj) p.next) _) ?_ ?_
  ·intro h0
   refine KI _ _ _ _ _ _ _ _ _ (an cY (XH _ _ _ _ _ _ _ _ _ _ ?_));rw[ew] at h0;simp only[eT] at h0;change _=vI (eT (fun v:Vol=>decide (v.name=s)) p.au 0)∧_;rw[←h0];exact⟨rfl,by trivial⟩
  ·intro i a hi ha hd uH hn h0
   refine KI _ _ _ _ _ _ _ _ _ (ah eJ ?_);rw[hd] at h0;simp only[eT] at h0;simp only[yX,FV,bJ,aH,ha,aY,dw,dA,bU,fA,g7,eu,fC,dR,fD,fE,g8,cT,natAdd,bY,cG,gL,dz,jV];rw[aG ay]
   split at h0
   ·rename_i hp
    have hp:=yy hp
    first|rw[aI hp]|rw[aI hp.symm]
    refine XG _ _ _ _ _ _ _ _ ?_;rw[h0];exact⟨rfl,by trivial⟩
   ·rename_i hp
    have hp: ¬_:=fun h=>hp (fk h)
    first|rw[aF hp]|rw[aF (fun h=>hp h.symm)]
    exact hn h0
 exact key rfl
@[simp] theorem W2 (n:ByteArray) (a z:Int) (f:Bool) (s:ByteArray) (q:Bool):ai C z7 [.ag [iS n,iI a,iI z,iB f],.bx [iS s]] (vB q) []↔q=decide (n=s):=vQ (by
  refine(XF _ _ _ _ _ _ ?_).run
  simp)
theorem YY (l:List Vol) (s:ByteArray) (hl:l.length≤1073741824):ai C aK [qW l,.fn z7 [[iS s]]] (vI (cc l s)) []:=by
 refine(u6 _ _ _ ?_).run
 have key:eT (fun v:Vol=>decide (v.name=s)) (l.drop 0) ((0:Nat):Int)=eT (fun v:Vol=>decide (v.name=s)) l 0→aa C aK ak 4 0 (ey (l.map cj) ((0:Nat):Int) s) (fun u st=>ax C aK ak u st fun r fs=>r=vI (cc l s)∧fs=[]):=by
  refine aZ l (fun i=>eT (fun v:Vol=>decide (v.name=s)) (l.drop i) (i:Int)=eT (fun v:Vol=>decide (v.name=s)) l 0→aa C aK ak 4 0 (ey (l.map cj) i s) _) ?_ ?_
  ·intro h0
   refine mC _ _ _ _ (an cY (uu _ _ _ _ _ _ ?_));rw[ew] at h0;simp only[eT] at h0;change _=vI (eT (fun v:Vol=>decide (v.name=s)) l 0)∧_;rw[←h0];exact⟨rfl,by trivial⟩
  ·intro i a hi ha hd uH hn h0
   refine mC _ _ _ _ (ah eJ ?_);rw[hd] at h0;simp only[eT] at h0;simp only[yX,bE,W2,bJ,aH,ha,aY,dw,dA,bU,fA,g7,eu,fC,dR,fD,fE,g8,cT,natAdd,bY,cG,gL,dz,jV];rw[aG ay]
   split at h0
   ·rename_i hp
    have hp:=yy hp
    first|rw[aI hp]|rw[aI hp.symm]
    refine ur _ _ _ ?_;rw[h0];exact⟨rfl,by trivial⟩
   ·rename_i hp
    have hp: ¬_:=fun h=>hp (fk h)
    first|rw[aF hp]|rw[aF (fun h=>hp h.symm)]
    exact hn h0
 exact key rfl
theorem lS (p:Pool) (s:ByteArray) (hl:p.au.length≤1073741824):ai C vY [c6 p,vS s] (vI (cc p.au s)) []:=(acP _ _ _ _ _ _ _ _ ⟨_,YY p.au s hl,rfl,by trivial⟩).run
@[simp] theorem YZ (n:ByteArray) (a z:Int) (f:Bool) (id:Int) (q:Bool):ai C yM [.ag [iS n,iI a,iI z,iB f],.bx [iI id]] (vB q) []↔q=decide (a=id):=vQ (by
  refine(aae _ _ _ _ _ _ ?_).run
  simp)
theorem Ls (l:List Vol) (id:Int) (hl:l.length≤1073741824):ai C aK [qW l,.fn yM [[iI id]]] (vI (eT (fun v:Vol=>decide (v.cV=id)) l 0)) []:=by
 refine(wg _ _ _ ?_).run
 have key:eT (fun v:Vol=>decide (v.cV=id)) (l.drop 0) ((0:Nat):Int)=eT (fun v:Vol=>decide (v.cV=id)) l 0→aa C aK ak 4 0 (eH (l.map cj) ((0:Nat):Int) id) (fun u st=>ax C aK ak u st fun r fs=>r=vI (eT (fun v:Vol=>decide (v.cV=id)) l 0)∧fs=[]):=by
  refine aZ l (fun i=>eT (fun v:Vol=>decide (v.cV=id)) (l.drop i) (i:Int)=eT (fun v:Vol=>decide (v.cV=id)) l 0→aa C aK ak 4 0 (eH (l.map cj) i id) _) ?_ ?_
  ·intro h0
   refine mU _ _ _ _ (an cY (uM _ _ _ _ _ _ ?_));rw[ew] at h0;simp only[eT] at h0;change _=vI (eT (fun v:Vol=>decide (v.cV=id)) l 0)∧_;rw[←h0];exact⟨rfl,by trivial⟩
  ·intro i a hi ha hd uH hn h0
   refine mU _ _ _ _ (ah eJ ?_);rw[hd] at h0;simp only[eT] at h0;simp only[yX,bE,YZ,bJ,aH,ha,aY,dw,dA,bU,fA,g7,eu,fC,dR,fD,fE,g8,cT,natAdd,bY,cG,gL,dz,jV];rw[aG ay]
   split at h0
   ·rename_i hp
    have hp:=yy hp
    first|rw[aI hp]|rw[aI hp.symm]
    refine uL _ _ _ ?_;rw[h0];exact⟨rfl,by trivial⟩
   ·rename_i hp
    have hp: ¬_:=fun h=>hp (fk h)
    first|rw[aF hp]|rw[aF (fun h=>hp h.symm)]
    exact hn h0
 exact key rfl
theorem Lt (l:List Vol) (id:Int) (hl:l.length≤1073741824):ai C fq [qW l,.fn yM [[iI id]]] (vB (l.any (fun v:Vol=>decide (v.cV=id)))) []:=by
 refine(uv _ _ _ ⟨_,Ls l id hl,?_⟩).run;rw[gl,N5 _ _ _ ay];exact⟨rfl,by trivial⟩
@[simp] theorem SV (n:ByteArray) (a z:Int) (f:Bool) (s:ByteArray) (a' z':Int) (f':Bool) (q:Bool):ai C rP [.ag [iS n,iI a,iI z,iB f],.bx [iS s,iI a',iI z',iB f']] (vB q) []↔q=decide (a=a'):=vQ (by
  refine(Vl _ _ _ _ _ _ _ _ _ ?_).run
  simp)
theorem Jb (l:List Vol) (s:ByteArray) (a' z':Int) (f':Bool) (hl:l.length≤1073741824):ai C aK [qW l,.fn rP [[iS s,iI a',iI z',iB f']]] (vI (eT (fun v:Vol=>decide (v.cV=a')) l 0)) []:=by
 refine(uN _ _ _ _ _ _ ?_).run
 have key:eT (fun v:Vol=>decide (v.cV=a')) (l.drop 0) ((0:Nat):Int)=eT (fun v:Vol=>decide (v.cV=a')) l 0→aa C aK ak 4 0 (eo (l.map cj) ((0:Nat):Int) s a' z' f') (fun u st=>ax C aK ak u st fun r fs=>r=vI (eT (fun v:Vol=>decide (v.cV=a')) l 0)∧fs=[]):=by
  refine aZ l (fun i=>eT (fun v:Vol=>decide (v.cV=a')) (l.drop i) (i:Int)=eT (fun v:Vol=>decide (v.cV=a')) l 0→aa C aK ak 4 0 (eo (l.map cj) i s a' z' f') _) ?_ ?_
  ·intro h0
   refine lW _ _ _ _ _ _ _ (an cY (tL _ _ _ _ _ _ _ _ _ ?_));rw[ew] at h0;simp only[eT] at h0;change _=vI (eT (fun v:Vol=>decide (v.cV=a')) l 0)∧_;rw[←h0];exact⟨rfl,by trivial⟩
  ·intro i a hi ha hd uH hn h0
   refine lW _ _ _ _ _ _ _ (ah eJ ?_);rw[hd] at h0;simp only[eT] at h0;simp only[yX,bE,SV,bJ,aH,ha,aY,dw,dA,bU,fA,g7,eu,fC,dR,fD,fE,g8,cT,natAdd,bY,cG,gL,dz,jV];rw[aG ay]
   split at h0
   ·rename_i hp
    have hp:=yy hp
    first|rw[aI hp]|rw[aI hp.symm]
    refine tK _ _ _ _ _ _ ?_;rw[h0];exact⟨rfl,by trivial⟩
   ·rename_i hp
    have hp: ¬_:=fun h=>hp (fk h)
    first|rw[aF hp]|rw[aF (fun h=>hp h.symm)]
    exact hn h0
 exact key rfl
theorem Jc (l:List Vol) (s:ByteArray) (a' z':Int) (f':Bool) (hl:l.length≤1073741824):ai C fq [qW l,.fn rP [[iS s,iI a',iI z',iB f']]] (vB (l.any (fun v:Vol=>decide (v.cV=a')))) []:=by
 refine(sM _ _ _ _ _ _ ⟨_,Jb l s a' z' f' hl,?_⟩).run;rw[gl,N5 _ _ _ ay];exact⟨rfl,by trivial⟩
theorem LS (p:Pool) (id:Int) (hl:p.au.length≤1073741824):ai C Lh [c6 p,vI id] (vB (qX p.au id)) []:=(afi _ _ _ _ _ _ _ _ ⟨_,Lt p.au id hl,rfl,by trivial⟩).run
theorem Qy (n:List (List Key)) (hb:n.length≤1073741824) (hl:tot bZ n≤1073741824):ai C jr [hD n] (vI (dj n)) []:=by
 refine(XC _ _ ?_).run
 have key: ∀(c:Nat),c+tot bZ (n.drop 0)=dj n→aa C jr aj 4 0 (qj c ((0:Nat):Int) (n.map cW)) (fun u st=>ax C jr aj u st fun r fs=>r=(vI (dj n))∧fs=[]):=by
  refine aZ n (fun i=> ∀(c:Nat),c+tot bZ (n.drop i)=dj n→aa C jr aj 4 0 (qj c i (n.map cW)) (fun u st=>ax C jr aj u st fun r fs=>r=(vI (dj n))∧fs=[])) ?_ ?_
  ·intro c h0
   refine Fh _ _ _ _ (an cY (Rq _ _ _ _ _ ?_));rw[ew] at h0;simp only[tot,xJ] at h0;rw[h0];exact⟨rfl,by trivial⟩
  ·intro i a hi ha hd ht hn c h0
   refine Fh _ _ _ _ (ah eJ ?_);rw[hd] at h0;have e5:tot bZ (a::n.drop (i+1))=a.length+tot bZ (n.drop (i+1)):=rfl;rw[e5] at h0;unfold dj at h0;simp only[xY,aH,ha,aY,dw,dA,bU,fA,g7,eu,fC,dR,fD,fE,g8,cT,natAdd,bY,cG,gL,dz,jV];rw[aG (by simp only[lX];omega),aG ay];exact hn (c+a.length) (by unfold dj;omega)
 exact key 0 (by simp[dj])
theorem Qz (n:List (List Key)) (hs:tot bZ n≤1073741824) (hl:n.length≤1073741824):ai C cw [hD n] (vB ((n.all eI&&(decide (n.length≤3)&&decide (dj n≤8))))) []:=by
 refine(aay _ _ ?_).run
 have key:((n.drop 0).all eI&&(decide (n.length≤3)&&decide (dj n≤8)))=(n.all eI&&(decide (n.length≤3)&&decide (dj n≤8)))→aa C cw ak 4 0 (ot ((0:Nat):Int) (n.map cW)) (fun u st=>ax C cw ak u st fun r fs=>r=vB ((n.all eI&&(decide (n.length≤3)&&decide (dj n≤8))))∧fs=[]):=by
  refine aZ n (fun i=>((n.drop i).all eI&&(decide (n.length≤3)&&decide (dj n≤8)))=(n.all eI&&(decide (n.length≤3)&&decide (dj n≤8)))→aa C cw ak 4 0 (ot i (n.map cW)) (fun u st=>ax C cw ak u st fun r fs=>r=vB ((n.all eI&&(decide (n.length≤3)&&decide (dj n≤8))))∧fs=[])) ?_ ?_
  ·intro h0
   refine I1 _ _ _ (an cY (Ve _ _ _ _ ?_));rw[ew] at h0;simp only[qT,dz] at h0;rw[←h0];simp only[gl,bY,lX,bJ]
   by_cases h3:n.length≤3
   ·rw[aI ay]
    refine⟨_,Qy n hl hs,?_⟩;simp[h3];omega
   ·rw[aF ay]
    simp[h3]
  ·intro i a hi ha hd uH hn h0
   have gO:eI a=false→(n.all eI&&(decide (n.length≤3)&&decide (dj n≤8)))=false:=fun e=>by rw[←h0,hd];simp[e]
   have gN:eI a=true→aa C cw ak 4 0 (ot ((i:Int)+1) (n.map cW)) (fun u st=>ax C cw ak u st fun r fs=>r=vB ((n.all eI&&(decide (n.length≤3)&&decide (dj n≤8))))∧fs=[]):=fun e=>hn (by rw[←h0,hd];simp[e]);refine I1 _ _ _ (ah eJ ?_);have hz:a.length≤tot bZ n:=oF (w:=bZ) ha;have hh: ∀q,ai C gX [dM a] (vB q) []↔q=JJ a:=fun q=>acD a ay q;simp only[xY,hh,bE,lX,bJ,aH,ha,aY,dw,dA,bU,fA,g7,eu,fC,dR,fD,fE,g8,cT,natAdd,bY,cG,gL,dz,jV]
   rw[aG ay]
   cases h1:JJ a<;>by_cases h2:a.length=0<;>simp only[lg,lM]<;>first|(rw[aI ay];exact I2 _ _ (by rw[gO (by simp[eI,h1,h2])];exact⟨rfl,by trivial⟩))|(rw[aF ay];exact gN (by simp[eI,h1,h2]))|exact I2 _ _ (by rw[gO (by simp[eI,h1,h2])];exact⟨rfl,by trivial⟩)
 exact key rfl
theorem y5 (n:List (List Key)) (hb:n.length≤1073741824) (hl:tot bZ n≤1073741824):ai C cw [hD n] (vB (iG n)) []:=by
 have:=Qz n hl hb;rw[abi];exact this
theorem y6 (l:List Age) (hl:l.length≤1073741824):ai C dG [gy l] (vB ((dU l.length (gv l)&&decide (l.length≤16)))) []:=by
 refine(Z7 _ _ ?_).run
 have key:((ov 0 (l.length-0)).all (gv l)&&decide (l.length≤16))=(dU l.length (gv l)&&decide (l.length≤16))→aa C dG ak 4 0 (jv (l.map bR) ((0:Nat):Int)) (fun u st=>ax C dG ak u st fun r fs=>r=vB ((dU l.length (gv l)&&decide (l.length≤16)))∧fs=[]):=by
  refine tg (l.length) (fun i=>((ov i (l.length-i)).all (gv l)&&decide (l.length≤16))=(dU l.length (gv l)&&decide (l.length≤16))→aa C dG ak 4 0 (jv (l.map bR) i) (fun u st=>ax C dG ak u st fun r fs=>r=vB ((dU l.length (gv l)&&decide (l.length≤16)))∧fs=[])) ?_ ?_
  ·intro h0
   refine IF _ _ _ (an cY (Uy _ _ _ _ ?_));rw[qU] at h0;simp only[Gv,qT,dz] at h0;rw[←h0];simp[gl];omega
  ·intro i hi hn h0
   rw[nH hi,qq] at h0
   have gO:(gv l) i=false→(dU l.length (gv l)&&decide (l.length≤16))=false:=fun e=>by rw[←h0,e];rfl
   have gN:(gv l) i=true→aa C dG ak 4 0 (jv (l.map bR) ((i:Int)+1)) (fun u st=>ax C dG ak u st fun r fs=>r=vB ((dU l.length (gv l)&&decide (l.length≤16)))∧fs=[]):=fun e=>hn (by rw[←h0,e];rfl);refine IF _ _ _ (ah eJ ?_);have ha:l[i]?=some l[i]:=cm hi;have hh: ∀q,ai C ef [gy (l.take i),vI l[i].fr] (vI q) []↔q=fm (l.take i) l[i].fr:=fun q=>Gg (l.take i) l[i].fr eJ q
   have xD:aC (l.map bR) 0 (i:Int)=(l.take i).map bR:=by rw[cK,lY];rfl
   have hin:gh 0 (i:Int) (l.length:Int)=true:=by simp;omega
   simp only[wX,D1,xD,aH,ha,aY,dw,dA,bU,fA,g7,eu,fC,dR,fD,fE,g8,cT,natAdd,bY,cG,gL,dz,jV];simp only[ha,hin,hh,dA,aY,dw,lg,bE,gl,dm,bJ,lX,bY];rw[aG ay]
   cases i with
   |zero=>
    have e:gv l 0=(iC l[0].id 1 60&&(decide (l[0].fr=0)|| !decide (fm (l.take 0) l[0].fr<0))):=by simp[gv,atL,jw,hi]
    rw[e] at gO gN
    have hz: ¬((0:Int)<((0:Nat):Int)):=by omega
    simp only[aF hz]
    cases h1:iC l[0].id 1 60 with
    |false=>simp only[lM];exact rJ _ (by rw[gO (by rw[h1];simp)];exact⟨rfl,by trivial⟩)
    |true=>
     simp only[lg]
     by_cases h2:l[0].fr=0
     ·rw[aI h2];exact gN (by rw[h1,fk h2];simp)
     ·rw[aF h2]
      by_cases h3:fm (l.take 0) l[0].fr<0
      ·rw[aI h3];exact rJ _ (by rw[gO (by rw[fe h2,fk h3];simp)];exact⟨rfl,by trivial⟩)
      ·rw[aF h3];exact gN (by rw[h1,fe h3];simp)
   |succ k=>
    have hk:l[k]?=some l[k]:=cm ay
    have e:gv l (k+1)=(iC l[k+1].id 1 60&&(decide (l[k].id<l[k+1].id)&&(decide (l[k+1].fr=0)|| !decide (fm (l.take (k+1)) l[k+1].fr<0)))):=by simp only[gv,atL,jw,hk,ha]
    rw[e] at gO gN;rw[dh ay,show((k+1:Nat):Int)-1=(k:Int) by omega];simp only[aH,hk,aY,dw];rw[aI ay]
    cases h1:iC l[k+1].id 1 60 with
    |false=>simp only[lM];exact rJ _ (by rw[gO (by rw[h1];simp)];exact⟨rfl,by trivial⟩)
    |true=>
     simp only[lg]
     by_cases h4:l[k].id<l[k+1].id
     ·rw[aF ay]
      by_cases h2:l[k+1].fr=0
      ·rw[aI h2];exact gN (by rw[h1,fk h4,fk h2];simp)
      ·rw[aF h2]
       by_cases h3:fm (l.take (k+1)) l[k+1].fr<0
       ·rw[aI h3];exact rJ _ (by rw[gO (by rw[fe h2,fk h3];simp)];exact⟨rfl,by trivial⟩)
       ·rw[aF h3];exact gN (by rw[h1,fk h4,fe h3];simp)
     ·rw[aI ay];exact rJ _ (by rw[gO (by rw[fe h4];simp)];exact⟨rfl,by trivial⟩)
 exact key rfl
theorem Y0 (l:List Age) (hl:l.length≤1073741824) (q:Bool):ai C dG [gy l] (vB q) []↔q=gV l:=vQ (y6 l hl)
theorem QA (n:List (List Key)) (hb:n.length≤1073741824) (hl:tot bZ n≤1073741824):ai C cn [hD n] (vB (n.all eI&&(decide (n.length≤3)&&decide (dj n≤8)))) []:=by
 refine(Zw _ _ ?_).run
 have key: ∀(c:Nat),c+tot bZ (n.drop 0)=dj n→((n.drop 0).all eI&&(decide (n.length≤3)&&decide (dj n≤8)))=(n.all eI&&(decide (n.length≤3)&&decide (dj n≤8)))→aa C cn aj 4 0 (rm c (n.map cW) ((0:Nat):Int)) (fun u st=>ax C cn aj u st fun r fs=>r=(vB (n.all eI&&(decide (n.length≤3)&&decide (dj n≤8))))∧fs=[]):=by
  refine aZ n (fun i=> ∀(c:Nat),c+tot bZ (n.drop i)=dj n→((n.drop i).all eI&&(decide (n.length≤3)&&decide (dj n≤8)))=(n.all eI&&(decide (n.length≤3)&&decide (dj n≤8)))→aa C cn aj 4 0 (rm c (n.map cW) i) (fun u st=>ax C cn aj u st fun r fs=>r=(vB (n.all eI&&(decide (n.length≤3)&&decide (dj n≤8))))∧fs=[])) ?_ ?_
  ·intro c h0 h1
   refine Ig _ _ _ _ (an cY (Ty _ _ _ _ _ _ ?_));rw[ew] at h0 h1;simp only[tot,xJ] at h0;simp only[qT,dz] at h1;rw[←h1];simp only[gl,bY,lX,bJ]
   by_cases h3:n.length≤3
   ·rw[aI ay]
    simp[h3];omega
   ·rw[aF ay]
    simp[h3]
  ·intro i a hi ha hd ht hn c h0 h1
   refine Ig _ _ _ _ (ah eJ ?_);have hz:a.length≤tot bZ n:=oF (w:=bZ) ha;have hh: ∀q,ai C gW [dM a] (vB q) []↔q=JJ a:=fun q=>acE a ay q;rw[hd] at h0 h1;have e5:tot bZ (a::n.drop (i+1))=a.length+tot bZ (n.drop (i+1)):=rfl;rw[e5] at h0;unfold dj at h0;have hO:eI a=false→ax C cn aj TX.ret (vp (n.map cW)) (fun r fs=>r=vB (n.all eI&&(decide (n.length≤3)&&decide (dj n≤8)))∧fs=[]):=fun e=>Tx _ _ (by rw[←h1];simp only[qq,e];exact⟨rfl,by trivial⟩)
   simp only[xY,hh,bE,lX,bJ,aH,ha,aY,dw,dA,bU,fA,g7,eu,fC,dR,fD,fE,g8,cT,natAdd,bY,cG,gL,dz,jV];rw[aG ay,aG ay]
   cases h2:JJ a<;>by_cases h3:a.length=0<;>simp only[lg,lM]
   ·exact hO (by simp[eI,h2])
   ·exact hO (by simp[eI,h2])
   ·rw[aI ay];exact hO (by simp[eI,h3])
   ·rw[aF ay]
    exact hn (c+a.length) (by unfold dj;omega) (by rw[←h1];simp[eI,h2,h3])
 exact key 0 (by simp[dj]) rfl
theorem y7 (n:List (List Key)) (hb:n.length≤1073741824) (hl:tot bZ n≤1073741824):ai C cn [hD n] (vB (iG n)) []:=by
 have:=QA n hb hl;rw[abi];exact this
theorem Y1 (n:List (List Key)) (hb:n.length≤1073741824) (hl:tot bZ n≤1073741824) (q:Bool):ai C cn [.ag [.sub 1 (n.map cW)]] (vB q) []↔q=iG n:=vQ (y7 n hb hl)
theorem y8 (l:List Age) (hl:l.length≤1073741824):ai C dI [gy l] (vB ((dU l.length (gv l)&&decide (l.length≤16)))) []:=by
 refine(ZJ _ _ ?_).run
 have key:((ov 0 (l.length-0)).all (gv l)&&decide (l.length≤16))=(dU l.length (gv l)&&decide (l.length≤16))→aa C dI ak 4 0 (ju (l.map bR) ((0:Nat):Int)) (fun u st=>ax C dI ak u st fun r fs=>r=vB ((dU l.length (gv l)&&decide (l.length≤16)))∧fs=[]):=by
  refine tg (l.length) (fun i=>((ov i (l.length-i)).all (gv l)&&decide (l.length≤16))=(dU l.length (gv l)&&decide (l.length≤16))→aa C dI ak 4 0 (ju (l.map bR) i) (fun u st=>ax C dI ak u st fun r fs=>r=vB ((dU l.length (gv l)&&decide (l.length≤16)))∧fs=[])) ?_ ?_
  ·intro h0
   refine Ip _ _ _ (an cY (T4 _ _ _ _ _ ?_));rw[qU] at h0;simp only[Gv,qT,dz] at h0;rw[←h0];simp[gl];omega
  ·intro i hi hn h0
   rw[nH hi,qq] at h0
   have gO:(gv l) i=false→(dU l.length (gv l)&&decide (l.length≤16))=false:=fun e=>by rw[←h0,e];rfl
   have gN:(gv l) i=true→aa C dI ak 4 0 (ju (l.map bR) ((i:Int)+1)) (fun u st=>ax C dI ak u st fun r fs=>r=vB ((dU l.length (gv l)&&decide (l.length≤16)))∧fs=[]):=fun e=>hn (by rw[←h0,e];rfl);refine Ip _ _ _ (ah eJ ?_);have ha:l[i]?=some l[i]:=cm hi;have hh: ∀q,ai C iQ [gy (l.take i),vI l[i].fr] (vI q) []↔q=fm (l.take i) l[i].fr:=fun q=>Gh (l.take i) l[i].fr eJ q
   have xD:aC (l.map bR) 0 (i:Int)=(l.take i).map bR:=by rw[cK,lY];rfl
   have hin:gh 0 (i:Int) (l.length:Int)=true:=by simp;omega
   simp only[wX,xh,xD,aH,ha,aY,dw,dA,bU,fA,g7,eu,fC,dR,fD,fE,g8,cT,natAdd,bY,cG,gL,dz,jV];simp only[ha,hin,hh,dA,aY,dw,lg,bE,gl,dm,bJ,lX,bY];rw[aG ay]
   cases i with
   |zero=>
    have e:gv l 0=(iC l[0].id 1 60&&(decide (l[0].fr=0)|| !decide (fm (l.take 0) l[0].fr<0))):=by simp[gv,atL,jw,hi]
    rw[e] at gO gN
    have hz: ¬((0:Int)<((0:Nat):Int)):=by omega
    simp only[aF hz]
    cases h1:iC l[0].id 1 60 with
    |false=>simp only[lM];exact rI _ _ _ (by rw[gO (by rw[h1];simp)];exact⟨rfl,by trivial⟩)
    |true=>
     simp only[lg]
     by_cases h2:l[0].fr=0
     ·rw[aI h2];exact gN (by rw[h1,fk h2];simp)
     ·rw[aF h2]
      by_cases h3:fm (l.take 0) l[0].fr<0
      ·rw[aI h3];exact rI _ _ _ (by rw[gO (by rw[fe h2,fk h3];simp)];exact⟨rfl,by trivial⟩)
      ·rw[aF h3];exact gN (by rw[h1,fe h3];simp)
   |succ k=>
    have hk:l[k]?=some l[k]:=cm ay
    have e:gv l (k+1)=(iC l[k+1].id 1 60&&(decide (l[k].id<l[k+1].id)&&(decide (l[k+1].fr=0)|| !decide (fm (l.take (k+1)) l[k+1].fr<0)))):=by simp only[gv,atL,jw,hk,ha]
    rw[e] at gO gN;rw[dh ay,show((k+1:Nat):Int)-1=(k:Int) by omega];simp only[aH,hk,aY,dw];rw[aI ay]
    cases h1:iC l[k+1].id 1 60 with
    |false=>simp only[lM];exact rI _ _ _ (by rw[gO (by rw[h1];simp)];exact⟨rfl,by trivial⟩)
    |true=>
     simp only[lg]
     by_cases h4:l[k].id<l[k+1].id
     ·rw[aF ay]
      by_cases h2:l[k+1].fr=0
      ·rw[aI h2];exact gN (by rw[h1,fk h4,fk h2];simp)
      ·rw[aF h2]
       by_cases h3:fm (l.take (k+1)) l[k+1].fr<0
       ·rw[aI h3];exact rI _ _ _ (by rw[gO (by rw[fe h2,fk h3];simp)];exact⟨rfl,by trivial⟩)
       ·rw[aF h3];exact gN (by rw[h1,fk h4,fe h3];simp)
     ·rw[aI ay];exact rI _ _ _ (by rw[gO (by rw[fe h4];simp)];exact⟨rfl,by trivial⟩)
 exact key rfl
theorem Y2 (l:List Age) (hl:l.length≤1073741824) (q:Bool):ai C dI [gy l] (vB q) []↔q=gV l:=vQ (y8 l hl)
@[simp] theorem LU (b a q:Int):ai C Cj [vI b,vI a] (vI q) []↔q=jX b a:=akp ((ZT _ _ _ ⟨rfl,by trivial⟩).run)
@[simp] theorem LV (b a k c g q:Int):ai C qz [.ag [iI b,iI a,iI k,iI c,iI g]] (vI q) []↔q=jX b a:=akp (by
  refine(aas _ _ _ _ _ _ ?_).run;simp only[LU,dA]
  simp)
@[simp] theorem D3 (b a q:Int):ai C yJ [vI b,vI a] (vI q) []↔q=jX b a:=akp ((Zr _ _ _ ⟨rfl,by trivial⟩).run)
theorem QB (t:Tree) (i:Nat) (n:List (List Key)) (hi:i<t.aE.length) (hl:cH t≤1073741824) (hn:n.length≤1073741824) (hz:tot bZ n≤1073741824):aa C bX av 4 0 (kD i ((0:Nat):Int) (t.aE.map bP) (t.nodes.map aQ) (n.map cW)) (fun u st=>ax C bX av u st fun r fs=>r=vB (n.all (cE t.aE i))∧fs=[]):=by
 have hll:t.aE.length≤1073741824:=by unfold cH at hl;omega
 have hlo:t.aE[i]?=some t.aE[i]:=cm hi
 have key:(n.drop 0).all (cE t.aE i)=n.all (cE t.aE i)→aa C bX av 4 0 (kD i ((0:Nat):Int) (t.aE.map bP) (t.nodes.map aQ) (n.map cW)) (fun u st=>ax C bX av u st fun r fs=>r=vB (n.all (cE t.aE i))∧fs=[]):=by
  refine aZ n (fun k=>(n.drop k).all (cE t.aE i)=n.all (cE t.aE i)→aa C bX av 4 0 (kD i k (t.aE.map bP) (t.nodes.map aQ) (n.map cW)) (fun u st=>ax C bX av u st fun r fs=>r=vB (n.all (cE t.aE i))∧fs=[])) ?_ ?_
  ·intro h0
   refine Ic _ _ _ _ _ _ (an cY (Tt _ _ _ _ _ _ _ ?_));rw[ew] at h0;simp only[qT] at h0;rw[←h0];exact⟨rfl,by trivial⟩
  ·intro k s hk hs hd uH hnext h0
   have hsl:s.length≤tot bZ n:=oF (w:=bZ) hs;rw[hd,qq] at h0;refine Ic _ _ _ _ _ _ (ah eJ ?_)
   have keyI:(s.drop 0).all (jI t.aE i)=s.all (jI t.aE i)→aa C bX iw 3 2 (mI i k ((0:Nat):Int) (t.aE.map bP) (t.nodes.map aQ) (n.map cW)) (fun u st=>qD C bX av 4 0 zm u st (fun u st=>ax C bX av u st fun r fs=>r=vB (n.all (cE t.aE i))∧fs=[])):=by
    refine aZ s (fun j=>(s.drop j).all (jI t.aE i)=s.all (jI t.aE i)→aa C bX iw 3 2 (mI i k j (t.aE.map bP) (t.nodes.map aQ) (n.map cW)) (fun u st=>qD C bX av 4 0 zm u st (fun u st=>ax C bX av u st fun r fs=>r=vB (n.all (cE t.aE i))∧fs=[]))) ?_ ?_
    ·intro h1
     rw[ew] at h1;simp only[qT] at h1;refine Ie _ _ _ _ _ _ _ (⟨_,dg hs,an cY (Tv _ _ _ _ _ _ _ _ ?_)⟩);rw[aG ay];exact hnext (by rw[←h0];unfold cE;rw[←h1];simp)
    ·intro j x hj hx hdj htj hn2 h1
     rw[hdj,qq] at h1
     have gO:jI t.aE i x=false→qD C bX av 4 0 zm TX.ret (vo (t.aE.map bP) (t.nodes.map aQ) (n.map cW)) (fun u st=>ax C bX av u st fun r fs=>r=vB (n.all (cE t.aE i))∧fs=[]):=fun e=>Tu _ _ _ _ (Tw _ _ _ _ (by
      have e2:cE t.aE i s=false:=by unfold cE;rw[←h1,e];rfl
      rw[←h0,e2];exact⟨rfl,by trivial⟩))
     have gN:jI t.aE i x=true→aa C bX iw 3 2 (mI i k ((j:Int)+1) (t.aE.map bP) (t.nodes.map aQ) (n.map cW)) (fun u st=>qD C bX av 4 0 zm u st (fun u st=>ax C bX av u st fun r fs=>r=vB (n.all (cE t.aE i))∧fs=[])):=fun e=>hn2 (by rw[←h1,e];rfl)
     have e:jI t.aE i x=(!decide (jX x.b x.a<t.aE[i])&&(match t.aE[i+1]? with|some hi=>decide (jX x.b x.a<hi)|none=>true)):=by simp only[jI,agf,hlo];rfl
     rw[e] at gO gN;refine Ie _ _ _ _ _ _ _ (⟨_,dg hs,ah eJ ⟨_,dg hs,?_⟩⟩);rw[aG (a:=(i:Int)) ay,aG (a:=(j:Int)) ay];simp only[lN,wW,aH,hx,hlo,aY,dw,LV,dA,dm,gl,bJ,bY,lX]
     by_cases h2:jX x.b x.a<t.aE[i]
     ·rw[aI h2]
      exact gO (by rw[fk h2];rfl)
     ·rw[aF h2]
      by_cases h3:i+1<t.aE.length
      ·have hhi:t.aE[i+1]?=some t.aE[i+1]:=cm h3
       rw[aI ay,show((i:Int)+1)=((i+1:Nat):Int) by omega,aH,hhi];simp only[aY,dw];rw[hhi] at gO gN
       by_cases h4:jX x.b x.a<t.aE[i+1]
       ·rw[aF ay]
        exact gN (by rw[fe h2];simp[h4])
       ·rw[aI ay]
        exact gO (by simp[h4])
      ·rw[aF ay]
       have hno:t.aE[i+1]?=none:=VJ ay;rw[hno] at gN;exact gN (by rw[fe h2];rfl)
   exact keyI rfl
 exact key rfl
theorem MQ (t:Tree) (i:Nat) (n:List (List Key)) (hi:i<t.aE.length) (hl:cH t≤1073741824) (hn:n.length≤1073741824) (hz:tot bZ n≤1073741824):aa C bH ak 4 0 (mz i (n.map cW) (n.length:Int) ((0:Nat):Int) (t.aE.map bP) (t.nodes.map aQ)) (fun u st=>ax C bH ak u st fun r fs=>r=vB (n.all (cE t.aE i))∧fs=[]):=by
 have hll:t.aE.length≤1073741824:=by unfold cH at hl;omega
 have hlo:t.aE[i]?=some t.aE[i]:=cm hi
 have key:(n.drop 0).all (cE t.aE i)=n.all (cE t.aE i)→aa C bH ak 4 0 (mz i (n.map cW) (n.length:Int) ((0:Nat):Int) (t.aE.map bP) (t.nodes.map aQ)) (fun u st=>ax C bH ak u st fun r fs=>r=vB (n.all (cE t.aE i))∧fs=[]):=by
  refine aZ n (fun k=>(n.drop k).all (cE t.aE i)=n.all (cE t.aE i)→aa C bH ak 4 0 (mz i (n.map cW) (n.length:Int) k (t.aE.map bP) (t.nodes.map aQ)) (fun u st=>ax C bH ak u st fun r fs=>r=vB (n.all (cE t.aE i))∧fs=[])) ?_ ?_
  ·intro h0
   refine Dp _ _ _ _ _ _ _ (an cY (O2 _ _ _ _ _ _ _ _ ?_));rw[ew] at h0;simp only[qT] at h0;rw[←h0];exact⟨rfl,by trivial⟩
  ·intro k s hk hs hd uH hnext h0
   have hsl:s.length≤tot bZ n:=oF (w:=bZ) hs;rw[hd,qq] at h0;refine Dp _ _ _ _ _ _ _ (ah eJ ⟨_,dg hs,?_⟩)
   have keyI:(s.drop 0).all (jI t.aE i)=s.all (jI t.aE i)→aa C bH pN 3 2 (kf i (n.map cW) (n.length:Int) k (s.map bQ) ((0:Nat):Int) (t.aE.map bP) (t.nodes.map aQ)) (fun u st=>qD C bH ak 4 0 q9 u st (fun u st=>ax C bH ak u st fun r fs=>r=vB (n.all (cE t.aE i))∧fs=[])):=by
    refine aZ s (fun j=>(s.drop j).all (jI t.aE i)=s.all (jI t.aE i)→aa C bH pN 3 2 (kf i (n.map cW) (n.length:Int) k (s.map bQ) j (t.aE.map bP) (t.nodes.map aQ)) (fun u st=>qD C bH ak 4 0 q9 u st (fun u st=>ax C bH ak u st fun r fs=>r=vB (n.all (cE t.aE i))∧fs=[]))) ?_ ?_
    ·intro h1
     rw[ew] at h1;simp only[qT] at h1;refine Dq _ _ _ _ _ _ _ _ _ (an cY (O4 _ _ _ _ _ _ _ _ _ _ _ ?_));rw[aG ay];exact hnext (by rw[←h0];unfold cE;rw[←h1];simp)
    ·intro j x hj hx hdj htj hn2 h1
     rw[hdj,qq] at h1
     have gO:jI t.aE i x=false→qD C bH ak 4 0 q9 TX.ret (sE (t.aE.map bP) (t.nodes.map aQ) x.b x.a x.k x.c x.g) (fun u st=>ax C bH ak u st fun r fs=>r=vB (n.all (cE t.aE i))∧fs=[]):=fun e=>O3 _ _ _ _ _ _ _ _ (O5 _ _ _ _ _ _ _ _ (by
      have e2:cE t.aE i s=false:=by unfold cE;rw[←h1,e];rfl
      rw[←h0,e2];exact⟨rfl,by trivial⟩))
     have gN:jI t.aE i x=true→aa C bH pN 3 2 (kf i (n.map cW) (n.length:Int) k (s.map bQ) ((j:Int)+1) (t.aE.map bP) (t.nodes.map aQ)) (fun u st=>qD C bH ak 4 0 q9 u st (fun u st=>ax C bH ak u st fun r fs=>r=vB (n.all (cE t.aE i))∧fs=[])):=fun e=>hn2 (by rw[←h1,e];rfl)
     have e:jI t.aE i x=(!decide (jX x.b x.a<t.aE[i])&&(match t.aE[i+1]? with|some hi=>decide (jX x.b x.a<hi)|none=>true)):=by simp only[jI,agf,hlo];rfl
     rw[e] at gO gN;refine Dq _ _ _ _ _ _ _ _ _ (ah eJ ?_);rw[aG (a:=(i:Int)) ay,aG (a:=(j:Int)) ay];simp only[lN,wW,aH,hx,hlo,aY,dw,D3,dA,dm,gl,bJ,bY,lX]
     by_cases h2:jX x.b x.a<t.aE[i]
     ·rw[aI h2]
      exact gO (by rw[fk h2];rfl)
     ·rw[aF h2]
      by_cases h3:i+1<t.aE.length
      ·have hhi:t.aE[i+1]?=some t.aE[i+1]:=cm h3
       rw[aI ay,show((i:Int)+1)=((i+1:Nat):Int) by omega,aH,hhi];simp only[aY,dw];rw[hhi] at gO gN
       by_cases h4:jX x.b x.a<t.aE[i+1]
       ·rw[aF ay]
        exact gN (by rw[fe h2];simp[h4])
       ·rw[aI ay]
        exact gO (by simp[h4])
      ·rw[aF ay]
       have hno:t.aE[i+1]?=none:=VJ ay;rw[hno] at gN;exact gN (by rw[fe h2];rfl)
   exact keyI rfl
 exact key rfl
theorem SW (t:Tree) (i:Nat) (n:List (List Key)) (ha:t.nodes[i]?=some n) (hlo:i<t.aE.length) (hl:cH t≤1073741824):ai C bX [dX t,vI i] (vB (iG n&&((decide (i=0)|| !decide ((aU n).length=0))&&n.all (cE t.aE i)))) []:=by
 have hz:aP n≤tot aP t.nodes:=oF (w:=aP) ha;have e1:aP n=n.length+tot bZ n:=rfl;have e2:cH t=t.aE.length+(t.nodes.length+tot aP t.nodes):=rfl;have hnk:=dx n;refine(Zv _ _ _ _ ⟨_,dg (e:=aQ) ha,_,y5 n ay ay,?_⟩).run
 cases h1:iG n with
 |false=>exact ah rfl ⟨rfl,by trivial⟩
 |true=>
  refine an rfl ?_;have arD:=QB t i n hlo hl ay ay
  have conv: ∀B:Bool,B=n.all (cE t.aE i)→aa C bX av 4 0 (kD i 0 (t.aE.map bP) (t.nodes.map aQ) (n.map cW)) (fun u st=>ax C bX av u st fun r fs=>r=vB B∧fs=[]):=fun B hB=>by subst hB;exact arD
  cases i with
  |zero=>exact an cY (conv _ cY)
  |succ k=>
   refine ah (by first|(simp;done)|(simp;omega)) ⟨_,Cl n ay ay,?_⟩
   by_cases h2:(aU n).length=0
   ·refine ah (by simp[h2]) ?_
    simp[h2]
   ·exact an (by simpa using h2) (conv _ (by simp[h2]))
theorem y9 (t:Tree) (hl:cH t≤1073741824):ai C bh [dX t] (vB (gH t)) []:=by
 have e2:cH t=t.aE.length+(t.nodes.length+tot aP t.nodes):=rfl;refine(ZH _ _ _ ?_).run;simp only[D1,dA,bY,lX,bE,bU];unfold gH
 cases h1:iC (t.nodes.length:Int) 1 20 with
 |false=>exact an rfl ⟨rfl,by trivial⟩
 |true=>
  refine ah rfl ?_
  have hn1:1≤t.nodes.length:=by have:=yy h1;omega
  by_cases h2:t.aE.length=t.nodes.length
  ·refine ah (by simp[h2]) ?_
   have h0:t.aE[0]?=some t.aE[0]:=cm ay
   have VH:fh t.aE 0=some t.aE[0]:=by rw[show(0:Int)=((0:Nat):Int) from rfl,aH];exact h0
   simp only[wW,VH,h0,aY,dw,bJ]
   by_cases h3:t.aE[0]=0
   ·rw[aI (by simpa using h3)]
    have hw:(true&&(decide (t.aE.length=t.nodes.length)&&((decide (t.aE[0]=0))&&(dU t.nodes.length (dY t)&&decide ((aD t).length≤60)))))=(dU t.nodes.length (dY t)&&decide ((aD t).length≤60)):=by simp[h2,h3]
    rw[hw]
    have key:((ov 0 (t.nodes.length-0)).all (dY t)&&decide ((aD t).length≤60))=(dU t.nodes.length (dY t)&&decide ((aD t).length≤60))→aa C bh aj 4 0 (mJ ((0:Nat):Int) (t.aE.map bP) (t.nodes.map aQ)) (fun u st=>ax C bh aj u st fun r fs=>r=vB (dU t.nodes.length (dY t)&&decide ((aD t).length≤60))∧fs=[]):=by
     refine tg t.nodes.length (fun i=>((ov i (t.nodes.length-i)).all (dY t)&&decide ((aD t).length≤60))=(dU t.nodes.length (dY t)&&decide ((aD t).length≤60))→aa C bh aj 4 0 (mJ i (t.aE.map bP) (t.nodes.map aQ)) _) ?_ ?_
     ·intro h0
      rw[qU] at h0;simp only[Gv,qT,dz] at h0;refine Io _ _ _ _ (an cY (T3 _ _ _ _ _ ⟨_,j7 t hl,?_⟩));rw[←h0];simp[gl];omega
     ·intro i hi hn h0
      rw[nH hi,qq] at h0;have ha:t.nodes[i]?=some t.nodes[i]:=cm hi;have hli:t.aE[i]?=some t.aE[i]:=cm ay;have gO:dY t i=false→ax C bh aj TX.ret (ry (t.aE.map bP) (t.nodes.map aQ)) (fun r fs=>r=vB (dU t.nodes.length (dY t)&&decide ((aD t).length≤60))∧fs=[]):=fun e=>T2 _ _ _ (by rw[←h0,e];exact⟨rfl,by trivial⟩);have gN:dY t i=true→aa C bh aj 4 0 (mJ ((i:Int)+1) (t.aE.map bP) (t.nodes.map aQ)) (fun u st=>ax C bh aj u st fun r fs=>r=vB (dU t.nodes.length (dY t)&&decide ((aD t).length≤60))∧fs=[]):=fun e=>hn (by rw[←h0,e];rfl)
      have hh: ∀q,ai C bX [dX t,vI i] (vB q) []↔q=_:=fun q=>vQ (SW t i t.nodes[i] ha ay hl);refine Io _ _ _ _ (ah eJ ?_);rw[aG ay];simp only[hh,dA,dm,gl,bJ,bU]
      cases i with
      |zero=>
       have e:dY t 0=(iG t.nodes[0]&&((decide (0=0)|| !decide ((aU t.nodes[0]).length=0))&&t.nodes[0].all (cE t.aE 0))):=by simp only[dY,jw,ha,dz]
       rw[e] at gO gN;rw[aF ay];exact td gN gO
      |succ k=>
       have hk:t.aE[k]?=some t.aE[k]:=cm ay
       have e:dY t (k+1)=(decide (t.aE[k]<t.aE[k+1])&&(iG t.nodes[k+1]&&((decide (k+1=0)|| !decide ((aU t.nodes[k+1]).length=0))&&t.nodes[k+1].all (cE t.aE (k+1))))):=by simp only[dY,jw,ha,hk,hli]
       rw[e] at gO gN;rw[aI ay,dh ay,show((k+1:Nat):Int)-1=(k:Int) by omega];simp only[wW,aH,hk,hli,aY,dw]
       by_cases h4:t.aE[k]<t.aE[k+1]
       ·rw[aF ay]
        rw[fk h4,dz] at gO gN;exact td gN gO
       ·rw[aI ay]
        exact gO (by rw[fe h4];rfl)
    exact key rfl
   ·rw[aF (by simpa using h3)]
    simp[h3]
  ·refine an eJ ?_
   simp[h2]
theorem Ol (t:Tree) (i:Nat) (n:List (List Key)) (ha:t.nodes[i]?=some n) (hlo:i<t.aE.length) (hl:cH t≤1073741824):ai C bH [dX t,vI i] (vB (n.all (cE t.aE i))) []:=by
 have hz:aP n≤tot aP t.nodes:=oF (w:=aP) ha;have e1:aP n=n.length+tot bZ n:=rfl;have e2:cH t=t.aE.length+(t.nodes.length+tot aP t.nodes):=rfl;refine(Ue _ _ _ _ ⟨_,dg (e:=aQ) ha,?_⟩).run;simp only[bY,lX];exact MQ t i n hlo hl ay ay
theorem zc (t:Tree) (hl:cH t≤1073741824):ai C cR [dX t] (vB (gH t)) []:=by
 have e2:cH t=t.aE.length+(t.nodes.length+tot aP t.nodes):=rfl;refine(Zo _ _ _ ?_).run;simp only[xh,dA,bY,lX,bE,bU];unfold gH
 cases h1:iC (t.nodes.length:Int) 1 20 with
 |false=>exact an rfl ⟨rfl,by trivial⟩
 |true=>
  refine ah rfl ?_
  have hn1:1≤t.nodes.length:=by have:=yy h1;omega
  by_cases h2:t.aE.length=t.nodes.length
  ·refine ah (by simp[h2]) ?_
   have h0:t.aE[0]?=some t.aE[0]:=cm ay
   have VH:fh t.aE 0=some t.aE[0]:=by rw[show(0:Int)=((0:Nat):Int) from rfl,aH];exact h0
   simp only[wW,VH,h0,aY,dw,bJ]
   by_cases h3:t.aE[0]=0
   ·rw[aI (by simpa using h3)]
    have hw:(true&&(decide (t.aE.length=t.nodes.length)&&((decide (t.aE[0]=0))&&(dU t.nodes.length (dY t)&&decide ((aD t).length≤60)))))=(dU t.nodes.length (dY t)&&decide ((aD t).length≤60)):=by simp[h2,h3]
    rw[hw]
    have key: ∀c:Nat,c+((t.nodes.drop 0).flatMap aU).length=(aD t).length→((ov 0 (t.nodes.length-0)).all (dY t)&&decide ((aD t).length≤60))=(dU t.nodes.length (dY t)&&decide ((aD t).length≤60))→aa C cR av 4 0 (jt c (t.nodes.map aQ) ((0:Nat):Int) (t.aE.map bP)) (fun u st=>ax C cR av u st fun r fs=>r=vB (dU t.nodes.length (dY t)&&decide ((aD t).length≤60))∧fs=[]):=by
     refine tg t.nodes.length (fun i=> ∀c:Nat,c+((t.nodes.drop i).flatMap aU).length=(aD t).length→((ov i (t.nodes.length-i)).all (dY t)&&decide ((aD t).length≤60))=(dU t.nodes.length (dY t)&&decide ((aD t).length≤60))→aa C cR av 4 0 (jt c (t.nodes.map aQ) i (t.aE.map bP)) _) ?_ ?_
     ·intro c hc h0
      rw[qU] at h0;simp only[Gv,qT,dz] at h0;rw[ew] at hc;simp at hc;refine Ib _ _ _ _ _ (an cY (Ts _ _ _ _ _ _ _ ?_));rw[←h0];simp[gl];omega
     ·intro i hi hn c hc h0
      rw[nH hi,qq] at h0;have ha:t.nodes[i]?=some t.nodes[i]:=cm hi;have hli:t.aE[i]?=some t.aE[i]:=cm ay;rw[Gu hi,List.flatMap_cons,cG] at hc;have hz:aP t.nodes[i]≤tot aP t.nodes:=oF (w:=aP) ha;have e1:aP t.nodes[i]=t.nodes[i].length+tot bZ t.nodes[i]:=rfl;have hnk:=dx t.nodes[i];have uH:=fj t;have gO1:dY t i=false→ax C cR av TX.ret (mH (t.aE.map bP) (t.nodes.map aQ) (t.nodes[i].map cW)) (fun r fs=>r=vB (dU t.nodes.length (dY t)&&decide ((aD t).length≤60))∧fs=[]):=fun e=>Tq _ _ _ _ (by rw[←h0,e];exact⟨rfl,by trivial⟩)
      have gO2:dY t i=false→ax C cR av TX.ret (vn (t.aE.map bP) (t.nodes.map aQ) (t.nodes[i].map cW) ((aU t.nodes[i]).map bQ)) (fun r fs=>r=vB (dU t.nodes.length (dY t)&&decide ((aD t).length≤60))∧fs=[]):=fun e=>Tr _ _ _ _ _ (by rw[←h0,e];exact⟨rfl,by trivial⟩);have gN:dY t i=true→aa C cR av 4 0 (jt ((c:Int)+((aU t.nodes[i]).length:Int)) (t.nodes.map aQ) ((i:Int)+1) (t.aE.map bP)) (fun u st=>ax C cR av u st fun r fs=>r=vB (dU t.nodes.length (dY t)&&decide ((aD t).length≤60))∧fs=[]):=fun e=>hn (c+(aU t.nodes[i]).length) ay (by rw[←h0,e];rfl)
      have hb: ∀q,ai C bH [dX t,vI i] (vB q) []↔q=_:=fun q=>vQ (Ol t i t.nodes[i] ha ay hl);have hk: ∀q,ai C dn [hD t.nodes[i]] (.c (.sub 5 q)) []↔q=(aU t.nodes[i]).map bQ:=fun q=>kC t.nodes[i] ay ay q;have ho: ∀q,ai C cn [hD t.nodes[i]] (vB q) []↔q=iG t.nodes[i]:=fun q=>Y1 t.nodes[i] ay ay q;refine Ib _ _ _ _ _ (ah eJ ?_);simp only[tT,aH,ha,aY,dw,hb,hk,ho,dA,dm,gl,bE,bJ,bU,bY,lX];rw[aG (a:=(c:Int)) ay,aG (a:=(i:Int)) ay]
      cases i with
      |zero=>
       have e:dY t 0=(iG t.nodes[0]&&((decide (0=0)|| !decide ((aU t.nodes[0]).length=0))&&t.nodes[0].all (cE t.aE 0))):=by simp only[dY,jw,ha,dz]
       rw[e] at gO1 gN
       have Nr: ¬((0:Int)<((0:Nat):Int)):=by omega
       simp only[aF Nr]
       cases h4:iG t.nodes[0] with
       |false=>exact an rfl (gO1 (by rw[h4];rfl))
       |true=>
        refine ah rfl ?_
        cases h5:t.nodes[0].all (cE t.aE 0) with
        |false=>exact an rfl (gO1 (by rw[h4,h5];simp))
        |true=>exact ah rfl (gN (by rw[h4,h5];simp))
      |succ k=>
       have KX:t.aE[k]?=some t.aE[k]:=cm ay
       have e:dY t (k+1)=(decide (t.aE[k]<t.aE[k+1])&&(iG t.nodes[k+1]&&((decide (k+1=0)|| !decide ((aU t.nodes[k+1]).length=0))&&t.nodes[k+1].all (cE t.aE (k+1))))):=by simp only[dY,jw,ha,KX,hli]
       rw[e] at gO1 gO2 gN
       have Nr:(0:Int)<((k+1:Nat):Int):=by omega
       simp only[aI Nr];rw[dh ay,show((k+1:Nat):Int)-1=(k:Int) by omega];simp only[wW,aH,KX,hli,aY,dw]
       by_cases h6:t.aE[k]<t.aE[k+1]
       ·rw[aF ay]
        cases h4:iG t.nodes[k+1] with
        |false=>exact an rfl (gO1 (by rw[h4];simp))
        |true=>
         refine ah rfl ?_
         cases h5:t.nodes[k+1].all (cE t.aE (k+1)) with
         |false=>exact an rfl (gO1 (by rw[h4,h5];simp))
         |true=>
          refine ah rfl ?_
          by_cases h7:(aU t.nodes[k+1]).length=0
          ·rw[aI ay];exact gO2 (by rw[h4,h5];simp[h7])
          ·rw[aF ay];exact gN (by rw[h4,h5,fk h6];simp[h7])
       ·rw[aI ay]
        exact gO1 (by rw[fe h6];rfl)
    exact key 0 (by simp[aD]) rfl
   ·rw[aF (by simpa using h3)]
    simp[h3]
  ·refine an eJ ?_
   simp[h2]
theorem QC (p:Pool) (hS:aJ p≤4194304):ai C bW [c6 p] (vB (jU p)) []:=by
 have hP:=cD hS
 have hname: ∀v∈p.au,v.name.size≤140737488355328:=fun v hv=>by have:=oE (w:=qd) hv;have e:qd v=v.name.size:=rfl;omega
 refine(Xp _ _ _ _ _ _ _ ?_).run;unfold jU
 have key:((ov 0 (p.au.length-0)).all (cL p)&&decide (p.au.length≤6))=(dU p.au.length (cL p)&&decide (p.au.length≤6))→aa C bW ak 4 0 (nq ((0:Nat):Int) (p.t.aE.map bP) (p.t.nodes.map aQ) (p.aL.map bR) (p.cells.map bM) (p.au.map cj) p.next) (fun u st=>ax C bW ak u st fun r fs=>r=vB (dU p.au.length (cL p)&&decide (p.au.length≤6))∧fs=[]):=by
  refine tg p.au.length (fun i=>((ov i (p.au.length-i)).all (cL p)&&decide (p.au.length≤6))=(dU p.au.length (cL p)&&decide (p.au.length≤6))→aa C bW ak 4 0 (nq i (p.t.aE.map bP) (p.t.nodes.map aQ) (p.aL.map bR) (p.cells.map bM) (p.au.map cj) p.next) (fun u st=>ax C bW ak u st fun r fs=>r=vB (dU p.au.length (cL p)&&decide (p.au.length≤6))∧fs=[])) ?_ ?_
  ·intro h0
   rw[qU] at h0;simp only[Gv,qT,dz] at h0;refine Fa _ _ _ _ _ _ _ _ (an cY (Ra _ _ _ _ _ _ _ _ _ ?_));rw[←h0];simp[gl];omega
  ·intro i hi hn h0
   rw[nH hi,qq] at h0;have ha:p.au[i]?=some p.au[i]:=cm hi;have hv:=hname p.au[i] (Ec hi);have hkl:=Wz p.aL p.au[i].cV;have gO1:cL p i=false→ax C bW ak TX.ret (nr (p.t.aE.map bP) (p.t.nodes.map aQ) (p.aL.map bR) (p.cells.map bM) (p.au.map cj) p.next p.au[i].name p.au[i].cV p.au[i].size p.au[i].fx) (fun r fs=>r=vB (dU p.au.length (cL p)&&decide (p.au.length≤6))∧fs=[]):=fun e=>Q8 _ _ _ _ _ _ _ _ _ _ _ (by rw[←h0,e];exact⟨rfl,by trivial⟩)
   have gO2:cL p i=false→ax C bW ak TX.ret (uc (p.t.aE.map bP) (p.t.nodes.map aQ) (p.aL.map bR) (p.cells.map bM) (p.au.map cj) p.next p.au[i].name p.au[i].cV p.au[i].size p.au[i].fx ((eB p.aL p.au[i].cV).map bP)) (fun r fs=>r=vB (dU p.au.length (cL p)&&decide (p.au.length≤6))∧fs=[]):=fun e=>Q9 _ _ _ _ _ _ _ _ _ _ _ _ (by rw[←h0,e];exact⟨rfl,by trivial⟩);have gN:cL p i=true→aa C bW ak 4 0 (nq ((i:Int)+1) (p.t.aE.map bP) (p.t.nodes.map aQ) (p.aL.map bR) (p.cells.map bM) (p.au.map cj) p.next) (fun u st=>ax C bW ak u st fun r fs=>r=vB (dU p.au.length (cL p)&&decide (p.au.length≤6))∧fs=[]):=fun e=>hn (by rw[←h0,e];rfl)
   have hin: ∀b:Bool,((p.au.take i).any fun u=>decide (u.cV=p.au[i].cV))=b→(b=true→cL p i=false)→(b=false→cL p i=true)→aa C bW pM 3 2 (kR i 0 (p.t.aE.map bP) (p.t.nodes.map aQ) (p.aL.map bR) (p.cells.map bM) (p.au.map cj) p.next p.au[i].name p.au[i].cV p.au[i].size p.au[i].fx) (fun u st=>qD C bW ak 4 0 AZ u st (fun u st=>ax C bW ak u st fun r fs=>r=vB (dU p.au.length (cL p)&&decide (p.au.length≤6))∧fs=[])):=by
    intro b hb hbt hbf
    have keyI:(((p.au.take i).drop 0).any fun u=>decide (u.cV=p.au[i].cV))=b→aa C bW pM 3 2 (kR i ((0:Nat):Int) (p.t.aE.map bP) (p.t.nodes.map aQ) (p.aL.map bR) (p.cells.map bM) (p.au.map cj) p.next p.au[i].name p.au[i].cV p.au[i].size p.au[i].fx) (fun u st=>qD C bW ak 4 0 AZ u st (fun u st=>ax C bW ak u st fun r fs=>r=vB (dU p.au.length (cL p)&&decide (p.au.length≤6))∧fs=[])):=by
     have hle:(p.au.take i).length=i:=by simp;omega
     refine aZ (p.au.take i) (fun k=>(((p.au.take i).drop k).any fun u=>decide (u.cV=p.au[i].cV))=b→aa C bW pM 3 2 (kR i k (p.t.aE.map bP) (p.t.nodes.map aQ) (p.aL.map bR) (p.cells.map bM) (p.au.map cj) p.next p.au[i].name p.au[i].cV p.au[i].size p.au[i].fx) (fun u st=>qD C bW ak 4 0 AZ u st (fun u st=>ax C bW ak u st fun r fs=>r=vB (dU p.au.length (cL p)&&decide (p.au.length≤6))∧fs=[]))) ?_ ?_
     ·intro h1
      rw[ew] at h1;simp only[List.any_nil] at h1;refine Fb _ _ _ _ _ _ _ _ _ _ _ _ _ (an eJ (Rc _ _ _ _ _ _ _ _ _ _ _ _ _ ?_));rw[aG ay];exact gN (hbf h1.symm)
     ·intro k u hk hu hd uH hn2 h1
      have hu':p.au[k]?=some u:=by rw[←hu,BJ];simp;omega
      rw[hd,List.any_cons] at h1;refine Fb _ _ _ _ _ _ _ _ _ _ _ _ _ (ah eJ ?_);rw[aG ay];simp only[yX,aH,hu',aY,dw,bE,bJ]
      by_cases h2:u.cV=p.au[i].cV
      ·rw[aI h2]
       rw[fk h2,Bool.true_or] at h1;exact Rb _ _ _ _ _ _ _ _ _ _ _ (gO1 (hbt h1.symm))
      ·rw[aF h2]
       rw[fe h2,Ji] at h1;exact hn2 h1
    exact keyI hb
   have agQ: ∀z,ai C ef [gy p.aL,vI p.au[i].cV] (vI z) []↔z=fm p.aL p.au[i].cV:=fun z=>Gg p.aL p.au[i].cV ay z;have apY: ∀z,ai C gD [gy p.aL,vI p.au[i].cV] (.c (.sub 1 z)) []↔z=(eB p.aL p.au[i].cV).map bP:=fun z=>aem (yZ p.aL p.au[i].cV ay);refine Fa _ _ _ _ _ _ _ _ (ah eJ ?_);simp only[yX,aH,ha,aY,dw,uZ p.au[i].name hv,D1,agQ,apY,dA,bU,dm,bJ,bY,lX]
   cases h1:jT p.au[i].name with
   |false=>exact an rfl (gO1 (by simp[cL,ha,h1]))
   |true=>
    refine ah rfl ?_
    cases h2:iC p.au[i].size 1 12 with
    |false=>exact an rfl (gO1 (by simp[cL,ha,h2]))
    |true=>
     refine ah rfl ?_
     by_cases h3:fm p.aL p.au[i].cV<0
     ·rw[aI h3];exact gO1 (by simp[cL,ha,h3])
     ·rw[aF h3]
      by_cases h4:(eB p.aL p.au[i].cV).length=0
      ·rw[aF ay]
       cases i with
       |zero=>
        rw[aF ay];exact hin _ rfl (fun e=>by simp at e) (fun e=>by simp[cL,ha,h1,h2,h3,h4,jw])
       |succ k=>
        have hk:p.au[k]?=some p.au[k]:=cm ay;rw[aI ay,dh ay,show((k+1:Nat):Int)-1=(k:Int) by omega];simp only[aH,hk,aY,dw]
        cases h5:SE p.au[k].name p.au[k+1].name with
        |false=>exact an rfl (gO2 (by simp[cL,ha,hk,jw,h5]))
        |true=>exact ah rfl (hin _ rfl (fun e=>by simp only[cL,ha,e];simp) (fun e=>by simp only[cL,ha,hk,jw,h5,h1,h2,e];simp[h3,h4]))
      ·rw[aI ay];exact gO2 (by simp[cL,ha,h4])
 exact key rfl
theorem SX (p:Pool) (hS:aJ p≤4194304):ai C fK [c6 p] (vB (jU p)) []:=by
 have hP:=cD hS
 have hname: ∀v∈p.au,v.name.size≤140737488355328:=fun v hv=>by have:=oE (w:=qd) hv;have e:qd v=v.name.size:=rfl;omega
 refine(aar _ _ _ _ _ _ _ ?_).run;unfold jU
 have key:((ov 0 (p.au.length-0)).all (cL p)&&decide (p.au.length≤6))=(dU p.au.length (cL p)&&decide (p.au.length≤6))→aa C fK ak 4 0 (mP (p.au.map cj) ((0:Nat):Int) (p.t.aE.map bP) (p.t.nodes.map aQ) (p.aL.map bR) (p.cells.map bM) p.next) (fun u st=>ax C fK ak u st fun r fs=>r=vB (dU p.au.length (cL p)&&decide (p.au.length≤6))∧fs=[]):=by
  refine tg p.au.length (fun i=>((ov i (p.au.length-i)).all (cL p)&&decide (p.au.length≤6))=(dU p.au.length (cL p)&&decide (p.au.length≤6))→aa C fK ak 4 0 (mP (p.au.map cj) i (p.t.aE.map bP) (p.t.nodes.map aQ) (p.aL.map bR) (p.cells.map bM) p.next) (fun u st=>ax C fK ak u st fun r fs=>r=vB (dU p.au.length (cL p)&&decide (p.au.length≤6))∧fs=[])) ?_ ?_
  ·intro h0
   rw[qU] at h0;simp only[Gv,qT,dz] at h0;refine IX _ _ _ _ _ _ _ _ (an cY (U6 _ _ _ _ _ _ _ _ _ _ ?_));rw[←h0];simp[gl];omega
  ·intro i hi hn h0
   rw[nH hi,qq] at h0;have ha:p.au[i]?=some p.au[i]:=cm hi;have hv:=hname p.au[i] (Ec hi);have hkl:=Wz p.aL p.au[i].cV;have gO1:cL p i=false→ax C fK ak TX.ret (kH (p.t.aE.map bP) (p.t.nodes.map aQ) (p.aL.map bR) (p.cells.map bM) (p.au.map cj) p.next p.au[i].name p.au[i].cV p.au[i].size p.au[i].fx) (fun r fs=>r=vB (dU p.au.length (cL p)&&decide (p.au.length≤6))∧fs=[]):=fun e=>U4 _ _ _ _ _ _ _ _ _ _ _ (by rw[←h0,e];exact⟨rfl,by trivial⟩)
   have gO2:cL p i=false→ax C fK ak TX.ret (om (p.t.aE.map bP) (p.t.nodes.map aQ) (p.aL.map bR) (p.cells.map bM) (p.au.map cj) p.next p.au[i].name p.au[i].cV p.au[i].size p.au[i].fx ((eB p.aL p.au[i].cV).map bP)) (fun r fs=>r=vB (dU p.au.length (cL p)&&decide (p.au.length≤6))∧fs=[]):=fun e=>U5 _ _ _ _ _ _ _ _ _ _ _ _ (by rw[←h0,e];exact⟨rfl,by trivial⟩);have gN:cL p i=true→aa C fK ak 4 0 (mP (p.au.map cj) ((i:Int)+1) (p.t.aE.map bP) (p.t.nodes.map aQ) (p.aL.map bR) (p.cells.map bM) p.next) (fun u st=>ax C fK ak u st fun r fs=>r=vB (dU p.au.length (cL p)&&decide (p.au.length≤6))∧fs=[]):=fun e=>hn (by rw[←h0,e];rfl)
   have agQ: ∀z,ai C iQ [gy p.aL,vI p.au[i].cV] (vI z) []↔z=fm p.aL p.au[i].cV:=fun z=>Gh p.aL p.au[i].cV ay z;have apY: ∀z,ai C ga [gy p.aL,vI p.au[i].cV] (.c (.sub 1 z)) []↔z=(eB p.aL p.au[i].cV).map bP:=fun z=>aem (vj p.aL p.au[i].cV ay)
   have xD:aC (p.au.map cj) 0 (i:Int)=(p.au.take i).map cj:=by rw[cK,lY];rfl
   have hcin:gh 0 (i:Int) (p.au.length:Int)=true:=by simp;omega
   have as9: ∀z,ai C fq [qW (p.au.take i),.fn rP [[iS p.au[i].name,iI p.au[i].cV,iI p.au[i].size,iB p.au[i].fx]]] (vB z) []↔z=(p.au.take i).any fun u=>decide (u.cV=p.au[i].cV):=fun z=>vQ (Jc (p.au.take i) _ _ _ _ eJ);refine IX _ _ _ _ _ _ _ _ (ah eJ ?_);simp only[xD,yX,aH,ha,aY,dw,nc p.au[i].name hv,xh,agQ,apY,as9,dA,bU,dm,bJ,bY,lX];rw[aG ay]
   cases h1:jT p.au[i].name with
   |false=>exact an rfl (gO1 (by simp[cL,ha,h1]))
   |true=>
    refine ah rfl ?_
    cases i with
    |zero=>
     rw[aF ay]
     cases h2:iC p.au[0].size 1 12 with
     |false=>exact an rfl (gO1 (by simp[cL,ha,h2]))
     |true=>
      refine ah rfl ?_
      by_cases h3:fm p.aL p.au[0].cV<0
      ·rw[aI h3];exact gO1 (by simp[cL,ha,h3])
      ·rw[aF h3]
       by_cases h4:(eB p.aL p.au[0].cV).length=0
       ·rw[aF ay]
        refine ah hcin ?_
        cases h6:(p.au.take (0)).any fun u=>decide (u.cV=p.au[0].cV) with
        |true=>exact ah rfl (gO2 (by simp only[cL,ha,h6];simp))
        |false=>exact an rfl (gN (by simp only[cL,ha,h6,h1,h2,jw];simp[h3,h4]))
       ·rw[aI ay];exact gO2 (by simp[cL,ha,h4])
    |succ k=>
     have hk:p.au[k]?=some p.au[k]:=cm ay;rw[aI ay,dh ay,show((k+1:Nat):Int)-1=(k:Int) by omega];simp only[aH,hk,aY,dw]
     cases h5:SE p.au[k].name p.au[k+1].name with
     |false=>exact an rfl (gO1 (by simp[cL,ha,hk,jw,h5]))
     |true=>
      refine ah rfl ?_
      cases h2:iC p.au[k+1].size 1 12 with
      |false=>exact an rfl (gO1 (by simp[cL,ha,h2]))
      |true=>
       refine ah rfl ?_
       by_cases h3:fm p.aL p.au[k+1].cV<0
       ·rw[aI h3];exact gO1 (by simp[cL,ha,h3])
       ·rw[aF h3]
        by_cases h4:(eB p.aL p.au[k+1].cV).length=0
        ·rw[aF ay]
         refine ah hcin ?_
         cases h6:(p.au.take (k+1)).any fun u=>decide (u.cV=p.au[k+1].cV) with
         |true=>exact ah rfl (gO2 (by simp only[cL,ha,h6];simp))
         |false=>exact an rfl (gN (by simp only[cL,ha,h6,h1,h2,jw,hk,h5];simp[h3,h4]))
        ·rw[aI ay];exact gO2 (by simp[cL,ha,h4])
 exact key rfl
theorem akZ:sQ 24=24:=by unfold sQ;rfl
theorem g24 {n:Nat} (h:n≤1000):(true&&cq 24 24&&ng 0 24&&fits (sQ 24) n)=true:=by rw[akZ,cP ay];simp
theorem apq:(tV []).map Sm=List.replicate 24 [iB false]:=by rw[aep];rfl
theorem QD (p:Pool) (hS:aJ p≤4194304):ai C ck [c6 p] (vB (gZ p)) []:=by
 have hP:=cD hS;have htl:=fj p.t;refine(XJ _ _ _ _ _ _ _ ?_).run;refine⟨_,j7 p.t ay,?_⟩;unfold gZ;generalize aD p.t=L at*;have hdk:cU L≤L.length:=aaJ _ _
 have key: ∀c:Nat,c+cU (L.drop 0)=cU L→((ov 0 (L.length-0)).all (dD p L)&&decide ((cv p.cells:Int)=cU L))=(dU L.length (dD p L)&&decide ((cv p.cells:Int)=cU L))→aa C ck av 4 0 (kV (c:Int) ((0:Nat):Int) (p.t.aE.map bP) (p.t.nodes.map aQ) (p.aL.map bR) (p.cells.map bM) (p.au.map cj) p.next (L.map bQ)) (fun u st=>ax C ck av u st fun r fs=>r=vB (dU L.length (dD p L)&&decide ((cv p.cells:Int)=cU L))∧fs=[]):=by
  refine tg L.length (fun i=> ∀c:Nat,c+cU (L.drop i)=cU L→((ov i (L.length-i)).all (dD p L)&&decide ((cv p.cells:Int)=cU L))=(dU L.length (dD p L)&&decide ((cv p.cells:Int)=cU L))→aa C ck av 4 0 (kV (c:Int) i (p.t.aE.map bP) (p.t.nodes.map aQ) (p.aL.map bR) (p.cells.map bM) (p.au.map cj) p.next (L.map bQ)) (fun u st=>ax C ck av u st fun r fs=>r=vB (dU L.length (dD p L)&&decide ((cv p.cells:Int)=cU L))∧fs=[])) ?_ ?_
  ·intro c hc h0
   rw[qU] at h0;simp only[Gv,qT,dz] at h0;rw[ew] at hc
   have hc0:c=cU L:=by simpa [cU] using hc
   subst hc0;refine Fj _ _ _ _ _ _ _ _ _ _ (an cY (Ru _ _ _ _ _ _ _ _ _ _ _ ⟨_,MM p.cells ay,?_⟩));rw[←h0];refine⟨?_,by trivial⟩;simp[bE,eq_comm]
  ·intro i hi hn c hc h0
   rw[nH hi,qq] at h0;have ha:L[i]?=some L[i]:=cm hi;rw[Gu hi,LK] at hc;have gO1:dD p L i=false→ax C ck av TX.ret (ql (p.t.aE.map bP) (p.t.nodes.map aQ) (p.aL.map bR) (p.cells.map bM) (p.au.map cj) p.next (L.map bQ)) (fun r fs=>r=vB (dU L.length (dD p L)&&decide ((cv p.cells:Int)=cU L))∧fs=[]):=fun e=>Rt _ _ _ _ _ _ _ _ (by rw[←h0,e];exact⟨rfl,by trivial⟩);have gN: ∀c':Nat,c'+cU (L.drop (i+1))=cU L→dD p L i=true→aa C ck av 4 0 (kV (c':Int) ((i:Int)+1) (p.t.aE.map bP) (p.t.nodes.map aQ) (p.aL.map bR) (p.cells.map bM) (p.au.map cj) p.next (L.map bQ)) (fun u st=>ax C ck av u st fun r fs=>r=vB (dU L.length (dD p L)&&decide ((cv p.cells:Int)=cU L))∧fs=[]):=fun c' e' e=>hn c' e' (by rw[←h0,e];rfl)
   have hin: ∀b:Bool,((L.take i).any fun x=>decide (x.k=1)&&decide (x.c=L[i].c))=b→(b=true→dD p L i=false)→(b=false→dD p L i=true)→L[i].k=1→aa C ck jB 3 2 (kW c i 0 (p.t.aE.map bP) (p.t.nodes.map aQ) (p.aL.map bR) (p.cells.map bM) (p.au.map cj) p.next (L.map bQ)) (fun u st=>qD C ck av 4 0 wJ u st (fun u st=>ax C ck av u st fun r fs=>r=vB (dU L.length (dD p L)&&decide ((cv p.cells:Int)=cU L))∧fs=[])):=by
    intro b hb hbt hbf KX;rw[aI KX] at hc
    have keyI:(((L.take i).drop 0).any fun x=>decide (x.k=1)&&decide (x.c=L[i].c))=b→aa C ck jB 3 2 (kW c i ((0:Nat):Int) (p.t.aE.map bP) (p.t.nodes.map aQ) (p.aL.map bR) (p.cells.map bM) (p.au.map cj) p.next (L.map bQ)) (fun u st=>qD C ck av 4 0 wJ u st (fun u st=>ax C ck av u st fun r fs=>r=vB (dU L.length (dD p L)&&decide ((cv p.cells:Int)=cU L))∧fs=[])):=by
     have hle:(L.take i).length=i:=by simp;omega
     refine aZ (L.take i) (fun k=>(((L.take i).drop k).any fun x=>decide (x.k=1)&&decide (x.c=L[i].c))=b→aa C ck jB 3 2 (kW c i k (p.t.aE.map bP) (p.t.nodes.map aQ) (p.aL.map bR) (p.cells.map bM) (p.au.map cj) p.next (L.map bQ)) (fun u st=>qD C ck av 4 0 wJ u st (fun u st=>ax C ck av u st fun r fs=>r=vB (dU L.length (dD p L)&&decide ((cv p.cells:Int)=cU L))∧fs=[]))) ?_ ?_
     ·intro h1
      rw[ew] at h1;simp only[List.any_nil] at h1;refine Fk _ _ _ _ _ _ _ _ _ _ _ (an eJ (Rw _ _ _ _ _ _ _ _ _ _ _ ?_));rw[aG ay,aG ay];exact gN (c+1) ay (hbf h1.symm)
     ·intro k u hk hu hd uH hn2 h1
      have hu':L[k]?=some u:=by rw[←hu,BJ];simp;omega
      rw[hd,List.any_cons] at h1;refine Fk _ _ _ _ _ _ _ _ _ _ _ (ah eJ ?_);rw[aG ay];simp only[lN,aH,hu',ha,aY,dw,bE,bJ]
      by_cases h3:u.k=1
      ·rw[aI h3]
       by_cases h2:u.c=L[i].c
       ·rw[aI h2]
        rw[fk h3,fk h2,Bool.and_self,Bool.true_or] at h1;exact Rv _ _ _ _ _ _ _ _ (gO1 (hbt h1.symm))
       ·rw[aF h2]
        rw[fe h2,Bool.and_false,Ji] at h1;exact hn2 h1
      ·rw[aF h3]
       rw[fe h3,Bool.false_and,Ji] at h1;exact hn2 h1
    exact keyI hb
   have agQ: ∀z,ai C ef [gy p.aL,vI L[i].a] (vI z) []↔z=fm p.aL L[i].a:=fun z=>Gg p.aL L[i].a ay z;have hcell: ∀n b,ai C yK [jx p.cells,vI L[i].c,vI L[i].g] (.tu [(0,[iI n]),(0,[iB b])]) []↔n=(cellAt p.cells L[i].c L[i].g).1∧b=(cellAt p.cells L[i].c L[i].g).2:=fun n b=>YS p.cells ay _ _ n b;refine Fj _ _ _ _ _ _ _ _ _ _ (ah eJ ?_);simp only[lN,aH,ha,aY,dw,agQ,hcell,and_assoc,exists_and_left,dA,dm,bE,bU,bJ]
   rw[aG (a:=(i:Int)) ay]
   by_cases h1:fm p.aL L[i].a<0
   ·rw[aI h1];exact gO1 (by simp[dD,ha,h1])
   ·rw[aF h1]
    by_cases h2:L[i].k=1
    ·rw[aI h2]
     cases h3:(cellAt p.cells L[i].c L[i].g).2 with
     |false=>exact an rfl (gO1 (by simp[dD,ha,h2,h3]))
     |true=>
      refine ah rfl ?_;exact hin _ rfl (fun e=>by simp only[dD,ha,e,h2];simp) (fun e=>by simp only[dD,ha,e,h2,h3];simp[h1]) h2
    ·rw[aF h2]
     rw[aF h2] at hc;exact gN c ay (by simp[dD,ha,h1,h2])
 exact key 0 cY rfl
theorem QE (p:Pool) (hS:aJ p≤4194304) (h24:p.cells.length=24):ai C fM [c6 p] (vB (gZ p)) []:=by
 have hP:=cD hS;have htl:=fj p.t;refine(Xq _ _ _ _ _ _ _ ?_).run;refine ah (g24 ay) ⟨_,j8 p.t ay,?_⟩;unfold gZ;generalize aD p.t=L at*;have hdk:cU L≤L.length:=aaJ _ _
 have key: ∀c:Nat,c+cU (L.drop 0)=cU L→((ov 0 (L.length-0)).all (dD p L)&&decide ((cv p.cells:Int)=cU L))=(dU L.length (dD p L)&&decide ((cv p.cells:Int)=cU L))→aa C fM av 4 0 (kU (c:Int) (L.map bQ) ((0:Nat):Int) (p.t.aE.map bP) (p.t.nodes.map aQ) (p.aL.map bR) (p.cells.map bM) (p.au.map cj) p.next ((tV (L.take 0)).map Sm)) (fun u st=>ax C fM av u st fun r fs=>r=vB (dU L.length (dD p L)&&decide ((cv p.cells:Int)=cU L))∧fs=[]):=by
  refine tg L.length (fun i=> ∀c:Nat,c+cU (L.drop i)=cU L→((ov i (L.length-i)).all (dD p L)&&decide ((cv p.cells:Int)=cU L))=(dU L.length (dD p L)&&decide ((cv p.cells:Int)=cU L))→aa C fM av 4 0 (kU (c:Int) (L.map bQ) i (p.t.aE.map bP) (p.t.nodes.map aQ) (p.aL.map bR) (p.cells.map bM) (p.au.map cj) p.next ((tV (L.take i)).map Sm)) (fun u st=>ax C fM av u st fun r fs=>r=vB (dU L.length (dD p L)&&decide ((cv p.cells:Int)=cU L))∧fs=[])) ?_ ?_
  ·intro c hc h0
   rw[qU] at h0;simp only[Gv,qT,dz] at h0;rw[ew] at hc
   have hc0:c=cU L:=by simpa [cU] using hc
   subst hc0;refine Fc _ _ _ _ _ _ _ _ _ _ _ (an cY (Rh _ _ _ _ _ _ _ _ _ _ _ _ _ ⟨_,MN p.cells ay,?_⟩));rw[←h0];refine⟨?_,by trivial⟩;simp[bE,eq_comm]
  ·intro i hi hn c hc h0
   rw[nH hi,qq] at h0;have ha:L[i]?=some L[i]:=cm hi;rw[Gu hi,LK] at hc;have gO1: ∀u,dD p L i=false→ax C fM av TX.ret (qh (p.t.aE.map bP) (p.t.nodes.map aQ) (p.aL.map bR) (p.cells.map bM) (p.au.map cj) p.next L[i].b L[i].a L[i].k L[i].c L[i].g u (L.map bQ)) (fun r fs=>r=vB (dU L.length (dD p L)&&decide ((cv p.cells:Int)=cU L))∧fs=[]):=fun u e=>Rf _ _ _ _ _ _ _ _ _ _ _ _ _ _ (by rw[←h0,e];exact⟨rfl,by trivial⟩)
   have ht1:L.take (i+1)=L.take i++[L[i]]:=by rw[List.take_add_one,ha];rfl
   have gN: ∀c':Nat,c'+cU (L.drop (i+1))=cU L→dD p L i=true→aa C fM av 4 0 (kU (c':Int) (L.map bQ) ((i:Int)+1) (p.t.aE.map bP) (p.t.nodes.map aQ) (p.aL.map bR) (p.cells.map bM) (p.au.map cj) p.next ((tV (L.take (i+1))).map Sm)) (fun u st=>ax C fM av u st fun r fs=>r=vB (dU L.length (dD p L)&&decide ((cv p.cells:Int)=cU L))∧fs=[]):=fun c' e' e=>hn c' e' (by rw[←h0,e];rfl);have agQ: ∀z,ai C iQ [gy p.aL,vI L[i].a] (vI z) []↔z=fm p.aL L[i].a:=fun z=>Gh p.aL L[i].a ay z
   have hcell: ∀n b,ai C yL [jx p.cells,vI L[i].c,vI L[i].g] (.tu [(0,[iI n]),(0,[iB b])]) []↔n=(cellAt p.cells L[i].c L[i].g).1∧b=(cellAt p.cells L[i].c L[i].g).2:=fun n b=>YT p.cells ay _ _ n b;refine Fc _ _ _ _ _ _ _ _ _ _ _ (ah eJ ?_);simp only[lN,aH,ha,aY,dw,agQ,hcell,and_assoc,exists_and_left,dA,dm,bE,bU,bJ];rw[aG (a:=(i:Int)) ay]
   by_cases h1:fm p.aL L[i].a<0
   ·rw[aI h1];exact gO1 _ (by simp[dD,ha,h1])
   ·rw[aF h1]
    by_cases h2:L[i].k=1
    ·rw[aI h2]
     cases h3:(cellAt p.cells L[i].c L[i].g).2 with
     |false=>exact an rfl (gO1 _ (by simp[dD,ha,h2,h3]))
     |true=>
      refine ah rfl ?_;have hci:=aif h3;rw[h24] at hci;simp only[amy,aeq (L.take i) hci,aY,dw,dA,amB]
      cases h4:(L.take i).any fun x=>decide (x.k=1)&&decide (x.c=L[i].c) with
      |true=>exact ah rfl (gO1 _ (by simp only[dD,ha,h4,h2];simp))
      |false=>
       refine an rfl ?_;rw[aer (L.take i) L[i] h2 hci,←ht1,aG (a:=(c:Int)) ay];rw[aI h2] at hc;exact gN (c+1) ay (by simp only[dD,ha,h4,h2,h3];simp[h1])
    ·rw[aF h2]
     rw[aF h2] at hc;have hg:=gN c ay (by simp[dD,ha,h1,h2]);rw[ht1,acj _ _ h2] at hg;exact hg
 rw[akZ,←apq];exact key 0 cY rfl
def m8 (n:Int) (a:Age):Bool:=decide (a.id<n)
theorem aiw (p:Pool):c7 p=(p.aL.all (m8 p.next)&&(gH p.t&&(gV p.aL&&(eK p.cells&&(iC p.next 1 61&&(jU p&&gZ p)))))):=rfl
theorem anf {l:List Cell} (h:eK l=true):l.length=24:=by simp[eK] at h;omega
theorem QF (p:Pool) (hS:aJ p≤4194304):ai C cC [c6 p] (vB ((p.aL.all (m8 p.next)&&(gH p.t&&(gV p.aL&&(eK p.cells&&(iC p.next 1 61&&(jU p&&gZ p)))))))) []:=by
 refine(aaj _ _ _ _ _ _ _ ?_).run;have hP:=cD hS;have htl:=fj p.t
 have key:((p.aL.drop 0).all (m8 p.next)&&(gH p.t&&(gV p.aL&&(eK p.cells&&(iC p.next 1 61&&(jU p&&gZ p))))))=(p.aL.all (m8 p.next)&&(gH p.t&&(gV p.aL&&(eK p.cells&&(iC p.next 1 61&&(jU p&&gZ p))))))→aa C cC ak 4 0 (oh ((0:Nat):Int) (p.t.aE.map bP) (p.t.nodes.map aQ) (p.aL.map bR) (p.cells.map bM) (p.au.map cj) p.next) (fun u st=>ax C cC ak u st fun r fs=>r=vB ((p.aL.all (m8 p.next)&&(gH p.t&&(gV p.aL&&(eK p.cells&&(iC p.next 1 61&&(jU p&&gZ p)))))))∧fs=[]):=by
  refine aZ p.aL (fun i=>((p.aL.drop i).all (m8 p.next)&&(gH p.t&&(gV p.aL&&(eK p.cells&&(iC p.next 1 61&&(jU p&&gZ p))))))=(p.aL.all (m8 p.next)&&(gH p.t&&(gV p.aL&&(eK p.cells&&(iC p.next 1 61&&(jU p&&gZ p))))))→aa C cC ak 4 0 (oh i (p.t.aE.map bP) (p.t.nodes.map aQ) (p.aL.map bR) (p.cells.map bM) (p.au.map cj) p.next) (fun u st=>ax C cC ak u st fun r fs=>r=vB ((p.aL.all (m8 p.next)&&(gH p.t&&(gV p.aL&&(eK p.cells&&(iC p.next 1 61&&(jU p&&gZ p)))))))∧fs=[])) ?_ ?_
  ·intro h0
   refine IQ _ _ _ _ _ _ _ _ (an cY (US _ _ _ _ _ _ _ _ _ ?_));rw[ew] at h0;simp only[qT,dz] at h0;rw[←h0];refine⟨_,y9 p.t ay,?_⟩
   cases h1:gH p.t with
   |false=>exact an rfl ⟨rfl,by trivial⟩
   |true=>
    refine ah rfl ⟨_,(Y0 p.aL ay (gV p.aL)).2 rfl,?_⟩
    cases h2:gV p.aL with
    |false=>exact an rfl ⟨rfl,by trivial⟩
    |true=>
     refine ah rfl ⟨_,(AQ p.cells ay (eK p.cells)).2 rfl,?_⟩
     cases h3:eK p.cells with
     |false=>exact an rfl ⟨rfl,by trivial⟩
     |true=>
      refine ah rfl ⟨_,tE p.next 1 61,?_⟩
      cases h4:iC p.next 1 61 with
      |false=>exact an rfl ⟨rfl,by trivial⟩
      |true=>
       refine ah rfl ⟨_,QC p hS,?_⟩
       cases h5:jU p with
       |false=>exact an rfl ⟨rfl,by trivial⟩
       |true=>exact ah rfl ⟨_,QD p hS,⟨rfl,by trivial⟩⟩
  ·intro i a hi ha hd uH hn h0
   have gO:(m8 p.next) a=false→(p.aL.all (m8 p.next)&&(gH p.t&&(gV p.aL&&(eK p.cells&&(iC p.next 1 61&&(jU p&&gZ p))))))=false:=fun e=>by rw[←h0,hd];simp[e]
   have gN:(m8 p.next) a=true→aa C cC ak 4 0 (oh ((i:Int)+1) (p.t.aE.map bP) (p.t.nodes.map aQ) (p.aL.map bR) (p.cells.map bM) (p.au.map cj) p.next) (fun u st=>ax C cC ak u st fun r fs=>r=vB ((p.aL.all (m8 p.next)&&(gH p.t&&(gV p.aL&&(eK p.cells&&(iC p.next 1 61&&(jU p&&gZ p)))))))∧fs=[]):=fun e=>hn (by rw[←h0,hd];simp[e]);refine IQ _ _ _ _ _ _ _ _ (ah eJ ?_);simp only[wX,aH,ha,aY,dw,gl,bJ];rw[aG ay]
   by_cases h1:p.next≤a.id
   ·rw[aI h1];exact UR _ _ _ _ _ _ _ (by rw[gO (by simp[m8];omega)];exact⟨rfl,by trivial⟩)
   ·rw[aF h1];exact gN (by simp[m8];omega)
 exact key rfl
theorem gM (p:Pool) (hS:aJ p≤4194304):ai C cC [c6 p] (vB (c7 p)) []:=QF p hS
theorem e9 (p:Pool) (hS:aJ p≤4194304):ai C dZ [c6 p] (vB (c7 p)) []:=by
 have hP:=cD hS;rw[aiw];refine(ZD _ _ _ _ _ _ _ ?_).run;refine⟨_,zc p.t ay,?_⟩
 cases h1:gH p.t with
 |false=>exact ah rfl ⟨by simp,by trivial⟩
 |true=>
  refine an rfl ⟨_,(Y2 p.aL ay (gV p.aL)).2 rfl,?_⟩
  cases h2:gV p.aL with
  |false=>exact ah rfl ⟨by simp,by trivial⟩
  |true=>
   refine an rfl ⟨_,(AR p.cells ay (eK p.cells)).2 rfl,?_⟩
   cases h3:eK p.cells with
   |false=>exact ah rfl ⟨by simp,by trivial⟩
   |true=>
    refine an rfl ⟨_,nL p.next 1 61,?_⟩
    cases h4:iC p.next 1 61 with
    |false=>exact ah rfl ⟨by simp,by trivial⟩
    |true=>
     refine an rfl ?_;simp only[dz]
     have key:((p.aL.drop 0).all (m8 p.next)&&(jU p&&gZ p))=(p.aL.all (m8 p.next)&&(jU p&&gZ p))→aa C dZ aj 4 0 (ru (p.aL.map bR) ((0:Nat):Int) (p.t.aE.map bP) (p.t.nodes.map aQ) (p.cells.map bM) (p.au.map cj) p.next) (fun u st=>ax C dZ aj u st fun r fs=>r=vB (p.aL.all (m8 p.next)&&(jU p&&gZ p))∧fs=[]):=by
      refine aZ p.aL (fun i=>((p.aL.drop i).all (m8 p.next)&&(jU p&&gZ p))=(p.aL.all (m8 p.next)&&(jU p&&gZ p))→aa C dZ aj 4 0 (ru (p.aL.map bR) i (p.t.aE.map bP) (p.t.nodes.map aQ) (p.cells.map bM) (p.au.map cj) p.next) (fun u st=>ax C dZ aj u st fun r fs=>r=vB (p.aL.all (m8 p.next)&&(jU p&&gZ p))∧fs=[])) ?_ ?_
      ·intro h0
       rw[ew] at h0;simp only[qT,dz] at h0;refine Ik _ _ _ _ _ _ _ _ (an cY (TQ _ _ _ _ _ _ _ _ _ _ ⟨_,SX p hS,?_⟩));rw[←h0]
       cases h5:jU p with
       |false=>exact an rfl ⟨rfl,by trivial⟩
       |true=>exact ah rfl ⟨_,QE p hS (anf h3),⟨rfl,by trivial⟩⟩
      ·intro i a hi ha hd uH hn h0
       rw[hd,qq] at h0;refine Ik _ _ _ _ _ _ _ _ (ah eJ ?_);simp only[wX,aH,ha,aY,dw,gl,bJ];rw[aG ay]
       by_cases h5:p.next≤a.id
       ·rw[aI h5]
        have e:m8 p.next a=false:=by simp[m8];omega
        exact TP _ _ _ _ _ _ _ _ _ (by rw[←h0,e];exact⟨rfl,by trivial⟩)
       ·rw[aF h5]
        have e:m8 p.next a=true:=by simp[m8];omega
        exact hn (by rw[←h0,e];rfl)
     exact key rfl
theorem zd (l:List Cell) (hl:l.length≤1073741824):ai C lR [jx l] (jx l) []:=by
 refine(Zm _ _ ?_).run;rw[show bS (l.map bM)=true from by simp[Mn],cP eJ];exact⟨rfl,by trivial⟩
theorem vZ (l:List Cell) (hl:l.length≤1073741824):ai C nK [jx l] (jx l) []:=by
 refine(RV _ _ ?_).run;rw[show bS (l.map bM)=true from by simp[Mn],cP eJ];exact⟨rfl,by trivial⟩
theorem Cm (l:List Cell) (i:Int) (hl:l.length≤1073741824):ai C yp [jx l,vI i] (jx (jY l i)) []:=by
 refine(TR _ _ _ ⟨_,zd l hl,_,(AQ l hl (eK l)).2 rfl,?_⟩).run
 cases h1:eK l with
 |false=>exact an rfl ⟨by rw[N8 h1],by trivial⟩
 |true=>
  refine ah rfl ⟨_,tE _ _ _,?_⟩;rw[bY,show cO (Int.ofNat l.length) 1=(l.length:Int)-1 from dh eJ]
  by_cases h2:0≤i∧i<l.length
  ·obtain⟨c,hc⟩:=mm h2.1 h2.2
   refine ah (by simp[iC];omega) ?_;simp only[pX,hc,aY,dw]
   cases h3:c.u with
   |false=>exact an rfl ⟨by rw[So hc h3],by trivial⟩
   |true=>
    refine ah rfl (an cY ?_);simp only[pX,hc,aY,dw,ach];exact⟨by rw[N9 hc h1 h3],by trivial⟩
  ·exact an (by simp[iC];omega) ⟨by rw[LL (gE h2)],by trivial⟩
theorem Cn (l:List Cell) (i:Int) (hl:l.length≤1073741824):ai C yq [jx l,vI i] (jx (jY l i)) []:=by
 refine(UU _ _ _ ⟨_,vZ l hl,_,(AR l hl (eK l)).2 rfl,?_⟩).run
 cases h1:eK l with
 |false=>exact ah rfl ⟨by rw[N8 h1],by trivial⟩
 |true=>
  have h24:l.length=24:=by simp[eK] at h1;omega
  refine an rfl ⟨_,nL _ _ _,?_⟩
  by_cases h2:0≤i∧i<l.length
  ·obtain⟨c,hc⟩:=mm h2.1 h2.2
   refine an (by simp[iC];omega) ?_;simp only[pX,hc,aY,dw]
   cases h3:c.u with
   |false=>exact ah rfl ⟨by rw[So hc h3],by trivial⟩
   |true=>
    refine an rfl (an cY ?_);simp only[pX,hc,aY,dw,ach];exact⟨by rw[N9 hc h1 h3],by trivial⟩
  ·exact ah (by simp[iC];omega) ⟨by rw[LL (gE h2)],by trivial⟩
theorem GI (l:List Cell) (hl:l.length≤1073741824):ai C iW [jx l] (vI (ff l)) []:=by
 refine(Z5 _ _ ?_).run
 have key:eT AH (l.drop 0) ((0:Nat):Int)=ff l→aa C iW ak 4 0 (rD (l.map bM) ((0:Nat):Int)) (fun u st=>ax C iW ak u st fun r fs=>r=vI (ff l)∧fs=[]):=by
  refine aZ l (fun i=>eT AH (l.drop i) (i:Int)=ff l→aa C iW ak 4 0 (rD (l.map bM) i) (fun u st=>ax C iW ak u st fun r fs=>r=vI (ff l)∧fs=[])) ?_ ?_
  ·intro h0
   rw[ew] at h0;simp only[eT] at h0;exact ID _ _ _ (an cY (Ut _ _ _ _ _ (by rw[←h0];exact⟨rfl,by trivial⟩)))
  ·intro i a hi ha hd uH hn h0
   rw[hd] at h0;simp only[eT] at h0;refine ID _ _ _ (ah eJ ?_);simp only[pX,aH,ha,aY,dw];rw[aG ay]
   cases h1:a.u with
   |false=>rw[aI (by simp[AH,h1])] at h0;exact ah rfl (Us _ _ _ _ _ (by rw[←h0];exact⟨rfl,by trivial⟩))
   |true=>rw[aF (by simp[AH,h1])] at h0;exact an rfl (hn h0)
 exact key rfl
theorem Co (l:List Cell) (n:Int) (hl:l.length≤1073741824):ai C rO [jx l,vI n] (amE (jJ l n)) []:=by
 refine(Tp _ _ _ ⟨_,vZ l hl,_,GI l hl,?_⟩).run
 by_cases h0:ff l<0
 ·exact ah (by simp[h0]) ⟨by rw[qy (fun h=>by omega)],by trivial⟩
 ·refine an eJ ⟨_,(yw n (iD n)).2 rfl,?_⟩
  cases h1:iD n with
  |false=>exact ah rfl ⟨by rw[qy (fun h=>by rw[h1] at h;cases h.2.1)],by trivial⟩
  |true=>
   refine an rfl ⟨_,(AR l hl (eK l)).2 rfl,?_⟩
   cases h2:eK l with
   |false=>exact ah rfl ⟨by rw[qy (fun h=>by rw[h2] at h;cases h.1)],by trivial⟩
   |true=>
    obtain⟨c,hc,hf⟩:=w4 AH l h0;change fh l (ff l)=some c at hc;refine an rfl ?_;simp only[pX,P2,P3,hc,qc,jH,aY,dw,mod_mod];exact⟨by rw[w5 ⟨h2,h1,by omega⟩],by trivial⟩
theorem Cp (l:List Cell) (n:Int) (hl:l.length≤1073741824):ai C eU [jx l,vI n] (amE (jJ l n)) []:=by
 refine(UT _ _ _ ⟨_,zd l hl,?_⟩).run
 have key:eT AH (l.drop 0) ((0:Nat):Int)=ff l→aa C eU aj 4 0 (pH (l.map bM) n ((0:Nat):Int) (l.map bM)) (fun u st=>ax C eU aj u st fun r fs=>r=amE (jJ l n)∧fs=[]):=by
  refine aZ l (fun i=>eT AH (l.drop i) (i:Int)=ff l→aa C eU aj 4 0 (pH (l.map bM) n i (l.map bM)) (fun u st=>ax C eU aj u st fun r fs=>r=amE (jJ l n)∧fs=[])) ?_ ?_
  ·intro h0
   rw[ew] at h0;simp only[eT] at h0;exact DA _ _ _ _ _ (an cY (DB _ _ _ _ _ ⟨by rw[qy (fun h=>by omega)],by trivial⟩))
  ·intro i a hi ha hd uH hn h0
   rw[hd] at h0;simp only[eT] at h0;refine DA _ _ _ _ _ (ah eJ ⟨_,(AQ l hl (eK l)).2 rfl,?_⟩)
   cases h2:eK l with
   |false=>exact an rfl (DB _ _ _ _ _ ⟨by rw[qy (fun h=>by rw[h2] at h;cases h.1)],by trivial⟩)
   |true=>
    refine ah rfl ⟨_,(yu n (iD n)).2 rfl,?_⟩
    cases h1:iD n with
    |false=>exact an rfl (Pp _ _ _ _ _ _ ⟨by rw[qy (fun h=>by rw[h1] at h;cases h.2.1)],by trivial⟩)
    |true=>
     refine ah rfl ?_
     have hc:fh l (i:Int)=some a:=by rw[aH];exact ha
     simp only[pX,hc,aY,dw];rw[aG ay]
     cases h3:a.u with
     |false=>
      rw[aI (by simp[AH,h3])] at h0;refine ah rfl ?_;simp only[pX,P2,P3,hc,qc,jH,aY,dw,mod_mod];refine Po _ _ _ ⟨?_,by trivial⟩;rw[w5 ⟨h2,h1,by omega⟩,←h0]
     |true=>rw[aF (by simp[AH,h3])] at h0;exact an rfl (hn h0)
 exact key rfl
theorem QG (o:AF):ai C qJ [.ag (DP o)] (vB (P6 o)) []:=by
 refine(Xo _ _ _ _ _ _ ?_).run;simp only[D1,dA,gl,bE,FV,bJ,bU];unfold P6
 (repeat' split)<;>simp_all<;>omega
theorem W3 (k:Int) (s t:ByteArray) (a b:Int) (q:Bool):ai C qJ [.ag [iI k,iS s,iS t,iI a,iI b]] (vB q) []↔q=P6 ⟨k,s,t,a,b⟩:=vQ (QG ⟨k,s,t,a,b⟩)
theorem Y3 (o:AF) (h1:o.name.size≤140737488355328) (h2:o.to.size≤140737488355328):ai C Qi [.ag (DP o)] (vB (WA o)) []:=by
 obtain⟨k,s,t,a,b⟩:=o;refine(afg _ _ _ _ _ _ ?_).run;simp only[D1,uZ s h1,uZ t h2,yu,W3,dA,gl,bE,FV,bJ,bU];unfold WA opName aoU;simp only[];generalize P6 ⟨k,s,t,a,b⟩=z;generalize jT s=x;generalize jT t=y;generalize iD a=u;generalize iD b=v;generalize iC k 1 9=w
 by_cases p1:7≤k<;>by_cases p2:k=2<;>by_cases p3:s=wV<;>by_cases p4:t=wV<;>first
  |omega
  |(simp only[p1,p2,p3,p4,if_true,if_false,decide_true,decide_false,reduceIte]
    cases w<;>(try simp only[lg,lM,dz,Bool.false_and])<;>cases x<;>cases y<;>cases u<;>cases v<;>(try simp only[lg,lM,jV,Bool.and_false,dz,Bool.false_and])<;>(first|exact⟨rfl,by trivial⟩|simp))
theorem Y4 (o:AF) (h1:o.name.size≤140737488355328) (h2:o.to.size≤140737488355328):ai C Ql [.ag (DP o)] (vB (WA o)) []:=by
 obtain⟨k,s,t,a,b⟩:=o;refine(ae6 _ _ _ _ _ _ ?_).run;simp only[xh,nc s h1,nc t h2,yw,dA,gl,bE,FV,bJ,bU];unfold WA opName aoU P6;simp only[]
 cases hv:iD b with
 |false=>cases iC k 1 9<;>cases iD a<;>simp only[lg,lM]<;>exact⟨by simp,by trivial⟩
 |true=>
  have hb:0≤b:=by simp[iD,iC] at hv;omega
  have hb1:iC b 0 1=decide (b≤1):=by by_cases h:b≤1<;>simp[iC,h,hb]
  rw[hb1];generalize jT s=x;generalize jT t=y;generalize iD a=u;generalize hw:iC k 1 9=w;generalize decide (b≤1)=z1;generalize decide (b=0)=z0
  cases w with
  |false=>simp only[lg,lM];exact⟨by simp,by trivial⟩
  |true=>
  cases u with
  |false=>simp only[lg,lM];exact⟨by simp,by trivial⟩
  |true=>
  simp only[lg,lM,dz];clear hw hv hb1 hb h1 h2
  by_cases p1:k≤6<;>by_cases p0:7≤k<;>by_cases p2:k=2<;>by_cases p3:k=3<;>by_cases p4:k=4<;>by_cases p7:k=7<;>first
   |omega
   |(simp only[p0,p1,p2,p3,p4,p7,if_true,if_false,reduceIte,or_true,true_or,or_false,false_or]
     by_cases q:a=0<;>by_cases q3:s=wV<;>by_cases q4:t=wV<;>(try simp only[q,q3,q4,if_true,if_false,reduceIte,decide_true,decide_false])<;>cases x<;>cases y<;>(try simp only[lg,lM,jV,Bool.and_false,dz,Bool.false_and])<;>(first|exact⟨rfl,by trivial⟩|simp))
theorem Cq (l:List Int) (hl:l.length≤1073741824):ai C yt [oD l] (oD l) []:=by
 refine(Vd _ _ ?_).run;rw[show bS (l.map bP)=true from nW _,cP eJ];exact⟨rfl,by trivial⟩
theorem Ke (l:List Key) (b a:Int) (hl:l.length≤1073741824):ai C jy [dM l,vI b,vI a] (Yq (Ex l b a)) []:=by
 refine(ac2 _ _ _ _ ?_).run
 have key:setAt (l.drop 0) b a=setAt l b a→aa C jy ak 4 0 (qm (l.map bQ) b a ((0:Nat):Int)) (fun u st=>ax C jy ak u st fun r fs=>r=(Yq (Ex l b a))∧fs=[]):=by
  refine aZ l (fun i=>setAt (l.drop i) b a=setAt l b a→aa C jy ak 4 0 (qm (l.map bQ) b a i) (fun u st=>ax C jy ak u st fun r fs=>r=(Yq (Ex l b a))∧fs=[])) ?_ ?_
  ·intro h0
   rw[ew] at h0;refine KN _ _ _ _ _ (an cY (X5 _ _ _ _ _ _ ⟨?_,by trivial⟩));unfold Ex;rw[←h0];rfl
  ·intro i x hi hx hd uH hn h0
   rw[hd] at h0;simp only[setAt,List.find?_cons] at h0;refine KN _ _ _ _ _ (ah eJ ?_);simp only[lN,aH,hx,aY,dw,bE,bJ];rw[aG ay]
   by_cases h1:x.b=b
   ·rw[aI h1]
    by_cases h2:x.a=a
    ·rw[aI h2]
     rw[fk ⟨h1,h2⟩] at h0;refine X4 _ _ _ _ _ _ ⟨?_,by trivial⟩;unfold Ex setAt;rw[←h0]
    ·rw[aF h2]
     rw[fe (fun h=>h2 h.2)] at h0;exact hn h0
   ·rw[aF h1]
    rw[fe (fun h=>h1 h.1)] at h0;exact hn h0
 exact key rfl
theorem SY (n:List (List Key)) (b a:Int) (hl:n.length≤1073741824) (hs: ∀s∈n,s.length≤1073741824):ai C ko [hD n,vI b,vI a] (Yq (qY n b a n.length)) []:=by
 refine(ZV _ _ _ _ ?_).run
 have key: ∀k:Nat,k≤n.length→qY n b a k=qY n b a n.length→aa C ko ak 4 0 (rC b a ((k:Int)-1) (n.map cW)) (fun u st=>ax C ko ak u st fun r fs=>r=(Yq (qY n b a n.length))∧fs=[]):=by
  intro k
  induction k with
  |zero=>
   intro _ hk;refine Ix _ _ _ _ _ (an cY (Ug _ _ _ _ _ _ ⟨?_,by trivial⟩));rw[←hk];rfl
  |succ k ih=>
   intro hle hk;have hx:n[k]?=some n[k]:=cm ay;rw[show((k+1:Nat):Int)-1=(k:Int) by omega];have hss:=hs n[k] (Ec ay);generalize n[k]=s at hx hss;simp only[qY,hx] at hk;refine Ix _ _ _ _ _ (ah cY ?_);simp only[xY,aH,hx,aY,dw];rw[dh ay];refine⟨_,_,_,_,_,_,Ke s b a hss,?_⟩
   cases h2:(Ex s b a).2 with
   |false=>
    rw[h2] at hk;exact an rfl (an rfl (ih ay (by simpa using hk)))
   |true=>
    rw[h2] at hk;simp only[if_true] at hk;refine ah rfl ?_
    by_cases h3:(Ex s b a).1.k=0
    ·refine ah (by simp[h3]) (Iy _ _ _ _ _ _ _ _ _ _ _ _ _ ⟨?_,by trivial⟩)
     rw[aI h3] at hk;rw[←hk];rfl
    ·refine an (by simp[h3]) (ah rfl (Iy _ _ _ _ _ _ _ _ _ _ _ _ _ ⟨?_,by trivial⟩))
     rw[aF h3] at hk;rw[←hk,←h2]
 rw[bY,show cO (Int.ofNat n.length) 1=(n.length:Int)-1 from dh eJ];exact key n.length (cX _) rfl
theorem EB (t:Tree) (b a:Int) (hl:t.aE.length≤1073741824):ai C gJ [dX t,vI b,vI a] (vI (pZ t b a)) []:=by
 refine(XK _ _ _ _ _ ?_).run;unfold pZ
 have key:aa C gJ aj 4 0 (nu b a (w6 (fun x=>decide (x≤jX b a)) t.aE 0) ((0:Nat):Int) (t.aE.map bP) (t.nodes.map aQ)) (fun u st=>ax C gJ aj u st fun r fs=>r=(vI (w6 (fun x=>decide (x≤jX b a)) t.aE t.aE.length))∧fs=[]):=by
  refine aZ t.aE (fun i=>aa C gJ aj 4 0 (nu b a (w6 (fun x=>decide (x≤jX b a)) t.aE i) i (t.aE.map bP) (t.nodes.map aQ)) (fun u st=>ax C gJ aj u st fun r fs=>r=(vI (w6 (fun x=>decide (x≤jX b a)) t.aE t.aE.length))∧fs=[])) ?_ ?_
  ·exact Fl _ _ _ _ _ _ _ (an cY (Rx _ _ _ _ _ _ _ _ ⟨rfl,by trivial⟩))
  ·intro i x hi hx hd uH hn
   simp only[w6,hx] at hn;refine Fl _ _ _ _ _ _ _ (ah eJ ?_);simp only[wW,aH,hx,aY,dw,LU,dA,gl,bJ];rw[aG ay]
   by_cases h1:x≤jX b a
   ·rw[aI h1]
    rw[aI (fk h1)] at hn;exact hn
   ·rw[aF h1]
    rw[aF (by simpa using h1)] at hn;exact hn
 exact key
theorem ze (t:Tree) (b a:Int) (hl:cH t≤1073741824):ai C wE [dX t,vI b,vI a] (Yq (w7 t b a)) []:=by
 have e2:cH t=t.aE.length+(t.nodes.length+tot aP t.nodes):=rfl;refine(aat _ _ _ _ _ ⟨_,EB t b a ay,_,tE _ _ _,?_⟩).run;unfold w7;rw[bY,show cO (Int.ofNat t.nodes.length) 1=(t.nodes.length:Int)-1 from dh eJ]
 by_cases h1:0≤pZ t b a∧pZ t b a<t.nodes.length
 ·obtain⟨n,hn⟩:=mm h1.1 h1.2
  have hz:aP n≤tot aP t.nodes:=oE (w:=aP) (Ew hn);have e1:aP n=n.length+tot bZ n:=rfl;refine an (by simp[iC];omega) ?_;simp only[tT,hn,aY,dw];refine⟨_,_,_,_,_,_,SY n b a ay (fun s hs=> ?_),⟨rfl,by trivial⟩⟩;have h3:bZ s≤tot bZ n:=oE (w:=bZ) hs;have h4:bZ s=s.length:=rfl;omega
 ·rw[gE h1]
  exact ah (by simp[iC];omega) ⟨rfl,by trivial⟩
theorem Kf (l:List Key) (b a:Int) (hl:l.length≤1073741824):ai C iR [dM l,vI b,vI a] (Yq (Ex l b a)) []:=by
 refine(ac3 _ _ _ _ ?_).run
 have key:setAt (l.drop 0) b a=setAt l b a→aa C iR ak 4 0 (qn b a (l.map bQ) ((0:Nat):Int)) (fun u st=>ax C iR ak u st fun r fs=>r=(Yq (Ex l b a))∧fs=[]):=by
  refine aZ l (fun i=>setAt (l.drop i) b a=setAt l b a→aa C iR ak 4 0 (qn b a (l.map bQ) i) (fun u st=>ax C iR ak u st fun r fs=>r=(Yq (Ex l b a))∧fs=[])) ?_ ?_
  ·intro h0
   rw[ew] at h0;refine KO _ _ _ _ _ (an cY (X7 _ _ _ _ _ _ _ ⟨?_,by trivial⟩));unfold Ex;rw[←h0];rfl
  ·intro i x hi hx hd uH hn h0
   rw[hd] at h0;simp only[setAt,List.find?_cons] at h0;refine KO _ _ _ _ _ (ah eJ ?_);simp only[lN,aH,hx,aY,dw,bE,bJ];rw[aG ay]
   by_cases h1:x.b=b
   ·rw[aI h1]
    by_cases h2:x.a=a
    ·rw[aI h2]
     rw[fk ⟨h1,h2⟩] at h0;refine X6 _ _ _ _ _ _ ⟨?_,by trivial⟩;unfold Ex setAt;rw[←h0]
    ·rw[aF h2]
     rw[fe (fun h=>h2 h.2)] at h0;exact hn h0
   ·rw[aF h1]
    rw[fe (fun h=>h1 h.1)] at h0;exact hn h0
 exact key rfl
theorem SZ (n:List (List Key)) (b a:Int) (hl:n.length≤1073741824) (hs: ∀s∈n,s.length≤1073741824):ai C kr [hD n,vI b,vI a] (Yq (qY n b a n.length)) []:=by
 refine(aab _ _ _ _ ?_).run
 have key: ∀k:Nat,k≤n.length→qY n b a k=qY n b a n.length→aa C kr ak 4 0 (vz b a ((k:Int)-1) (n.map cW)) (fun u st=>ax C kr ak u st fun r fs=>r=(Yq (qY n b a n.length))∧fs=[]):=by
  intro k
  induction k with
  |zero=>
   intro _ hk;refine IK _ _ _ _ _ (an cY (UH _ _ _ _ _ _ ⟨?_,by trivial⟩));rw[←hk];rfl
  |succ k ih=>
   intro hle hk;have hx:n[k]?=some n[k]:=cm ay;rw[show((k+1:Nat):Int)-1=(k:Int) by omega];have hss:=hs n[k] (Ec ay);generalize n[k]=s at hx hss;simp only[qY,hx] at hk;refine IK _ _ _ _ _ (ah cY ?_);simp only[xY,aH,hx,aY,dw];rw[dh ay];refine⟨_,_,_,_,_,_,Kf s b a hss,?_⟩
   cases h2:(Ex s b a).2 with
   |false=>
    rw[h2] at hk;exact ah rfl (ih ay (by simpa using hk))
   |true=>
    rw[h2] at hk;simp only[if_true] at hk;refine an rfl ?_
    by_cases h3:(Ex s b a).1.k=0
    ·refine ah (by simp[h3]) (UF _ _ _ _ _ _ _ _ ⟨?_,by trivial⟩)
     rw[aI h3] at hk;rw[←hk];rfl
    ·refine an (by simp[h3]) (UG _ _ _ _ _ _ _ ⟨?_,by trivial⟩)
     rw[aF h3] at hk;rw[←hk,←h2]
 rw[bY,show cO (Int.ofNat n.length) 1=(n.length:Int)-1 from dh eJ];exact key n.length (cX _) rfl
theorem EC (t:Tree) (b a:Int) (hl:t.aE.length≤1073741824):ai C iK [dX t,vI b,vI a] (vI (pZ t b a)) []:=by
 refine(Xt _ _ _ _ _ ?_).run
 have key: ∀k:Nat,k≤t.aE.length→w6 (fun x=>decide (x≤jX b a)) t.aE k=pZ t b a→aa C iK ak 4 0 (ud b a ((k:Int)-1) (t.aE.map bP) (t.nodes.map aQ)) (fun u st=>ax C iK ak u st fun r fs=>r=(vI (pZ t b a))∧fs=[]):=by
  intro k
  induction k with
  |zero=>
   intro _ hk;refine Fe _ _ _ _ _ _ (an cY (Rj _ _ _ _ _ _ _ ⟨?_,by trivial⟩));rw[←hk];rfl
  |succ k ih=>
   intro hle hk;have hx:t.aE[k]?=some t.aE[k]:=cm ay;rw[show((k+1:Nat):Int)-1=(k:Int) by omega];generalize t.aE[k]=x at hx;simp only[w6,hx] at hk;refine Fe _ _ _ _ _ _ (ah cY ?_);simp only[wW,aH,hx,aY,dw,D3,dA,gl,bJ];rw[dh ay]
   by_cases h1:x≤jX b a
   ·rw[aI h1]
    rw[aI (fk h1)] at hk;exact Ri _ _ _ _ ⟨by rw[←hk],by trivial⟩
   ·rw[aF h1]
    rw[aF (by simpa using h1)] at hk;exact ih ay hk
 rw[bY,show cO (Int.ofNat t.aE.length) 1=(t.aE.length:Int)-1 from dh eJ];exact key t.aE.length (cX _) rfl
theorem vk (t:Tree) (b a:Int) (hl:cH t≤1073741824):ai C wF [dX t,vI b,vI a] (Yq (w7 t b a)) []:=by
 have e2:cH t=t.aE.length+(t.nodes.length+tot aP t.nodes):=rfl;refine(ZN _ _ _ _ _ ⟨_,EC t b a ay,_,nL _ _ _,?_⟩).run;unfold w7;rw[bY,show cO (Int.ofNat t.nodes.length) 1=(t.nodes.length:Int)-1 from dh eJ]
 by_cases h1:0≤pZ t b a∧pZ t b a<t.nodes.length
 ·obtain⟨n,hn⟩:=mm h1.1 h1.2
  have hz:aP n≤tot aP t.nodes:=oE (w:=aP) (Ew hn);have e1:aP n=n.length+tot bZ n:=rfl;refine an (by simp[iC];omega) ?_;simp only[tT,hn,aY,dw];refine⟨_,_,_,_,_,_,SZ n b a ay (fun s hs=> ?_),⟨rfl,by trivial⟩⟩;have h3:bZ s≤tot bZ n:=oE (w:=bZ) hs;have h4:bZ s=s.length:=rfl;omega
 ·rw[gE h1]
  exact ah (by simp[iC];omega) ⟨rfl,by trivial⟩
theorem GJ (p:Pool) (hS:aJ p≤4194304) (id:Int):ai C yI [c6 p,vI id] (vI (Ey p id)) []:=by
 have hP:=cD hS;refine(Zk _ _ _ _ _ _ _ _ ⟨_,yZ p.aL id ay,_,LR p id ay,?_⟩).run;unfold Ey
 cases h1:qX p.au id with
 |false=>exact ah rfl ⟨by simp,by trivial⟩
 |true=>
  refine an rfl ?_
  by_cases h2:(eB p.aL id).length=1
  ·obtain⟨x,hx⟩:=mm (l:=eB p.aL id) (i:=0) ay ay
   refine an (by simp[h2]) ?_;simp only[wW,hx,aY,dw];exact⟨by simp[h2],by trivial⟩
  ·exact ah eJ ⟨by simp[h2],by trivial⟩
theorem QH (p:Pool) (hS:aJ p≤4194304) (k:Key):ai C Ge [c6 p,uJ k] (vB (abj p k)) []:=by
 have hP:=cD hS;refine(Xz _ _ _ _ _ _ _ _ _ _ _ _ ⟨_,GJ p hS k.a,?_⟩).run;unfold abj
 by_cases h1:Ey p k.a=0
 ·exact ah (by simp[h1]) ⟨by rw[aI h1],by trivial⟩
 ·exact an (by simp[h1]) ⟨_,_,_,_,_,_,ze p.t k.b (Ey p k.a) ay,⟨by rw[aF h1],by trivial⟩⟩
theorem S0 (p:Pool) (hS:aJ p≤4194304) (j:Int) (k:Key):ai C J6 [c6 p,vI j,uJ k] (vB (sj p j k)) []:=by
 have hP:=cD hS;refine(Zs _ _ _ _ _ _ _ _ _ _ _ _ _ ?_).run;unfold sj
 by_cases h1:j=1
 ·exact ah (by simp[h1]) ⟨_,Lq p k ay ay ay,⟨by rw[aI h1],by trivial⟩⟩
 ·refine an (by simp[h1]) ?_
  rw[aF h1]
  by_cases h2:j=2
  ·refine ah (by simp[h2]) ⟨_,_,_,_,_,_,AS p.t p.aL k.b k.a ay ay,?_⟩
   rw[aI h2]
   by_cases h3:k.k=2
   ·exact ah (by simp[h3]) ⟨by simp[h3],by trivial⟩
   ·exact an (by simp[h3]) ⟨by simp[h3],by trivial⟩
  ·rw[aF h2]
   exact an (by simp[h2]) ⟨_,QH p hS k,⟨rfl,by trivial⟩⟩
theorem S3 (p:Pool) (hS:aJ p≤4194304) (id:Int):ai C ir [c6 p,vI id] (vB (((aD p.t).all (JL id)&&(qX p.au id&&decide ((eB p.aL id).length≤1))))) []:=by
 refine(ZO _ _ _ _ _ _ _ _ ?_).run;have hP:=cD hS;have htl:=fj p.t;refine⟨_,j7 p.t ay,?_⟩
 have key:(((aD p.t).drop 0).all (JL id)&&(qX p.au id&&decide ((eB p.aL id).length≤1)))=((aD p.t).all (JL id)&&(qX p.au id&&decide ((eB p.aL id).length≤1)))→aa C ir aj 4 0 (nZ id ((0:Nat):Int) (p.t.aE.map bP) (p.t.nodes.map aQ) (p.aL.map bR) (p.cells.map bM) (p.au.map cj) p.next ((aD p.t).map bQ)) (fun u st=>ax C ir aj u st fun r fs=>r=vB (((aD p.t).all (JL id)&&(qX p.au id&&decide ((eB p.aL id).length≤1))))∧fs=[]):=by
  refine aZ (aD p.t) (fun i=>(((aD p.t).drop i).all (JL id)&&(qX p.au id&&decide ((eB p.aL id).length≤1)))=((aD p.t).all (JL id)&&(qX p.au id&&decide ((eB p.aL id).length≤1)))→aa C ir aj 4 0 (nZ id i (p.t.aE.map bP) (p.t.nodes.map aQ) (p.aL.map bR) (p.cells.map bM) (p.au.map cj) p.next ((aD p.t).map bQ)) (fun u st=>ax C ir aj u st fun r fs=>r=vB (((aD p.t).all (JL id)&&(qX p.au id&&decide ((eB p.aL id).length≤1))))∧fs=[])) ?_ ?_
  ·intro h0
   refine Iv _ _ _ _ _ _ _ _ _ _ (an cY (Uc _ _ _ _ _ _ _ _ _ _ _ ?_));rw[ew] at h0;simp only[qT,dz] at h0;rw[←h0];refine⟨_,LR p id ay,?_⟩
   cases h1:qX p.au id with
   |false=>exact an rfl ⟨rfl,by trivial⟩
   |true=>exact ah rfl ⟨_,yZ p.aL id ay,⟨by simp[gl];omega,by trivial⟩⟩
  ·intro i a hi ha hd uH hn h0
   have gO:(JL id) a=false→((aD p.t).all (JL id)&&(qX p.au id&&decide ((eB p.aL id).length≤1)))=false:=fun e=>by rw[←h0,hd];simp[e]
   have gN:(JL id) a=true→aa C ir aj 4 0 (nZ id ((i:Int)+1) (p.t.aE.map bP) (p.t.nodes.map aQ) (p.aL.map bR) (p.cells.map bM) (p.au.map cj) p.next ((aD p.t).map bQ)) (fun u st=>ax C ir aj u st fun r fs=>r=vB (((aD p.t).all (JL id)&&(qX p.au id&&decide ((eB p.aL id).length≤1))))∧fs=[]):=fun e=>hn (by rw[←h0,hd];simp[e]);refine Iv _ _ _ _ _ _ _ _ _ _ (ah eJ ?_);simp only[lN,aH,ha,aY,dw,bE,bJ];rw[aG ay]
   by_cases h1:a.a=id
   ·rw[aI h1];exact Ub _ _ _ _ _ _ _ _ (by rw[gO (by simp[JL,hasB,h1])];exact⟨rfl,by trivial⟩)
   ·rw[aF h1];exact gN (by simp[JL,hasB,h1])
 exact key rfl
theorem QI (l:List Key) (id:Int) (hl:l.length≤1073741824):ai C gK [dM l,vI id] (vB ((l.any (hasB id)))) []:=by
 refine(Xx _ _ _ ?_).run
 have key:((l.drop 0).any (hasB id))=(l.any (hasB id))→aa C gK ak 4 0 (nt id (l.map bQ) ((0:Nat):Int)) (fun u st=>ax C gK ak u st fun r fs=>r=vB ((l.any (hasB id)))∧fs=[]):=by
  refine aZ l (fun i=>((l.drop i).any (hasB id))=(l.any (hasB id))→aa C gK ak 4 0 (nt id (l.map bQ) i) (fun u st=>ax C gK ak u st fun r fs=>r=vB ((l.any (hasB id)))∧fs=[])) ?_ ?_
  ·intro h0
   refine Ff _ _ _ _ (an cY (Rl _ _ _ _ _ _ ?_));rw[ew] at h0;simp only[List.any_nil,dz] at h0;rw[←h0];exact⟨rfl,by trivial⟩
  ·intro i a hi ha hd uH hn h0
   have gO:(hasB id) a=true→(l.any (hasB id))=true:=fun e=>by rw[←h0,hd];simp[e]
   have gN:(hasB id) a=false→aa C gK ak 4 0 (nt id (l.map bQ) ((i:Int)+1)) (fun u st=>ax C gK ak u st fun r fs=>r=vB ((l.any (hasB id)))∧fs=[]):=fun e=>hn (by rw[←h0,hd];simp[e]);refine Ff _ _ _ _ (ah eJ ?_);simp only[lN,aH,ha,aY,dw,bE,bJ];rw[aG ay]
   by_cases h1:a.a=id
   ·rw[aI h1];exact Rk _ _ _ _ _ _ (by rw[gO (by simp[hasB,h1])];exact⟨rfl,by trivial⟩)
   ·rw[aF h1];exact gN (by simp[hasB,h1])
 exact key rfl
theorem QJ (p:Pool) (hS:aJ p≤4194304) (hA:gV p.aL=true) (j:Int) (k:Key):ai C Gd [c6 p,vI j,uJ k] (vB (sj p j k)) []:=by
 have hP:=cD hS;refine(XM _ _ _ _ _ _ _ _ _ _ _ _ _ ?_).run;unfold sj
 by_cases h1:j=1
 ·exact ah (by simp[h1]) ⟨_,Lr p k ay ay ay,⟨by rw[aI h1],by trivial⟩⟩
 ·refine an (by simp[h1]) ?_
  rw[aF h1]
  by_cases h2:j=2
  ·refine ah (by simp[h2]) ⟨_,_,_,_,_,_,AT p.t p.aL k.b k.a ay ay,?_⟩
   rw[aI h2]
   by_cases h3:k.k=2
   ·exact ah (by simp[h3]) ⟨by simp[h3],by trivial⟩
   ·exact an (by simp[h3]) ⟨by simp[h3],by trivial⟩
  ·rw[aF h2]
   refine an (by simp[h2]) ⟨_,vj p.aL k.a ay,_,LS p k.a ay,?_⟩;unfold abj Ey
   cases h3:qX p.au k.a with
   |false=>exact ah rfl ⟨by simp,by trivial⟩
   |true=>
    refine an rfl ?_
    by_cases h4:(eB p.aL k.a).length=1
    ·obtain⟨x,hx⟩:=mm (l:=eB p.aL k.a) (i:=0) ay ay
     have hpos:=aku hA x (Ew hx)
     have hne: ¬x=0:=by omega
     refine an (by simp[h4]) ?_;simp only[wW,hx,aY,dw];refine⟨(vB (!(w7 p.t k.b x).2),[]),?_,?_,⟨by simp[h4,hne],by trivial⟩⟩
     ·exact⟨_,_,_,_,_,_,vk p.t k.b x ay,by trivial⟩
     ·exact⟨_,_,_,_,_,_,vk p.t k.b x ay,by trivial⟩
    ·exact ah eJ ⟨by simp[h4],by trivial⟩
theorem Om (p:Pool) (hS:aJ p≤4194304):ai C bG [c6 p] (tII (c8 p)) []:=by
 have hP:=cD hS;have htl:=fj p.t;refine(TU _ _ _ _ _ _ _ ⟨_,gM p hS,?_⟩).run
 cases hok:c7 p with
 |false=>exact ah rfl ⟨by unfold c8;rw[hok];rfl,by trivial⟩
 |true=>
 refine an rfl ⟨_,j7 p.t ay,?_⟩
 have hstep: ∀j:Int,1≤j∧j≤3→(0≤mV p j→c8 p=(j,mV p j))→(mV p j<0→aa C bG av 4 0 (o5 (j+1) (p.t.aE.map bP) (p.t.nodes.map aQ) (p.aL.map bR) (p.cells.map bM) (p.au.map cj) p.next ((aD p.t).map bQ)) (fun u st=>ax C bG av u st fun r fs=>r=tII (c8 p)∧fs=[]))→aa C bG av 4 0 (o5 j (p.t.aE.map bP) (p.t.nodes.map aQ) (p.aL.map bR) (p.cells.map bM) (p.au.map cj) p.next ((aD p.t).map bQ)) (fun u st=>ax C bG av u st fun r fs=>r=tII (c8 p)∧fs=[]):=by
  intro j hj h1 h2;refine Di _ _ _ _ _ _ _ _ _ (ah eJ ?_)
  have keyI:eT (sj p j) ((aD p.t).drop 0) ((0:Nat):Int)=mV p j→aa C bG iw 3 2 (o6 j ((0:Nat):Int) (p.t.aE.map bP) (p.t.nodes.map aQ) (p.aL.map bR) (p.cells.map bM) (p.au.map cj) p.next ((aD p.t).map bQ)) (fun u st=>qD C bG av 4 0 zm u st (fun u st=>ax C bG av u st fun r fs=>r=tII (c8 p)∧fs=[])):=by
   refine aZ (aD p.t) (fun i=>eT (sj p j) ((aD p.t).drop i) (i:Int)=mV p j→aa C bG iw 3 2 (o6 j i (p.t.aE.map bP) (p.t.nodes.map aQ) (p.aL.map bR) (p.cells.map bM) (p.au.map cj) p.next ((aD p.t).map bQ)) (fun u st=>qD C bG av 4 0 zm u st (fun u st=>ax C bG av u st fun r fs=>r=tII (c8 p)∧fs=[]))) ?_ ?_
   ·intro h0
    rw[ew] at h0;simp only[eT] at h0;refine Dj _ _ _ _ _ _ _ _ _ _ (an cY (OV _ _ _ _ _ _ _ _ _ _ _ ?_));rw[aG ay];exact h2 ay
   ·intro i x hi hx hd uH hn h0
    rw[hd] at h0;simp only[eT] at h0;refine Dj _ _ _ _ _ _ _ _ _ _ (ah eJ ?_);simp only[lN,aH,hx,aY,dw];refine⟨_,S0 p hS j x,?_⟩;rw[aG ay]
    cases h4:sj p j x with
    |true=>
     rw[aI h4] at h0;exact ah rfl (OU _ _ _ _ _ _ _ _ _ _ (OW _ _ _ _ _ _ _ _ _ _ ⟨by rw[h1 ay,←h0],by trivial⟩))
    |false=>rw[aF (by simp[h4])] at h0;exact an rfl (hn h0)
  exact keyI rfl
 refine hstep 1 ay (fun h=>by unfold c8;rw[aI hok,aI h]) (fun h1=> ?_);refine hstep 2 ay (fun h=>by unfold c8;rw[aI hok,aF ay,aI h]) (fun h2=> ?_);refine hstep 3 ay (fun h=>by unfold c8;rw[aI hok,aF ay,aF ay,aI h]) (fun h3=> ?_);refine Di _ _ _ _ _ _ _ _ _ (an cY (OT _ _ _ _ _ _ _ _ _ ?_))
 have key5:eT (vg p) (p.aL.drop 0) ((0:Nat):Int)=Mq p→aa C bG bO 4 4 (o7 ((0:Nat):Int) (p.t.aE.map bP) (p.t.nodes.map aQ) (p.aL.map bR) (p.cells.map bM) (p.au.map cj) p.next) (fun u st=>ax C bG bO u st fun r fs=>r=tII (c8 p)∧fs=[]):=by
  refine aZ p.aL (fun i=>eT (vg p) (p.aL.drop i) (i:Int)=Mq p→aa C bG bO 4 4 (o7 i (p.t.aE.map bP) (p.t.nodes.map aQ) (p.aL.map bR) (p.cells.map bM) (p.au.map cj) p.next) (fun u st=>ax C bG bO u st fun r fs=>r=tII (c8 p)∧fs=[])) ?_ ?_
  ·intro h0
   rw[ew] at h0;simp only[eT] at h0;exact Dk _ _ _ _ _ _ _ _ (an cY (OY _ _ _ _ _ _ _ _ _ ⟨by unfold c8;rw[aI hok,aF ay,aF ay,aF ay,aF ay],by trivial⟩))
  ·intro i x hi hx hd uH hn h0
   rw[hd] at h0;simp only[eT] at h0;refine Dk _ _ _ _ _ _ _ _ (ah eJ ?_);simp only[wX,aH,hx,aY,dw];rw[aG ay];refine⟨_,S3 p hS x.id,?_⟩;have e:((aD p.t).all (JL x.id)&&(qX p.au x.id&&decide ((eB p.aL x.id).length≤1)))=vg p x:=rfl;rw[e]
   cases h4:vg p x with
   |true=>rw[aI h4] at h0;exact ah rfl (OX _ _ _ _ _ _ _ _ ⟨by unfold c8;rw[aI hok,aF ay,aF ay,aF ay,aI ay,←h0],by trivial⟩)
   |false=>rw[aF (by simp[h4])] at h0;exact an rfl (hn h0)
 exact key5 rfl
theorem On (p:Pool) (hS:aJ p≤4194304):ai C bg [c6 p] (tII (c8 p)) []:=by
 have hP:=cD hS;have htl:=fj p.t;refine(Uw _ _ _ _ _ _ _ ⟨_,e9 p hS,?_⟩).run
 cases hok:c7 p with
 |false=>exact ah rfl ⟨by unfold c8;rw[hok];rfl,by trivial⟩
 |true=>
 refine an rfl ⟨_,j8 p.t ay,?_⟩
 have hstep: ∀i0 j:Int,0≤i0∧i0<3→rowAt [[iI 1],[iI 2],[iI 3]] i0=some [iI j]→(0≤mV p j→c8 p=(j,mV p j))→(mV p j<0→aa C bg av 4 0 (pz (i0+1) (p.t.aE.map bP) (p.t.nodes.map aQ) (p.aL.map bR) (p.cells.map bM) (p.au.map cj) p.next ((aD p.t).map bQ)) (fun u st=>ax C bg av u st fun r fs=>r=tII (c8 p)∧fs=[]))→aa C bg av 4 0 (pz i0 (p.t.aE.map bP) (p.t.nodes.map aQ) (p.aL.map bR) (p.cells.map bM) (p.au.map cj) p.next ((aD p.t).map bQ)) (fun u st=>ax C bg av u st fun r fs=>r=tII (c8 p)∧fs=[]):=by
  intro i0 j hj hr h1 h2;refine Ds _ _ _ _ _ _ _ _ _ (ah eJ ⟨_,hr,_,hr,?_⟩)
  have keyI:eT (sj p j) ((aD p.t).drop 0) ((0:Nat):Int)=mV p j→aa C bg rj 3 2 (pE j i0 ((aD p.t).map bQ) ((0:Nat):Int) (p.t.aE.map bP) (p.t.nodes.map aQ) (p.aL.map bR) (p.cells.map bM) (p.au.map cj) p.next) (fun u st=>qD C bg av 4 0 q9 u st (fun u st=>ax C bg av u st fun r fs=>r=tII (c8 p)∧fs=[])):=by
   refine aZ (aD p.t) (fun i=>eT (sj p j) ((aD p.t).drop i) (i:Int)=mV p j→aa C bg rj 3 2 (pE j i0 ((aD p.t).map bQ) i (p.t.aE.map bP) (p.t.nodes.map aQ) (p.aL.map bR) (p.cells.map bM) (p.au.map cj) p.next) (fun u st=>qD C bg av 4 0 q9 u st (fun u st=>ax C bg av u st fun r fs=>r=tII (c8 p)∧fs=[]))) ?_ ?_
   ·intro h0
    rw[ew] at h0;simp only[eT] at h0;refine Dt _ _ _ _ _ _ _ _ _ _ _ (an cY (O9 _ _ _ _ _ _ _ _ _ _ _ _ _ ?_));rw[aG ay];exact h2 ay
   ·intro i x hi hx hd uH hn h0
    rw[hd] at h0;simp only[eT] at h0;refine Dt _ _ _ _ _ _ _ _ _ _ _ (ah eJ ?_);simp only[lN,aH,hx,aY,dw];refine⟨_,QJ p hS (Sp hok) j x,?_⟩;rw[aG ay]
    cases h4:sj p j x with
    |true=>
     rw[aI h4] at h0;exact ah rfl (O8 _ _ _ _ _ _ _ _ _ _ _ _ _ _ _ (Pb _ _ _ _ _ _ _ _ _ _ _ _ _ _ _ ⟨by rw[h1 ay,←h0],by trivial⟩))
    |false=>rw[aF (by simp[h4])] at h0;exact an rfl (hn h0)
  exact keyI rfl
 refine hstep 0 1 ay (by unfold rowAt;rfl) (fun h=>by unfold c8;rw[aI hok,aI h]) (fun h1=> ?_);refine hstep 1 2 ay (by unfold rowAt;rfl) (fun h=>by unfold c8;rw[aI hok,aF ay,aI h]) (fun h2=> ?_);refine hstep 2 3 ay (by unfold rowAt;rfl) (fun h=>by unfold c8;rw[aI hok,aF ay,aF ay,aI h]) (fun h3=> ?_);refine Ds _ _ _ _ _ _ _ _ _ (an cY (O7 _ _ _ _ _ _ _ _ _ ?_))
 have key5:eT (vg p) (p.aL.drop 0) ((0:Nat):Int)=Mq p→aa C bg bO 4 4 (iZ (p.aL.map bR) ((0:Nat):Int) (p.t.aE.map bP) (p.t.nodes.map aQ) (p.cells.map bM) (p.au.map cj) p.next ((aD p.t).map bQ)) (fun u st=>ax C bg bO u st fun r fs=>r=tII (c8 p)∧fs=[]):=by
  refine aZ p.aL (fun i=>eT (vg p) (p.aL.drop i) (i:Int)=Mq p→aa C bg bO 4 4 (iZ (p.aL.map bR) i (p.t.aE.map bP) (p.t.nodes.map aQ) (p.cells.map bM) (p.au.map cj) p.next ((aD p.t).map bQ)) (fun u st=>ax C bg bO u st fun r fs=>r=tII (c8 p)∧fs=[])) ?_ ?_
  ·intro h0
   rw[ew] at h0;simp only[eT] at h0;exact Du _ _ _ _ _ _ _ _ _ (an cY (Pd _ _ _ _ _ _ _ _ _ _ _ ⟨by unfold c8;rw[aI hok,aF ay,aF ay,aF ay,aF ay],by trivial⟩))
  ·intro i x hi hx hd uH hn h0
   rw[hd] at h0;simp only[eT] at h0;refine Du _ _ _ _ _ _ _ _ _ (ah eJ ?_);simp only[wX,aH,hx,aY,dw];rw[aG ay]
   have e:vg p x=(!((aD p.t).any (hasB x.id))&&(qX p.au x.id&&decide ((eB p.aL x.id).length≤1))):=by unfold vg;rw[akv]
   have hO:vg p x=true→ax C bg bO TX.ret (xy i (p.t.aE.map bP) (p.t.nodes.map aQ) (p.aL.map bR) (p.cells.map bM) (p.au.map cj) p.next x.id x.fr ((aD p.t).map bQ) ((eB p.aL x.id).map bP)) (fun r fs=>r=tII (c8 p)∧fs=[]):=fun h4=>by
    rw[aI h4] at h0;exact Pc _ _ _ _ _ _ _ _ _ _ _ _ ⟨by unfold c8;rw[aI hok,aF ay,aF ay,aF ay,aI ay,←h0],by trivial⟩
   have hN:vg p x=false→aa C bg bO 4 4 (iZ (p.aL.map bR) ((i:Int)+1) (p.t.aE.map bP) (p.t.nodes.map aQ) (p.cells.map bM) (p.au.map cj) p.next ((aD p.t).map bQ)) (fun u st=>ax C bg bO u st fun r fs=>r=tII (c8 p)∧fs=[]):=fun h4=>by
    rw[aF (by simp[h4])] at h0;exact hn h0
   refine⟨_,LS p x.id ay,?_⟩
   cases h5:qX p.au x.id with
   |false=>exact an rfl (hN (by rw[e,h5];simp))
   |true=>
    refine ah rfl ⟨_,vj p.aL x.id ay,?_⟩
    by_cases h6:(eB p.aL x.id).length≤1
    ·refine ah (by simp[gl];omega) ⟨_,QI (aD p.t) x.id ay,?_⟩
     cases h7:(aD p.t).any (hasB x.id) with
     |false=>exact ah rfl (hO (by rw[e,h5,h7];simp[h6]))
     |true=>exact an rfl (hN (by rw[e,h7];simp))
    ·exact an (by simp[gl];omega) (hN (by rw[e];simp[h6]))
 exact key5 rfl
theorem oV (l:List Age) (hl:l.length≤1073741824):ai C fR [gy l] (gy l) []:=by
 refine(UA _ _ ?_).run;rw[show bS (l.map bR)=true from Ah _,cP eJ];exact⟨rfl,by trivial⟩
theorem xk (n:List (List Key)) (hl:n.length≤1073741824) (hs: ∀s∈n,s.length≤1073741824):ai C bB [hD n] (hD n) []:=by
 refine(Tz _ _ ?_).run
 skip
 have key:((0:Nat)=0→aa C bB aj 4 0 (su (n.map cW)) (fun u st=>ax C bB aj u st fun r fs=>r=(hD n)∧fs=[]))∧(0<(0:Nat)→aa C bB aj 4 0 (oX (n.map cW) ((0:Nat):Int) ((n.take 0).map cW)) (fun u st=>ax C bB aj u st fun r fs=>r=(hD n)∧fs=[])):=by
  refine aZ n (fun i=>(i=0→aa C bB aj 4 0 (su (n.map cW)) (fun u st=>ax C bB aj u st fun r fs=>r=(hD n)∧fs=[]))∧(0<i→aa C bB aj 4 0 (oX (n.map cW) i ((n.take i).map cW)) (fun u st=>ax C bB aj u st fun r fs=>r=(hD n)∧fs=[]))) ?_ ?_
  ·refine⟨fun h=> ?_,fun h=> ?_⟩
   ·have hnil:n=[]:=List.length_eq_zero_iff.1 h
    refine Da _ _ (an (by simp[h]) (OK _ _ _ _ ⟨?_,by trivial⟩));simp[hnil]
   ·rw[wh]
    exact Db _ _ _ _ (an cY (OL _ _ _ _ _ _ ⟨rfl,by trivial⟩))
  ·intro i a hi ha hd uH hn
   have hmem:=gQ ha;refine⟨fun h=> ?_,fun h=> ?_⟩
   ·subst h
    have hz:fh n 0=some a:=(aH n 0).trans ha;have hn2:=hn.2 ay;rw[uH] at hn2;refine Da _ _ (ah eJ ?_);simp only[xY,hz,aY,dw];refine⟨_,oU a (by have:=hs a hmem;omega),ah (cP (by simp;try omega)) ?_⟩;rw[aG ay];exact hn2
   ·have hn2:=hn.2 ay
    rw[uH] at hn2;refine Db _ _ _ _ (ah eJ ?_);simp only[xY,aH,ha,aY,dw];refine⟨_,oU a (by have:=hs a hmem;omega),ah (cP (by simp;try omega)) ?_⟩;rw[aG ay];rw[uA] at hn2;exact hn2
 exact key.1 rfl
theorem zf (n:List (List Key)) (hl:n.length≤1073741824) (hs: ∀s∈n,s.length≤1073741824):ai C cg [hD n] (hD n) []:=by
 refine(aax _ _ ?_).run
 skip
 have key:((0:Nat)=0→aa C cg aj 4 0 (vE (n.map cW)) (fun u st=>ax C cg aj u st fun r fs=>r=(hD n)∧fs=[]))∧(0<(0:Nat)→aa C cg aj 4 0 (rH ((0:Nat):Int) (n.map cW) ((n.take 0).map cW)) (fun u st=>ax C cg aj u st fun r fs=>r=(hD n)∧fs=[])):=by
  refine aZ n (fun i=>(i=0→aa C cg aj 4 0 (vE (n.map cW)) (fun u st=>ax C cg aj u st fun r fs=>r=(hD n)∧fs=[]))∧(0<i→aa C cg aj 4 0 (rH i (n.map cW) ((n.take i).map cW)) (fun u st=>ax C cg aj u st fun r fs=>r=(hD n)∧fs=[]))) ?_ ?_
  ·refine⟨fun h=> ?_,fun h=> ?_⟩
   ·have hnil:n=[]:=List.length_eq_zero_iff.1 h
    refine IZ _ _ (an (by simp[h]) (Va _ _ _ ⟨?_,by trivial⟩));simp[hnil]
   ·rw[wh]
    exact I0 _ _ _ _ (an cY (Vb _ _ _ _ _ ⟨rfl,by trivial⟩))
  ·intro i a hi ha hd uH hn
   have hmem:=gQ ha;refine⟨fun h=> ?_,fun h=> ?_⟩
   ·subst h
    have hz:fh n 0=some a:=(aH n 0).trans ha;have hn2:=hn.2 ay;rw[uH] at hn2;refine IZ _ _ (ah eJ ?_);simp only[xY,hz,aY,dw];have hsa:=hs a hmem;refine ah (by rw[show bS (a.map bQ)=true from ni _,cP eJ];rfl) (ah (cP (by simp;try omega)) ?_);rw[aG ay];exact hn2
   ·have hn2:=hn.2 ay
    rw[uH] at hn2;refine I0 _ _ _ _ (ah eJ ?_);simp only[xY,aH,ha,aY,dw];have hsa:=hs a hmem;refine ah (by rw[show bS (a.map bQ)=true from ni _,cP eJ];rfl) (ah (cP (by simp;try omega)) ?_);rw[aG ay];rw[uA] at hn2;exact hn2
 exact key.1 rfl
theorem xm (t:Tree) (hl:t.aE.length≤1073741824∧t.nodes.length≤1073741824) (hs: ∀n∈t.nodes,n.length≤1073741824∧ ∀s∈n,s.length≤1073741824):ai C bV [dX t] (dX t) []:=by
 refine(T6 _ _ _ ?_).run;refine⟨_,Cq t.aE hl.1,?_⟩
 have key:((0:Nat)=0→aa C bV aj 4 0 (sD (t.nodes.map aQ) (t.aE.map bP)) (fun u st=>ax C bV aj u st fun r fs=>r=(dX t)∧fs=[]))∧(0<(0:Nat)→aa C bV aj 4 0 (o8 (t.nodes.map aQ) ((0:Nat):Int) (t.aE.map bP) ((t.nodes.take 0).map aQ)) (fun u st=>ax C bV aj u st fun r fs=>r=(dX t)∧fs=[])):=by
  refine aZ t.nodes (fun i=>(i=0→aa C bV aj 4 0 (sD (t.nodes.map aQ) (t.aE.map bP)) (fun u st=>ax C bV aj u st fun r fs=>r=(dX t)∧fs=[]))∧(0<i→aa C bV aj 4 0 (o8 (t.nodes.map aQ) i (t.aE.map bP) ((t.nodes.take i).map aQ)) (fun u st=>ax C bV aj u st fun r fs=>r=(dX t)∧fs=[]))) ?_ ?_
  ·refine⟨fun h=> ?_,fun h=> ?_⟩
   ·have hnil:t.nodes=[]:=List.length_eq_zero_iff.1 h
    refine Dm _ _ _ (an (by simp[h]) (O0 _ _ _ _ _ ⟨?_,by trivial⟩));simp[hnil]
   ·rw[wh]
    exact Dn _ _ _ _ _ (an cY (O1 _ _ _ _ _ _ _ ⟨rfl,by trivial⟩))
  ·intro i a hi ha hd uH hn
   have hmem:=gQ ha;refine⟨fun h=> ?_,fun h=> ?_⟩
   ·subst h
    have hz:fh t.nodes 0=some a:=(aH t.nodes 0).trans ha;have hn2:=hn.2 ay;rw[uH] at hn2;refine Dm _ _ _ (ah eJ ?_);simp only[tT,hz,aY,dw];refine⟨_,xk a (hs a hmem).1 (hs a hmem).2,ah (cP (by simp;try omega)) ?_⟩;rw[aG ay];exact hn2
   ·have hn2:=hn.2 ay
    rw[uH] at hn2;refine Dn _ _ _ _ _ (ah eJ ?_);simp only[tT,aH,ha,aY,dw];refine⟨_,xk a (hs a hmem).1 (hs a hmem).2,ah (cP (by simp;try omega)) ?_⟩;rw[aG ay];rw[uA] at hn2;exact hn2
 exact key.1 rfl
theorem zg (t:Tree) (hl:t.aE.length≤1073741824∧t.nodes.length≤1073741824) (hs: ∀n∈t.nodes,n.length≤1073741824∧ ∀s∈n,s.length≤1073741824):ai C dF [dX t] (dX t) []:=by
 refine(aan _ _ _ ?_).run;refine ah (by rw[show bS (t.aE.map bP)=true from nW _,cP eJ];rfl) ?_
 have key:((0:Nat)=0→aa C dF aj 4 0 (vD (t.aE.map bP) (t.nodes.map aQ)) (fun u st=>ax C dF aj u st fun r fs=>r=(dX t)∧fs=[]))∧(0<(0:Nat)→aa C dF aj 4 0 (rG ((0:Nat):Int) (t.aE.map bP) (t.nodes.map aQ) ((t.nodes.take 0).map aQ)) (fun u st=>ax C dF aj u st fun r fs=>r=(dX t)∧fs=[])):=by
  refine aZ t.nodes (fun i=>(i=0→aa C dF aj 4 0 (vD (t.aE.map bP) (t.nodes.map aQ)) (fun u st=>ax C dF aj u st fun r fs=>r=(dX t)∧fs=[]))∧(0<i→aa C dF aj 4 0 (rG i (t.aE.map bP) (t.nodes.map aQ) ((t.nodes.take i).map aQ)) (fun u st=>ax C dF aj u st fun r fs=>r=(dX t)∧fs=[]))) ?_ ?_
  ·refine⟨fun h=> ?_,fun h=> ?_⟩
   ·have hnil:t.nodes=[]:=List.length_eq_zero_iff.1 h
    refine IS _ _ _ (an (by simp[h]) (UW _ _ _ _ ⟨?_,by trivial⟩));simp[hnil]
   ·rw[wh]
    exact IT _ _ _ _ _ (an cY (UX _ _ _ _ _ _ ⟨rfl,by trivial⟩))
  ·intro i a hi ha hd uH hn
   have hmem:=gQ ha;refine⟨fun h=> ?_,fun h=> ?_⟩
   ·subst h
    have hz:fh t.nodes 0=some a:=(aH t.nodes 0).trans ha;have hn2:=hn.2 ay;rw[uH] at hn2;refine IS _ _ _ (ah eJ ?_);simp only[tT,hz,aY,dw];refine⟨_,zf a (hs a hmem).1 (hs a hmem).2,ah (cP (by simp;try omega)) ?_⟩;rw[aG ay];exact hn2
   ·have hn2:=hn.2 ay
    rw[uH] at hn2;refine IT _ _ _ _ _ (ah eJ ?_);simp only[tT,aH,ha,aY,dw];refine⟨_,zf a (hs a hmem).1 (hs a hmem).2,ah (cP (by simp;try omega)) ?_⟩;rw[aG ay];rw[uA] at hn2;exact hn2
 exact key.1 rfl
theorem wG {t:Tree} (h:cH t≤4194304):(t.aE.length≤1073741824∧t.nodes.length≤1073741824)∧ ∀n∈t.nodes,n.length≤1073741824∧ ∀s∈n,s.length≤1073741824:=by
 have e2:cH t=t.aE.length+(t.nodes.length+tot aP t.nodes):=rfl;refine⟨⟨by omega,by omega⟩,fun n hn=> ?_⟩;have h1:aP n≤tot aP t.nodes:=oE (w:=aP) hn;have h2:aP n=n.length+tot bZ n:=rfl;refine⟨by omega,fun s hs=> ?_⟩;have h3:bZ s≤tot bZ n:=oE (w:=bZ) hs;have h4:bZ s=s.length:=rfl;omega
theorem cA (p:Pool) (hS:aJ p≤4194304):ai C bq [c6 p] (c6 p) []:=by
 have hP:=cD hS;have hN:=wG hP.1;have hT:=zg p.t hN.1 hN.2
 have hA:(bS (p.aL.map bR)&&fits (Nat.add 0 (p.aL.map bR).length) 16)=true:=by rw[Ah,cP eJ];rfl
 have hC:=zd p.cells ay
 have hV:(bS (p.au.map cj)&&fits (Nat.add 0 (p.au.map cj).length) 40)=true:=by rw[wu,cP eJ];rfl
 refine(Xl _ _ _ _ _ _ _ ?_).run
 repeat' first
  |exact rfl
  |refine⟨(c6 p,[]),?_,?_,⟨rfl,by trivial⟩⟩
  |refine⟨(c6 p,[]),?_,?_,by trivial⟩
  |refine⟨_,_,hT,?_⟩
  |refine ah hA ?_
  |refine⟨_,hC,?_⟩
  |refine ah hV ?_
theorem bK (p:Pool) (hS:aJ p≤4194304):ai C aN [c6 p] (c6 p) []:=by
 have hP:=cD hS;have hN:=wG hP.1;have hT:=xm p.t hN.1 hN.2;have hA:=oV p.aL ay;have hC:=vZ p.cells ay
 have hV:(bS (p.au.map cj)&&fits (Nat.add 0 (p.au.map cj).length) 40)=true:=by rw[wu,cP eJ];rfl
 refine(Uo _ _ _ _ _ _ _ ?_).run
 repeat' first
  |exact rfl
  |refine⟨(c6 p,[]),?_,?_,⟨rfl,by trivial⟩⟩
  |refine⟨(c6 p,[]),?_,?_,by trivial⟩
  |refine⟨_,_,hT,?_⟩
  |refine⟨_,hA,?_⟩
  |refine⟨_,hC,?_⟩
  |refine ah hV ?_
theorem QL (l:List Key) (hl:l.length≤1073741824):ai C aW [dM l] (hD (newNode l)) []:=by
 refine(KF _ _ ?_).run;unfold newNode
 by_cases h:l.length=0
 ·exact ah (by simp[h]) ⟨by rw[aI h];rfl,by trivial⟩
 ·refine an (by rw[bY,lX,bE];exact fe ay) ?_
  rw[show bS (l.map bQ)=true from ni _,cP eJ];exact⟨by rw[aF h];rfl,by trivial⟩
theorem Oo (n:List (List Key)) (hb:n.length≤1073741824) (hl:tot bZ n≤1073741824):ai C D0 [hD n] (hD (w8 n)) []:=by
 have h1:=dx n;exact(Uj _ _ ⟨_,(gf n hb hl _).2 rfl,_,QL (aU n) ay,⟨rfl,by trivial⟩⟩).run
theorem Oq (t:Tree) (i:Int) (hl:cH t≤4194304):ai C DY [dX t,vI i] (dX (AI t i)) []:=by
 have hN:=wG hl;have e2:cH t=t.aE.length+(t.nodes.length+tot aP t.nodes):=rfl;refine(Vc _ _ _ _ ⟨_,_,zg t hN.1 hN.2,_,tE _ _ _,?_⟩).run;unfold AI;rw[bY,show cO (Int.ofNat t.nodes.length) 1=(t.nodes.length:Int)-1 from dh eJ]
 by_cases h1:0≤i∧i<t.nodes.length
 ·obtain⟨n,hn⟩:=mm h1.1 h1.2
  have hz:aP n≤tot aP t.nodes:=oE (w:=aP) (Ew hn);have e1:aP n=n.length+tot bZ n:=rfl;refine ah (by simp[iC];omega) ?_;simp only[tT,hn,aY,dw];refine⟨_,Oo n ay ay,?_⟩;simp only[aci]
  first|exact⟨rfl,by trivial⟩|exact⟨trivial,trivial⟩|trivial|simp
 ·rw[gE h1]
  exact an (by simp[iC];omega) ⟨rfl,by trivial⟩
theorem Ot (p:Pool) (i:Int) (hS:aJ p≤4194304):ai C DW [c6 p,vI i] (tPB (qf p i)) []:=by
 have hP:=cD hS;have e2:cH p.t=p.t.aE.length+(p.t.nodes.length+tot aP p.t.nodes):=rfl;refine(Uz _ _ _ _ _ _ _ _ ⟨_,_,_,_,_,_,cA p hS,_,gM p hS,?_⟩).run;unfold qf
 cases h0:c7 p with
 |false=>exact ah rfl ⟨by simp,by trivial⟩
 |true=>
  refine an rfl ⟨_,tE _ _ _,?_⟩;rw[bY,show cO (Int.ofNat p.t.nodes.length) 1=(p.t.nodes.length:Int)-1 from dh eJ]
  by_cases h1:0≤i∧i<p.t.nodes.length
  ·refine an (by simp[iC];omega) ⟨_,_,Oq p.t i hP.1,?_⟩
   exact⟨by rw[aI ⟨rfl,h1⟩],by trivial⟩
  ·exact ah (by simp[iC];omega) ⟨by rw[aF (fun h=>h1 h.2)],by trivial⟩
theorem QM (l:List Key) (hl:l.length≤1073741824):ai C dW [dM l] (hD (newNode l)) []:=by
 refine(KJ _ _ ?_).run;unfold newNode
 by_cases h:l.length=0
 ·exact ah (by simp[h]) ⟨by rw[aI h];rfl,by trivial⟩
 ·refine an (by rw[bY,lX,bE];exact fe ay) ?_
  exact⟨_,oU l ay,⟨by rw[aF h];rfl,by trivial⟩⟩
theorem Ou (n:List (List Key)) (hb:n.length≤1073741824) (hl:tot bZ n≤1073741824):ai C DZ [hD n] (hD (w8 n)) []:=by
 have h1:=dx n;exact(TA _ _ ⟨_,(kC n hb hl _).2 rfl,_,QM (aU n) ay,⟨rfl,by trivial⟩⟩).run
end Go.T.R
