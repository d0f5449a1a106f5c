/- What the functions answer. -/
import Derived.Test.YtiinnfilgnhjfaaGreatTR2
set_option linter.unusedVariables false
set_option linter.unusedSimpArgs false
set_option maxRecDepth 100000
set_option maxHeartbeats 4000000
namespace Go.T.R
open Go Go.T
theorem AG {P:Prop} (h:P:=by kernel_rfl):P:=h
theorem toKey (v0:Int) (v1:Int) (v2:Int) (v3:Int) (v4:Int):an C Mx [.ag [iI v0,iI v1,iI v2,iI v3,iI v4]] (.ag [iI v0,iI v1,iI v2,iI v3,iI v4]) []:=(acN _ _ _ _ _ _ ⟨rfl,by trivial⟩).run
theorem aqz (v0:Int) (v1:Int) (v2:Int) (v3:Int) (v4:Int):an C My [.ag [iI v0,iI v1,iI v2,iI v3,iI v4],.ag [iI v0,iI v1,iI v2,iI v3,iI v4]] (vB true) []:=by
 refine(acW _ _ _ _ _ _ _ _ _ _ _ ?_).run;simp
theorem aoX (l:List (Key)) (hl:l.length≤1099511627776):an C oO [dL l] (dL l) []:=by
 refine(Z5 _ _ ?_).run;simp only[bX];refine ah eI ?_;simp only[gT,BT,lV];refine BW (e:=bP) (z:=[iI 0,iI 0,iI 0,iI 0,iI 0]) l (fun i rows=>aa C oO ai 4 0 (vt (l.map bP) i rows) _) (fun a=>rfl) ?_ ?_
 ·exact IA _ _ _ _ (ak cW (UA _ _ _ _ _ ⟨rfl,by trivial⟩))
 ·intro i rows a hi ha hr hn
  refine IA _ _ _ _ (ah eI ⟨_,_,_,_,_,c8 ha,_,_,_,_,_,toKey _ _ _ _ _,_,_,_,_,_,hr,_,_,_,_,_,hr,?_⟩);rw[aG ay];exact hn
theorem aoY (l:List (Key)) (hl:l.length≤1099511627776):an C oP [dL l,dL l] (vB true) []:=by
 refine(aav _ _ _ ?_).run;refine ak cW ?_;refine aZ l (fun i=>aa C oP ai 4 0 (vC (l.map bP) (l.map bP) i) _) ?_ ?_
 ·exact IX _ _ _ _ (ak cW (Va _ _ _ _ _ ⟨rfl,by trivial⟩))
 ·intro i a hi ha _ _ hn
  refine IX _ _ _ _ (ah eI ⟨_,_,_,_,_,c8 ha,_,_,_,_,_,c8 ha,_,aqz _ _ _ _ _,ak cW ?_⟩);rw[aG ay];exact hn
theorem aqA (v0:Int) (v1:Int):an C Mt [.ag [iI v0,iI v1]] (.ag [iI v0,iI v1]) []:=(acX _ _ _ ⟨rfl,by trivial⟩).run
theorem aqB (v0:Int) (v1:Int):an C Mv [.ag [iI v0,iI v1],.ag [iI v0,iI v1]] (vB true) []:=by
 refine(acF _ _ _ _ _ ?_).run;simp
theorem aoZ (l:List (Age)) (hl:l.length≤1099511627776):an C oF [gx l] (gx l) []:=by
 refine(ZQ _ _ ?_).run;simp only[bX];refine ah eI ?_;simp only[gT,BT,lV];refine BW (e:=bQ) (z:=[iI 0,iI 0]) l (fun i rows=>aa C oF ai 4 0 (vp (l.map bQ) i rows) _) (fun a=>rfl) ?_ ?_
 ·exact Ip _ _ _ _ (ak cW (Ub _ _ _ _ _ ⟨rfl,by trivial⟩))
 ·intro i rows a hi ha hr hn
  refine Ip _ _ _ _ (ah eI ⟨_,_,c8 ha,_,_,aqA _ _,_,_,hr,_,_,hr,?_⟩);rw[aG ay];exact hn
theorem ao0 (l:List (Age)) (hl:l.length≤1099511627776):an C oH [gx l,gx l] (vB true) []:=by
 refine(aaa _ _ _ ?_).run;refine ak cW ?_;refine aZ l (fun i=>aa C oH ai 4 0 (vu (l.map bQ) (l.map bQ) i) _) ?_ ?_
 ·exact IC _ _ _ _ (ak cW (UE _ _ _ _ _ ⟨rfl,by trivial⟩))
 ·intro i a hi ha _ _ hn
  refine IC _ _ _ _ (ah eI ⟨_,_,c8 ha,_,_,c8 ha,_,aqB _ _,ak cW ?_⟩);rw[aG ay];exact hn
theorem toCell (v0:Int) (v1:Bool) (v2:Int):an C JT [.ag [iI v0,iB v1,iI v2]] (.ag [iI v0,iB v1,iI v2]) []:=(Ze _ _ _ _ ⟨rfl,by trivial⟩).run
theorem ao1 (v0:Int) (v1:Bool) (v2:Int):an C JU [.ag [iI v0,iB v1,iI v2],.ag [iI v0,iB v1,iI v2]] (vB true) []:=by
 refine(Zx _ _ _ _ _ _ _ ?_).run;simp
theorem amU (l:List (Cell)) (hl:l.length≤1099511627776):an C mV [jw l] (jw l) []:=by
 refine(X3 _ _ ?_).run;simp only[bX];refine ah eI ?_;simp only[gT,BT,lV];refine BW (e:=bL) (z:=[iI 0,iB false,iI 0]) l (fun i rows=>aa C mV ai 4 0 (uf (l.map bL) i rows) _) (fun a=>rfl) ?_ ?_
 ·exact Fi _ _ _ _ (ak cW (RE _ _ _ _ _ ⟨rfl,by trivial⟩))
 ·intro i rows a hi ha hr hn
  refine Fi _ _ _ _ (ah eI ⟨_,_,_,c8 ha,_,_,_,toCell _ _ _,_,_,_,hr,_,_,_,hr,?_⟩);rw[aG ay];exact hn
theorem amV (l:List (Cell)) (hl:l.length≤1099511627776):an C mW [jw l,jw l] (vB true) []:=by
 refine(Xc _ _ _ ?_).run;refine ak cW ?_;refine aZ l (fun i=>aa C mW ai 4 0 (tV (l.map bL) (l.map bL) i) _) ?_ ?_
 ·exact EZ _ _ _ _ (ak cW (QN _ _ _ _ _ ⟨rfl,by trivial⟩))
 ·intro i a hi ha _ _ hn
  refine EZ _ _ _ _ (ah eI ⟨_,_,_,c8 ha,_,_,_,c8 ha,_,ao1 _ _ _,ak cW ?_⟩);rw[aG ay];exact hn
theorem aqC (v0:ByteArray) (v1:Int) (v2:Int) (v3:Bool):an C Mu [.ag [iS v0,iI v1,iI v2,iB v3]] (.ag [iS v0,iI v1,iI v2,iB v3]) []:=(acM _ _ _ _ _ ⟨rfl,by trivial⟩).run
theorem aqD (v0:ByteArray) (v1:Int) (v2:Int) (v3:Bool):an C Mw [.ag [iS v0,iI v1,iI v2,iB v3],.ag [iS v0,iI v1,iI v2,iB v3]] (vB true) []:=by
 refine(acR _ _ _ _ _ _ _ _ _ ?_).run;simp
theorem ao2 (l:List (Vol)) (hl:l.length≤1099511627776):an C oG [qR l] (qR l) []:=by
 refine(Y5 _ _ ?_).run;simp only[bX];refine ah eI ?_;simp only[gT,BT,lV];refine BW (e:=cg) (z:=[iS wO,iI 0,iI 0,iB false]) l (fun i rows=>aa C oG ai 4 0 (vh (l.map cg) i rows) _) (fun a=>rfl) ?_ ?_
 ·exact HT _ _ _ _ (ak cW (Tc _ _ _ _ _ ⟨rfl,by trivial⟩))
 ·intro i rows a hi ha hr hn
  refine HT _ _ _ _ (ah eI ⟨_,_,_,_,c8 ha,_,_,_,_,aqC _ _ _ _,_,_,_,_,hr,_,_,_,_,hr,?_⟩);rw[aG ay];exact hn
theorem ao3 (l:List (Vol)) (hl:l.length≤1099511627776):an C oI [qR l,qR l] (vB true) []:=by
 refine(Zs _ _ _ ?_).run;refine ak cW ?_;refine aZ l (fun i=>aa C oI ai 4 0 (vl (l.map cg) (l.map cg) i) _) ?_ ?_
 ·exact H6 _ _ _ _ (ak cW (Tz _ _ _ _ _ ⟨rfl,by trivial⟩))
 ·intro i a hi ha _ _ hn
  refine H6 _ _ _ _ (ah eI ⟨_,_,_,_,c8 ha,_,_,_,_,c8 ha,_,aqD _ _ _ _,ak cW ?_⟩);rw[aG ay];exact hn
theorem asa (v0:Int) (v1:ByteArray) (v2:ByteArray) (v3:Int) (v4:Int):an C P5 [.ag [iI v0,iS v1,iS v2,iI v3,iI v4]] (.ag [iI v0,iS v1,iS v2,iI v3,iI v4]) []:=(aeV _ _ _ _ _ _ ⟨rfl,by trivial⟩).run
theorem asb (v0:Int) (v1:ByteArray) (v2:ByteArray) (v3:Int) (v4:Int):an C Qd [.ag [iI v0,iS v1,iS v2,iI v3,iI v4],.ag [iI v0,iS v1,iS v2,iI v3,iI v4]] (vB true) []:=by
 refine(ae9 _ _ _ _ _ _ _ _ _ _ _ ?_).run;simp
theorem ahs (l:List (Av)) (hl:l.length≤1099511627776):an C mC [Wk l] (Wk l) []:=by
 refine(acD _ _ ?_).run;simp only[bX];refine ah eI ?_;simp only[gT,BT,lV];refine BW (e:=DF) (z:=[iI 0,iS wO,iS wO,iI 0,iI 0]) l (fun i rows=>aa C mC ai 4 0 (xh (l.map DF) i rows) _) (fun a=>rfl) ?_ ?_
 ·exact Ks _ _ _ _ (ak cW (W8 _ _ _ _ _ ⟨rfl,by trivial⟩))
 ·intro i rows a hi ha hr hn
  refine Ks _ _ _ _ (ah eI ⟨_,_,_,_,_,c8 ha,_,_,_,_,_,asa _ _ _ _ _,_,_,_,_,_,hr,_,_,_,_,_,hr,?_⟩);rw[aG ay];exact hn
theorem aqE (l:List (Av)) (hl:l.length≤1099511627776):an C qC [Wk l,Wk l] (vB true) []:=by
 refine(acP _ _ _ ?_).run;refine ak cW ?_;refine aZ l (fun i=>aa C qC ai 4 0 (xk (l.map DF) (l.map DF) i) _) ?_ ?_
 ·exact KA _ _ _ _ (ak cW (XI _ _ _ _ _ ⟨rfl,by trivial⟩))
 ·intro i a hi ha _ _ hn
  refine KA _ _ _ _ (ah eI ⟨_,_,_,_,_,c8 ha,_,_,_,_,_,c8 ha,_,asb _ _ _ _ _,ak cW ?_⟩);rw[aG ay];exact hn
theorem ao4 (l:List (Int)) (hl:l.length≤1099511627776):an C oM [oz l] (oz l) []:=by
 refine(Zw _ _ ?_).run;simp only[bX];refine ah eI ?_;simp only[gT,BT,lV];refine BW (e:=bO) (z:=[iI 0]) l (fun i rows=>aa C oM ai 4 0 (vm (l.map bO) i rows) _) (fun a=>rfl) ?_ ?_
 ·exact H9 _ _ _ _ (ak cW (TL _ _ _ _ _ ⟨rfl,by trivial⟩))
 ·intro i rows a hi ha hr hn
  refine H9 _ _ _ _ (ah eI ⟨_,c8 ha,_,hr,_,hr,?_⟩);rw[aG ay];exact hn
theorem ao5 (l:List (Int)) (hl:l.length≤1099511627776):an C oN [oz l,oz l] (vB true) []:=by
 refine(ZU _ _ _ ?_).run;refine ak cW ?_;refine aZ l (fun i=>aa C oN ai 4 0 (vq (l.map bO) (l.map bO) i) _) ?_ ?_
 ·exact Is _ _ _ _ (ak cW (Un _ _ _ _ _ ⟨rfl,by trivial⟩))
 ·intro i a hi ha _ _ hn
  refine Is _ _ _ _ (ah eI ⟨_,c8 ha,_,c8 ha,ak cW ?_⟩);rw[aG ay];exact hn
theorem amW (l:List (List Key)) (hl:l.length≤1099511627776) (hs: ∀s∈l,s.length≤1099511627776):an C mZ [NS l] (NS l) []:=by
 refine(XD _ _ ?_).run;simp only[bX];refine ah eI ?_;simp only[gT,BT,lV];refine BW (e:=cU) (z:=[TC.sub 5 []]) l (fun i rows=>aa C mZ ai 4 0 (tY (l.map cU) i rows) _) (fun a=>rfl) ?_ ?_
 ·exact Fb _ _ _ _ (ak cW (Rn _ _ _ _ _ ⟨rfl,by trivial⟩))
 ·intro i rows a hi ha hr hn
  refine Fb _ _ _ _ (ah eI ⟨_,c8 ha,_,aoX _ (hs _ (gP ha)),_,hr,_,hr,?_⟩);rw[aG ay];exact hn
def N6 (n:List (List Key)):Prop:=n.length≤1099511627776∧ ∀s∈n,s.length≤1099511627776
def ao6 (l:List (List (List Key))):Prop:=l.length≤1099511627776∧ ∀n∈l,N6 n
def abj (t:Tree):Prop:=t.aE.length≤1099511627776∧ao6 t.nodes
theorem ao7 (n:List (List Key)) (h:N6 n):an C JX [g9 n] (g9 n) []:=(Zj _ _ ⟨_,amW n h.1 h.2,rfl,rfl⟩).run
theorem amX (l:List (List (List Key))) (hl:l.length≤1099511627776) (hs: ∀n∈l,N6 n):an C mX [Aw l] (Aw l) []:=by
 refine(XM _ _ ?_).run;simp only[bX];refine ah eI ?_;simp only[gT,BT,lV];refine BW (e:=aQ) (z:=[TC.sub 1 []]) l (fun i rows=>aa C mX ai 4 0 (ua (l.map aQ) i rows) _) (fun a=>rfl) ?_ ?_
 ·exact Fe _ _ _ _ (ak cW (Rr _ _ _ _ _ ⟨rfl,by trivial⟩))
 ·intro i rows a hi ha hr hn
  refine Fe _ _ _ _ (ah eI ⟨_,c8 ha,_,ao7 _ (hs _ (gP ha)),_,hr,_,hr,?_⟩);rw[aG ay];exact hn
theorem toTree (t:Tree) (h:abj t):an C JO [dW t] (dW t) []:=(Zr _ _ _ ⟨_,ao4 _ h.1,_,amX _ h.2.1 h.2.2,rfl,rfl⟩).run
theorem amY (l:List (List Key)) (hl:l.length≤1099511627776) (hs: ∀s∈l,s.length≤1099511627776):an C m0 [NS l,NS l] (vB true) []:=by
 refine(XV _ _ _ ?_).run;refine ak cW ?_;refine aZ l (fun i=>aa C m0 ai 4 0 (ud (l.map cU) (l.map cU) i) _) ?_ ?_
 ·exact Fg _ _ _ _ (ak cW (RB _ _ _ _ _ ⟨rfl,by trivial⟩))
 ·intro i a hi ha _ _ hn
  refine Fg _ _ _ _ (ah eI ⟨_,c8 ha,_,c8 ha,_,aoY _ (hs _ (gP ha)),ak cW ?_⟩);rw[aG ay];exact hn
theorem ao8 (n:List (List Key)) (h:N6 n):an C JY [g9 n,g9 n] (vB true) []:=(ZH _ _ _ ⟨_,amY n h.1 h.2,by simp⟩).run
theorem amZ (l:List (List (List Key))) (hl:l.length≤1099511627776) (hs: ∀n∈l,N6 n):an C mY [Aw l,Aw l] (vB true) []:=by
 refine(X6 _ _ _ ?_).run;refine ak cW ?_;refine aZ l (fun i=>aa C mY ai 4 0 (ug (l.map aQ) (l.map aQ) i) _) ?_ ?_
 ·exact Fj _ _ _ _ (ak cW (RG _ _ _ _ _ ⟨rfl,by trivial⟩))
 ·intro i a hi ha _ _ hn
  refine Fj _ _ _ _ (ah eI ⟨_,c8 ha,_,c8 ha,_,ao8 _ (hs _ (gP ha)),ak cW ?_⟩);rw[aG ay];exact hn
theorem ao9 (t:Tree) (h:abj t):an C JP [dW t,dW t] (vB true) []:=(ZR _ _ _ _ _ ⟨_,ao5 _ h.1,ak rfl ⟨_,amZ _ h.2.1 h.2.2,by simp⟩⟩).run
structure aeK (p:Pool):Prop where
 t:abj p.t
 aL:p.aL.length≤1099511627776
 cells:p.cells.length≤1099511627776
 au:p.au.length≤1099511627776
theorem acp (p:Pool) (h:aeK p):an C wq [cY p] (cY p) []:=(Zn _ _ _ _ _ _ _ ⟨_,_,toTree p.t h.t,_,aoZ _ h.aL,_,amU _ h.cells,_,ao2 _ h.au,rfl,rfl⟩).run
theorem acq (p:Pool) (h:aeK p):an C wu [cY p,cY p] (vB true) []:=(Z8 _ _ _ _ _ _ _ _ _ _ _ _ _ ⟨_,ao9 p.t h.t,ak rfl ⟨_,ao0 _ h.aL,ak rfl ⟨_,amV _ h.cells,ak rfl ⟨_,ao3 _ h.au,ak rfl cW⟩⟩⟩⟩).run
theorem apa (l:List (Int)) (left:Int) (h0:0≤left∧left≤1048576) (hl:l.length≤140737488355328):an C JS [oz l,vI left] (vI (nB left l.length)) []:=by
 refine(Zc _ _ _ ?_).run;simp only[bX,gT];rw[de ay];unfold nB;simp only[dh,bI]
 by_cases h:left<(l.length:Int)
 ·rw[aI ay,aI h];exact⟨rfl,by trivial⟩
 ·rw[aF ay,aF h];exact⟨rfl,by trivial⟩
theorem apb (l:List (Key)) (left:Int) (h0:0≤left∧left≤1048576) (hl:l.length≤140737488355328):an C JZ [dL l,vI left] (vI (nB left l.length)) []:=by
 refine(ZP _ _ _ ?_).run;simp only[bX,gT];rw[de ay];unfold nB;simp only[dh,bI]
 by_cases h:left<(l.length:Int)
 ·rw[aI ay,aI h];exact⟨rfl,by trivial⟩
 ·rw[aF ay,aF h];exact⟨rfl,by trivial⟩
theorem apc (l:List (Age)) (left:Int) (h0:0≤left∧left≤1048576) (hl:l.length≤140737488355328):an C JN [gx l,vI left] (vI (nB left l.length)) []:=by
 refine(Zq _ _ _ ?_).run;simp only[bX,gT];rw[de ay];unfold nB;simp only[dh,bI]
 by_cases h:left<(l.length:Int)
 ·rw[aI ay,aI h];exact⟨rfl,by trivial⟩
 ·rw[aF ay,aF h];exact⟨rfl,by trivial⟩
theorem am0 (l:List (Cell)) (left:Int) (h0:0≤left∧left≤1048576) (hl:l.length≤140737488355328):an C FY [jw l,vI left] (vI (nB left l.length)) []:=by
 refine(XK _ _ _ ?_).run;simp only[bX,gT];rw[de ay];unfold nB;simp only[dh,bI]
 by_cases h:left<(l.length:Int)
 ·rw[aI ay,aI h];exact⟨rfl,by trivial⟩
 ·rw[aF ay,aF h];exact⟨rfl,by trivial⟩
theorem am1 (l:List (List Key)) (left:Int) (h0:0≤left∧left≤1048576) (hl:l.length≤140737488355328) (hs: ∀s∈l,s.length≤140737488355328):an C jo [NS l,vI left] (vI (nB left (l.length+tot bY l))) []:=by
 refine(Xo _ _ _ ?_).run;simp only[bX,gT];rw[de ay];simp only[dh,bI]
 by_cases h:left<(l.length:Int)
 ·rw[aI ay]
  refine⟨?_,by trivial⟩;unfold nB;rw[aI ay]
 ·rw[aF ay]
  have key: ∀cur:Int,0≤cur∧cur≤1048576→nB cur (tot bY (l.drop 0))=nB left (l.length+tot bY l)→aa C jo av 4 0 (qd (l.map cU) cur ((0:Nat):Int)) (fun x st=>ax C jo av x st fun r fs=>r=vI (nB left (l.length+tot bY l))∧fs=[]):=by
   refine aZ l (fun i=> ∀cur:Int,0≤cur∧cur≤1048576→nB cur (tot bY (l.drop i))=nB left (l.length+tot bY l)→aa C jo av 4 0 (qd (l.map cU) cur i) _) ?_ ?_
   ·intro cur hc he
    refine E5 _ _ _ _ (ak cW (Rb _ _ _ _ _ ⟨?_,by trivial⟩));rw[←he,eu];unfold nB tot;rw[aF ay];simp
   ·intro i a hi ha hd _ hn cur hc he
    rw[hd] at he;simp only[tot] at he;refine E5 _ _ _ _ (ah eI ⟨_,c8 ha,_,apb a cur hc (hs a (gP ha)),?_⟩)
    by_cases hw:cur<(bY a:Int)
    ·refine ah (by simp[nB,bY] at hw ⊢;omega) (Ra _ ⟨?_,by trivial⟩)
     rw[←he];unfold nB;rw[aI ay]
    ·have D0:nB cur (bY a)=cur-bY a:=aF hw
     refine ak (by simp[nB,bY] at hw ⊢;omega) ?_;rw[aG ay];have:=hn (cur-bY a) ay (by rw[←he];unfold nB;split<;>split<;>omega);rw[←D0] at this;exact this
  refine key (left-l.length) ay ?_;simp only[List.drop_zero];unfold nB
  split<;>split<;>omega
theorem agp (n:List (List Key)) (left:Int) (h0:0≤left∧left≤1048576) (hl:n.length≤140737488355328) (hs: ∀s∈n,s.length≤140737488355328):an C JW [g9 n,vI left] (vI (nB left (aP n))) []:=by
 refine(Z0 _ _ _ ⟨_,am1 n left h0 hl hs,?_⟩).run;show aq _ _ _;unfold aP;simp only[dh,bI]
 split
 ·refine⟨?_,by trivial⟩
  unfold nB at*
  split<;>simp_all<;>omega
 ·simp
theorem am2 (l:List (List (List Key))) (left:Int) (h0:0≤left∧left≤1048576) (hl:l.length≤140737488355328) (hs: ∀n∈l,n.length≤140737488355328∧ ∀s∈n,s.length≤140737488355328):an C jn [Aw l,vI left] (vI (nB left (l.length+tot aP l))) []:=by
 refine(Xx _ _ _ ?_).run;simp only[bX,gT];rw[de ay];simp only[dh,bI]
 by_cases h:left<(l.length:Int)
 ·rw[aI ay]
  refine⟨?_,by trivial⟩;unfold nB;rw[aI ay]
 ·rw[aF ay]
  have key: ∀cur:Int,0≤cur∧cur≤1048576→nB cur (tot aP (l.drop 0))=nB left (l.length+tot aP l)→aa C jn av 4 0 (qf (l.map aQ) cur ((0:Nat):Int)) (fun x st=>ax C jn av x st fun r fs=>r=vI (nB left (l.length+tot aP l))∧fs=[]):=by
   refine aZ l (fun i=> ∀cur:Int,0≤cur∧cur≤1048576→nB cur (tot aP (l.drop i))=nB left (l.length+tot aP l)→aa C jn av 4 0 (qf (l.map aQ) cur i) _) ?_ ?_
   ·intro cur hc he
    refine E7 _ _ _ _ (ak cW (Rf _ _ _ _ _ ⟨?_,by trivial⟩));rw[←he,eu];unfold nB tot;rw[aF ay];simp
   ·intro i a hi ha hd _ hn cur hc he
    rw[hd] at he;simp only[tot] at he;refine E7 _ _ _ _ (ah eI ⟨_,c8 ha,_,agp a cur hc (hs a (gP ha)).1 (hs a (gP ha)).2,?_⟩)
    by_cases hw:cur<(aP a:Int)
    ·refine ah (by simp[nB,aP] at hw ⊢;omega) (Re _ ⟨?_,by trivial⟩)
     rw[←he];unfold nB;rw[aI ay]
    ·have D0:nB cur (aP a)=cur-aP a:=aF hw
     refine ak (by simp[nB,aP] at hw ⊢;omega) ?_;rw[aG ay];have:=hn (cur-aP a) ay (by rw[←he];unfold nB;split<;>split<;>omega);rw[←D0] at this;exact this
  refine key (left-l.length) ay ?_;simp only[List.drop_zero];unfold nB
  split<;>split<;>omega
theorem Vu {a:Int} {n m:Nat} (h: ¬nB a n<0) (h0:0≤a):nB (nB a n) m=nB a (n+m):=by unfold nB at*;split<;>split<;>split<;>simp_all<;>omega
theorem acr {a:Int} {n:Nat} (h: ¬nB a n<0) (h0:0≤a∧a≤1048576):0≤nB a n∧nB a n≤1048576:=by unfold nB at*;split<;>simp_all<;>omega
theorem Vv {a:Int} {n m:Nat} (h:nB a n<0) (h0:0≤a):nB a (n+m)= -1:=by unfold nB at*;split<;>simp_all<;>omega
structure akM (t:Tree):Prop where
 aE:t.aE.length≤140737488355328
 nodes:t.nodes.length≤140737488355328
 node: ∀n∈t.nodes,n.length≤140737488355328∧ ∀s∈n,s.length≤140737488355328
theorem agq (t:Tree) (left:Int) (h0:0≤left∧left≤1048576) (h:akM t):an C JM [dW t,vI left] (vI (nB left (cG t))) []:=by
 refine(Y4 _ _ _ _ ⟨_,apa _ left h0 h.aE,?_⟩).run;unfold cG wR;refine sV (fun hb=> ?_) fun hb=>⟨_,am2 _ _ (acr (by simpa using hb) h0) h.nodes h.node,?_⟩
 ·rw[Vv (by simpa using hb) h0.1];exact⟨rfl,by trivial⟩
 ·have hb: ¬nB left t.aE.length<0:=by simpa using hb
  rw[Vu hb h0.1];refine sV (fun hc=> ?_) fun hc=>⟨rfl,by trivial⟩;refine⟨?_,by trivial⟩
  have hc:nB left (t.aE.length+(t.nodes.length+tot aP t.nodes))<0:=by simpa using hc
  unfold nB at*
  split<;>simp_all<;>omega
theorem aik (s:ByteArray) (a z:Int) (f:Bool) (left:Int) (h0:0≤left∧left≤1048576) (hl:s.size≤140737488355328):an C Ms [.ag [iS s,iI a,iI z,iB f],vI left] (vI (nB left s.size)) []:=by
 refine(acQ _ _ _ _ _ _ ?_).run;simp only[Mb,gT];rw[de ay];unfold nB;simp only[dh,bI]
 by_cases h:left<(s.size:Int)
 ·rw[aI ay,aI h];exact⟨rfl,by trivial⟩
 ·rw[aF ay,aF h];exact⟨rfl,by trivial⟩
theorem apd (l:List (Vol)) (left:Int) (h0:0≤left∧left≤1048576) (hl:l.length≤140737488355328) (hs: ∀v∈l,v.name.size≤140737488355328):an C ki [qR l,vI left] (vI (nB left (l.length+tot p8 l))) []:=by
 refine(Z9 _ _ _ ?_).run;simp only[bX,gT];rw[de ay];simp only[dh,bI]
 by_cases h:left<(l.length:Int)
 ·rw[aI ay]
  refine⟨?_,by trivial⟩;unfold nB;rw[aI ay]
 ·rw[aF ay]
  have key: ∀cur:Int,0≤cur∧cur≤1048576→nB cur (tot p8 (l.drop 0))=nB left (l.length+tot p8 l)→aa C ki av 4 0 (rA (l.map cg) cur ((0:Nat):Int)) (fun x st=>ax C ki av x st fun r fs=>r=vI (nB left (l.length+tot p8 l))∧fs=[]):=by
   refine aZ l (fun i=> ∀cur:Int,0≤cur∧cur≤1048576→nB cur (tot p8 (l.drop i))=nB left (l.length+tot p8 l)→aa C ki av 4 0 (rA (l.map cg) cur i) _) ?_ ?_
   ·intro cur hc he
    refine IB _ _ _ _ (ak cW (UD _ _ _ _ _ ⟨?_,by trivial⟩));rw[←he,eu];unfold nB tot;rw[aF ay];simp
   ·intro i a hi ha hd _ hn cur hc he
    rw[hd] at he;simp only[tot] at he;refine IB _ _ _ _ (ah eI ⟨_,_,_,_,c8 ha,_,aik _ _ _ _ cur hc (hs a (gP ha)),?_⟩)
    by_cases hw:cur<(p8 a:Int)
    ·refine ah (by simp[nB,p8] at hw ⊢;omega) (UC _ ⟨?_,by trivial⟩)
     rw[←he];unfold nB;rw[aI ay]
    ·have D0:nB cur (p8 a)=cur-p8 a:=aF hw
     refine ak (by simp[nB,p8] at hw ⊢;omega) ?_;rw[aG ay];have:=hn (cur-p8 a) ay (by rw[←he];unfold nB;split<;>split<;>omega);rw[←D0] at this;exact this
  refine key (left-l.length) ay ?_;simp only[List.drop_zero];unfold nB
  split<;>split<;>omega
structure aht (p:Pool):Prop where
 t:akM p.t
 aL:p.aL.length≤140737488355328
 cells:p.cells.length≤140737488355328
 au:p.au.length≤140737488355328
 vol: ∀v∈p.au,v.name.size≤140737488355328
 siz: ∀v∈p.au,v.size≤9223372036854775807
theorem agr (p:Pool) (left:Int) (h0:0≤left∧left≤1048576) (h:aht p):an C JL [cY p,vI left] (vI (nB left (aJ p))) []:=by
 refine(Z7 _ _ _ _ _ _ _ _ ⟨_,agq p.t left h0 h.t,?_⟩).run;unfold aJ DG;refine sV (fun hb=> ?_) fun hb=>⟨_,apc _ _ (acr (by simpa using hb) h0) h.aL,?_⟩
 ·rw[nq,nq,Vv (by simpa using hb) h0.1];exact⟨rfl,by trivial⟩
 rw[Vu (by simpa using hb) h0.1];refine sV (fun hb=> ?_) fun hb=>⟨_,am0 _ _ (acr (by simpa using hb) h0) h.cells,?_⟩
 ·rw[nq,Vv (by simpa using hb) h0.1];exact⟨rfl,by trivial⟩
 rw[Vu (by simpa using hb) h0.1];refine sV (fun hb=> ?_) fun hb=>⟨_,apd _ _ (acr (by simpa using hb) h0) h.au h.vol,?_⟩
 ·rw[Vv (by simpa using hb) h0.1];exact⟨rfl,by trivial⟩
 rw[Vu (by simpa using hb) h0.1];refine sV (fun hc=> ?_) fun hc=>⟨rfl,by trivial⟩;refine⟨?_,by trivial⟩
 have hc:nB left (cG p.t+p.aL.length+p.cells.length+(p.au.length+tot p8 p.au))<0:=by simpa using hc
 unfold nB at*
 split<;>simp_all<;>omega
theorem akN (k:Int) (s t:ByteArray) (a b left:Int) (h0:0≤left∧left≤1048576) (hs:s.size≤140737488355328) (ht:t.size≤140737488355328):an C P4 [.ag [iI k,iS s,iS t,iI a,iI b],vI left] (vI (nB left (s.size+t.size))) []:=by
 refine(ae5 _ _ _ _ _ _ _ ?_).run;simp only[Mb,gT];rw[de (a:=left) ay,de ay];unfold nB;simp only[dh,bI]
 split
 ·rw[aI ay];exact⟨rfl,by trivial⟩
 ·split
  ·rw[aI ay];exact⟨rfl,by trivial⟩
  ·rw[aF ay];rw[show left-(s.size:Int)-(t.size:Int)=left-((s.size+t.size:Nat):Int) by omega];exact⟨rfl,by trivial⟩
theorem aqF (l:List (Av)) (left:Int) (h0:0≤left∧left≤1048576) (hl:l.length≤140737488355328) (hs: ∀o∈l,o.name.size≤140737488355328∧o.to.size≤140737488355328):an C mB [Wk l,vI left] (vI (nB left (l.length+tot Lb l))) []:=by
 refine(acO _ _ _ ?_).run;simp only[bX,gT];rw[de ay];simp only[dh,bI]
 by_cases h:left<(l.length:Int)
 ·rw[aI ay]
  refine⟨?_,by trivial⟩;unfold nB;rw[aI ay]
 ·rw[aF ay]
  have key: ∀cur:Int,0≤cur∧cur≤1048576→nB cur (tot Lb (l.drop 0))=nB left (l.length+tot Lb l)→aa C mB av 4 0 (tE (l.map DF) cur ((0:Nat):Int)) (fun x st=>ax C mB av x st fun r fs=>r=vI (nB left (l.length+tot Lb l))∧fs=[]):=by
   refine aZ l (fun i=> ∀cur:Int,0≤cur∧cur≤1048576→nB cur (tot Lb (l.drop i))=nB left (l.length+tot Lb l)→aa C mB av 4 0 (tE (l.map DF) cur i) _) ?_ ?_
   ·intro cur hc he
    refine Kz _ _ _ _ (ak cW (XH _ _ _ _ _ ⟨?_,by trivial⟩));rw[←he,eu];unfold nB tot;rw[aF ay];simp
   ·intro i a hi ha hd _ hn cur hc he
    rw[hd] at he;simp only[tot] at he;refine Kz _ _ _ _ (ah eI ⟨_,_,_,_,_,c8 ha,_,akN _ _ _ _ _ cur hc (hs a (gP ha)).1 (hs a (gP ha)).2,?_⟩)
    by_cases hw:cur<(Lb a:Int)
    ·refine ah (by simp[nB,Lb] at hw ⊢;omega) (XG _ ⟨?_,by trivial⟩)
     rw[←he];unfold nB;rw[aI ay]
    ·have D0:nB cur (Lb a)=cur-Lb a:=aF hw
     refine ak (by simp[nB,Lb] at hw ⊢;omega) ?_;rw[aG ay];have:=hn (cur-Lb a) ay (by rw[←he];unfold nB;split<;>split<;>omega);rw[←D0] at this;exact this
  refine key (left-l.length) ay ?_;simp only[List.drop_zero];unfold nB
  split<;>split<;>omega
theorem nG (a b c:Int):an C cL [vI a,vI b,vI c] (vB (iA a b c)) []:=by
 refine(aad _ _ _ _ ?_).run;simp only[gj,bI,iA]
 split<;>simp_all<;>omega
theorem tj (a b c:Int):an C dO [vI a,vI b,vI c] (vB (iA a b c)) []:=by
 refine(ae3 _ _ _ _ ?_).run;simp only[gj,bI,iA]
 split<;>simp_all<;>omega
@[simp] theorem w7 (a b c:Int) (q:Bool):an C cL [vI a,vI b,vI c] (vB q) []↔q=iA a b c:=vL (nG a b c)
@[simp] theorem DR (a b c:Int) (q:Bool):an C dO [vI a,vI b,vI c] (vB q) []↔q=iA a b c:=vL (tj a b c)
theorem WL (b a k c g:Int):an C AF [.ag [iI b,iI a,iI k,iI c,iI g]] (vB (jU ⟨b,a,k,c,g⟩)) []:=by
 refine(acZ _ _ _ _ _ _ ?_).run;simp only[w7,dy,jU,bD,bT,bI]
 cases iA b 0 15<;>cases iA a 1 60<;>cases iA k 0 2<;>by_cases h:k=1<;>by_cases h1:c=0<;>by_cases h2:g=0<;>cases iA c 0 23<;>simp_all
theorem WM (b a k c g:Int):an C AE [.ag [iI b,iI a,iI k,iI c,iI g]] (vB (jU ⟨b,a,k,c,g⟩)) []:=by
 refine(acH _ _ _ _ _ _ ?_).run;simp only[DR,dy,jU,bD,bT,bI]
 cases iA b 0 15<;>cases iA a 1 60<;>cases iA k 0 2<;>by_cases h:k=1<;>by_cases h1:c=0<;>by_cases h2:g=0<;>cases iA c 0 23<;>simp_all
@[simp] theorem N7 (b a k c g:Int) (q:Bool):an C AF [.ag [iI b,iI a,iI k,iI c,iI g]] (vB q) []↔q=jU ⟨b,a,k,c,g⟩:=vL (WL b a k c g)
@[simp] theorem N8 (b a k c g:Int) (q:Bool):an C AE [.ag [iI b,iI a,iI k,iI c,iI g]] (vB q) []↔q=jU ⟨b,a,k,c,g⟩:=vL (WM b a k c g)
@[simp] theorem J0 (b a k c g b' a' k' c' g':Int) (q:Bool):an C zW [.ag [iI b,iI a,iI k,iI c,iI g],.ag [iI b',iI a',iI k',iI c',iI g']] (vB q) []↔q=fR ⟨b,a,k,c,g⟩ ⟨b',a',k',c',g'⟩:=vL (by
  refine(XE _ _ _ _ _ _ _ _ _ _ _ ?_).run;simp only[dh,bD,bI,fR]
  by_cases h1:b<b'<;>by_cases h2:b=b'<;>simp_all)
@[simp] theorem J1 (b a k c g b' a' k' c' g':Int) (q:Bool):an C zU [.ag [iI b,iI a,iI k,iI c,iI g],.ag [iI b',iI a',iI k',iI c',iI g']] (vB q) []↔q=fR ⟨b,a,k,c,g⟩ ⟨b',a',k',c',g'⟩:=vL (by
  refine(Xm _ _ _ _ _ _ _ _ _ _ _ ?_).run;simp only[dh,bD,bT,bI,fR]
  by_cases h2:b=b'<;>simp_all)
@[simp] theorem SA (b a k c g b' a' k' c' g':Int) (q:Bool):an C uT [.ag [iI b,iI a,iI k,iI c,iI g],.ag [iI b',iI a',iI k',iI c',iI g']] (vB q) []↔q=p9 ⟨b,a,k,c,g⟩ ⟨b',a',k',c',g'⟩:=vL (by
  refine(Uz _ _ _ _ _ _ _ _ _ _ _ ?_).run;simp only[dh,bD,bT,bI,p9]
  by_cases h2:b=b'<;>simp_all)
@[simp] theorem SB (b a k c g b' a' k' c' g':Int) (q:Bool):an C uS [.ag [iI b,iI a,iI k,iI c,iI g],.ag [iI b',iI a',iI k',iI c',iI g']] (vB q) []↔q=p9 ⟨b,a,k,c,g⟩ ⟨b',a',k',c',g'⟩:=vL (by
  refine(T4 _ _ _ _ _ _ _ _ _ _ _ ?_).run;simp only[dh,bD,bT,bI,p9]
  by_cases h2:b=b'<;>simp_all)
theorem qU (l:List Key) (x:Key) (hl:l.length≤1073741824):an C cw [dL l,uE x] (dL (iE l x)) []:=by
 refine(ZC _ _ _ _ _ _ _ ?_).run
 have key: ∀(put:Bool) (acc:List Key),acc.length+(l.drop 0).length≤l.length+(if put then 1 else 0)→acc++iD x put (l.drop 0)=iE l x→aa C cw av 4 0 (iy (l.map bP) put ((0:Nat):Int) x.b x.a x.k x.c x.g (acc.map bP)) (fun u st=>ax C cw av u st fun r fs=>r=dL (iE l x)∧fs=[]):=by
  refine aZ l (fun i=> ∀(put:Bool) (acc:List Key),acc.length+(l.drop i).length≤l.length+(if put then 1 else 0)→acc++iD x put (l.drop i)=iE l x→aa C cw av 4 0 (iy (l.map bP) put i x.b x.a x.k x.c x.g (acc.map bP)) _) ?_ ?_
  ·intro put acc hb he
   refine Ie _ _ _ _ _ _ _ _ _ _ (ak cW (TU _ _ _ _ _ _ _ _ _ _ _ ?_));simp only[BX,eo,qB,dx,bT,cQ,bX]
   have hb2:acc.length≤l.length+1:=by simp at hb;split at hb<;>omega
   rw[cO ay];rw[eu] at he
   cases put<;>simp[iD] at he ⊢ <;>rw[←he]<;>simp
  ·intro i a hi ha hd _ hn put acc hb he
   rw[hd] at hb he;simp only[fW] at hb
   have hb':acc.length+(List.drop (i+1) l).length+1≤l.length+1:=by split at hb<;>omega
   refine Ie _ _ _ _ _ _ _ _ _ _ (ah eI ?_);simp only[lJ,aH,ha,aY,dm,J1,SB,dy,bT,eo,BX,qB,dx,cQ,bX,cF,gK];simp (disch:=omega) only[cO,aG,kY];simp only[iD] at he
   cases put<;>cases hk:fR a x<;>cases hs:p9 a x<;>simp only[kY,lI]<;>simp[hk,hs] at he hb<;>exact hn _ _ (by simp at hb ⊢;omega) (by simpa using he)
 exact key false [] cW rfl
@[simp] theorem YE (l:List Key) (hl:l.length≤1073741824) (b a k c g:Int) (q:RR):an C cw [.c (.sub 5 (l.map bP)),.ag [iI b,iI a,iI k,iI c,iI g]] (.c (.sub 5 q)) []↔q=(iE l ⟨b,a,k,c,g⟩).map bP:=aed (qU l ⟨b,a,k,c,g⟩ hl)
theorem va (l:List Key) (x:Key) (hl:l.length≤1073741824):an C eC [dL l,uE x] (dL (iE l x)) []:=by
 refine(aas _ _ _ _ _ _ _ ?_).run
 have key: ∀(put:Bool) (acc:List Key),acc.length+(l.drop 0).length≤l.length+(if put then 1 else 0)→acc++iD x put (l.drop 0)=iE l x→aa C eC av 4 0 (iz put (l.map bP) ((0:Nat):Int) x.b x.a x.k x.c x.g (acc.map bP)) (fun u st=>ax C eC av u st fun r fs=>r=dL (iE l x)∧fs=[]):=by
  refine aZ l (fun i=> ∀(put:Bool) (acc:List Key),acc.length+(l.drop i).length≤l.length+(if put then 1 else 0)→acc++iD x put (l.drop i)=iE l x→aa C eC av 4 0 (iz put (l.map bP) i x.b x.a x.k x.c x.g (acc.map bP)) _) ?_ ?_
  ·intro put acc hb he
   refine IU _ _ _ _ _ _ _ _ _ _ (ak cW (U6 _ _ _ _ _ _ _ _ _ _ _ _ ?_));simp only[BX,eo,qB,dx,bT,cQ,bX]
   have hb2:acc.length≤l.length+1:=by simp at hb;split at hb<;>omega
   rw[cO ay];rw[eu] at he
   cases put<;>simp[iD] at he ⊢ <;>rw[←he]<;>simp
  ·intro i a hi ha hd _ hn put acc hb he
   rw[hd] at hb he;simp only[fW] at hb
   have hb':acc.length+(List.drop (i+1) l).length+1≤l.length+1:=by split at hb<;>omega
   refine IU _ _ _ _ _ _ _ _ _ _ (ah eI ?_);simp only[lJ,aH,ha,aY,dm,J0,SA,dy,bT,eo,BX,qB,dx,cQ,bX,cF,gK];simp (disch:=omega) only[cO,aG,kY];simp only[iD] at he
   cases put<;>cases hk:fR a x<;>cases hs:p9 a x<;>simp only[kY,lI]<;>simp[hk,hs] at he hb<;>exact hn _ _ (by simp at hb ⊢;omega) (by simpa using he)
 exact key false [] cW rfl
@[simp] theorem YF (l:List Key) (hl:l.length≤1073741824) (b a k c g:Int) (q:RR):an C eC [.c (.sub 5 (l.map bP)),.ag [iI b,iI a,iI k,iI c,iI g]] (.c (.sub 5 q)) []↔q=(iE l ⟨b,a,k,c,g⟩).map bP:=aed (va l ⟨b,a,k,c,g⟩ hl)
theorem Mz (old new:List Key) (hl:old.length+new.length≤1073741824):an C gq [dL old,dL new] (dL (dN old new)) []:=by
 refine(RA _ _ _ ?_).run;rw[m8,cO eI];refine ah rfl ?_
 have key: ∀(acc:List Key),acc.length+(new.drop 0).length≤old.length+new.length→dN acc (new.drop 0)=dN old new→aa C gq ai 4 0 (nJ (new.map bP) ((0:Nat):Int) (acc.map bP)) (fun u st=>ax C gq ai u st fun r fs=>r=(dL (dN old new))∧fs=[]):=by
  refine aZ new (fun i=> ∀(acc:List Key),acc.length+(new.drop i).length≤old.length+new.length→dN acc (new.drop i)=dN old new→aa C gq ai 4 0 (nJ (new.map bP) i (acc.map bP)) (fun u st=>ax C gq ai u st fun r fs=>r=(dL (dN old new))∧fs=[])) ?_ ?_
  ·intro acc h0 h1
   refine Bo _ _ _ _ (ak cW (M9 _ _ _ _ _ ?_));rw[eu] at h1;rw[←h1];exact⟨rfl,by trivial⟩
  ·intro i a hi ha hd ht hn acc h0 h1
   refine Bo _ _ _ _ (ah eI ?_);rw[hd] at h0 h1;simp only[fW] at h0;simp only[lJ,YE acc ay,aH,ha,aY,dm,dy,bT,fz,g6,eo,fA,dQ,fC,fD,g7,cQ,natAdd,bX,cF,gK,dx,jT];rw[aG ay];have h2:=sY acc a;exact hn _ ay (by rw[←h1];rfl)
 exact key old cW rfl
theorem Qg (old new:List Key) (hl:old.length+new.length≤1073741824) (q:RR):an C gq [dL old,dL new] (.c (.sub 5 q)) []↔q=(dN old new).map bP:=aed (Mz old new hl)
theorem DS (l:List Key) (hl:l.length≤1073741824):an C eY [dL l] (dL (r6 l)) []:=by
 refine(aeY _ _ ?_).run
 have key: ∀(acc:List Key),acc.length+(l.drop 0).length≤l.length→acc++r6 (l.drop 0)=r6 l→aa C eY ai 4 0 (rO (l.map bP) ((0:Nat):Int) (acc.map bP)) (fun u st=>ax C eY ai u st fun r fs=>r=(dL (r6 l))∧fs=[]):=by
  refine aZ l (fun i=> ∀(acc:List Key),acc.length+(l.drop i).length≤l.length→acc++r6 (l.drop i)=r6 l→aa C eY ai 4 0 (rO (l.map bP) i (acc.map bP)) (fun u st=>ax C eY ai u st fun r fs=>r=(dL (r6 l))∧fs=[])) ?_ ?_
  ·intro acc h0 h1
   refine LO _ _ _ _ (ak cW (Zg _ _ _ _ _ ?_));rw[eu] at h1;simp[r6] at h1;simp[r6,h1]
  ·intro i a hi ha hd ht hn acc h0 h1
   refine LO _ _ _ _ (ah eI ?_);rw[hd] at h0 h1;simp only[fW] at h0;simp only[lJ,BX,qB,bD,bI,aH,ha,aY,dm,dy,bT,fz,g6,eo,fA,dQ,fC,fD,g7,cQ,natAdd,bX,cF,gK,dx,jT];simp (disch:=omega) only[cO,aG,kY]
   by_cases hk:a.k=0
   ·rw[aI hk]
    exact hn _ ay (by rw[←h1];simp[r6,hk])
   ·rw[aF hk]
    exact hn (acc++[a]) (by simp only[cF,gK];omega) (by rw[←h1];simp[r6,hk])
 exact key [] cW rfl
theorem Cb (n:List (List Key)) (hb:n.length≤1073741824) (hl:tot bY n≤1073741824):an C bu [g9 n] (dL (aU n)) []:=by
 refine(Ur _ _ ?_).run
 have key: ∀(acc:List Key),acc.length+tot bY (n.drop 0)≤tot bY n→(n.drop 0).foldl dN acc=Ab n→aa C bu ai 4 0 (o8 ((0:Nat):Int) (n.map cU) (acc.map bP)) (fun u st=>ax C bu ai u st fun r fs=>r=(dL (aU n))∧fs=[]):=by
  refine aZ n (fun i=> ∀(acc:List Key),acc.length+tot bY (n.drop i)≤tot bY n→(n.drop i).foldl dN acc=Ab n→aa C bu ai 4 0 (o8 i (n.map cU) (acc.map bP)) (fun u st=>ax C bu ai u st fun r fs=>r=(dL (aU n))∧fs=[])) ?_ ?_
  ·intro acc h0 h1
   refine Dk _ _ _ _ (ak cW (O2 _ _ _ _ _ ?_));rw[eu] at h0 h1;simp only[List.foldl_nil] at h1;refine⟨_,DS acc ay,?_⟩;rw[h1];exact⟨rfl,by trivial⟩
  ·intro i a hi ha hd ht hn acc h0 h1
   refine Dk _ _ _ _ (ah eI ?_);rw[hd] at h0 h1;simp only[tot,bY] at h0;simp only[xS,Qg acc a ay,aH,ha,aY,dm,dy,bT,fz,g6,eo,fA,dQ,fC,fD,g7,cQ,natAdd,bX,cF,gK,dx,jT];rw[aG ay];have h2:=ya a acc;exact hn _ ay (by rw[←h1];rfl)
 exact key [] cW rfl
theorem ga (n:List (List Key)) (hb:n.length≤1073741824) (hl:tot bY n≤1073741824) (q:RR):an C bu [.ag [.sub 1 (n.map cU)]] (.c (.sub 5 q)) []↔q=(aU n).map bP:=aed (Cb n hb hl)
theorem j5 (t:Tree) (hl:cG t≤1073741824):an C ez [dW t] (dL (aD t)) []:=by
 refine(Ul _ _ _ ?_).run
 have key: ∀(acc:List Key),acc.length+tot aP (t.nodes.drop 0)≤tot aP t.nodes→acc++(t.nodes.drop 0).flatMap aU=aD t→aa C ez ai 4 0 (o5 ((0:Nat):Int) (t.aE.map bO) (t.nodes.map aQ) (acc.map bP)) (fun u st=>ax C ez ai u st fun r fs=>r=(dL (aD t))∧fs=[]):=by
  refine aZ t.nodes (fun i=> ∀(acc:List Key),acc.length+tot aP (t.nodes.drop i)≤tot aP t.nodes→acc++(t.nodes.drop i).flatMap aU=aD t→aa C ez ai 4 0 (o5 i (t.aE.map bO) (t.nodes.map aQ) (acc.map bP)) (fun u st=>ax C ez ai u st fun r fs=>r=(dL (aD t))∧fs=[])) ?_ ?_
  ·intro acc h0 h1
   refine Dg _ _ _ _ _ (ak cW (OV _ _ _ _ _ _ ?_));rw[eu] at h1;simp at h1;simp[h1]
  ·intro i a hi ha hd ht hn acc h0 h1
   refine Dg _ _ _ _ _ (ah (by have:=hi;unfold cG wR at hl;simp;omega) ?_);have hz:a.length+tot bY a≤tot aP t.nodes:=oB (w:=aP) ha;rw[hd] at h0 h1;simp only[tot,aP] at h0;unfold cG wR at hl;have h2:=dn a;simp only[ahj,tM,ga a ay ay,m8,aH,ha,aY,dm,dy,bT,fz,g6,eo,fA,dQ,fC,fD,g7,cQ,natAdd,bX,cF,gK,dx,jT];rw[cO ay,aG ay];refine ah rfl ?_;rw[←uv];exact hn _ eI (by rw[←h1];simp)
 exact key [] cW rfl
theorem SC (t:Tree) (b:Int) (hl:cG t≤1073741824):an C jN [dW t,vI b] (dL (iO t b)) []:=by
 refine(aau _ _ _ _ ?_).run;refine⟨_,j5 t hl,?_⟩
 have key: ∀(acc:List Key),acc.length+((aD t).drop 0).length≤(aD t).length→acc++((aD t).drop 0).filter (fun k=>decide (k.b=b))=iO t b→aa C jN av 4 0 (oh b ((0:Nat):Int) (acc.map bP) ((aD t).map bP)) (fun u st=>ax C jN av u st fun r fs=>r=(dL (iO t b))∧fs=[]):=by
  refine aZ (aD t) (fun i=> ∀(acc:List Key),acc.length+((aD t).drop i).length≤(aD t).length→acc++((aD t).drop i).filter (fun k=>decide (k.b=b))=iO t b→aa C jN av 4 0 (oh b i (acc.map bP) ((aD t).map bP)) (fun u st=>ax C jN av u st fun r fs=>r=(dL (iO t b))∧fs=[])) ?_ ?_
  ·intro acc h0 h1
   refine IW _ _ _ _ _ (ak cW (U9 _ _ _ _ _ _ ?_));rw[eu] at h1;simp at h1;simp[h1]
  ·intro i a hi ha hd ht hn acc h0 h1
   refine IW _ _ _ _ _ (ah eI ?_);rw[hd] at h0 h1;simp only[fW] at h0;have hz:=fh t;simp only[lJ,BX,qB,bD,bI,aH,ha,aY,dm,dy,bT,fz,g6,eo,fA,dQ,fC,fD,g7,cQ,natAdd,bX,cF,gK,dx,jT];simp (disch:=omega) only[cO,aG,kY]
   by_cases hk:a.b=b
   ·rw[aI hk]
    exact hn (acc++[a]) (by simp only[cF,gK];omega) (by rw[←h1];simp[hk])
   ·rw[aF hk]
    exact hn _ ay (by rw[←h1];simp[hk])
 exact key [] cW rfl
theorem oQ (l:List Key) (hl:l.length≤2147483648):an C rL [dL l] (dL l) []:=by
 refine(Tr _ _ ?_).run;rw[m8,cO eI];exact⟨rfl,by trivial⟩
theorem MA (old new:List Key) (hl:old.length+new.length≤1073741824):an C gr [dL old,dL new] (dL (dN old new)) []:=by
 refine(Q9 _ _ _ ?_).run;refine⟨_,oQ old ay,?_⟩
 have key: ∀(acc:List Key),acc.length+(new.drop 0).length≤old.length+new.length→dN acc (new.drop 0)=dN old new→aa C gr ai 4 0 (nI (new.map bP) ((0:Nat):Int) (acc.map bP)) (fun u st=>ax C gr ai u st fun r fs=>r=(dL (dN old new))∧fs=[]):=by
  refine aZ new (fun i=> ∀(acc:List Key),acc.length+(new.drop i).length≤old.length+new.length→dN acc (new.drop i)=dN old new→aa C gr ai 4 0 (nI (new.map bP) i (acc.map bP)) (fun u st=>ax C gr ai u st fun r fs=>r=(dL (dN old new))∧fs=[])) ?_ ?_
  ·intro acc h0 h1
   refine Bh _ _ _ _ (ak cW (MZ _ _ _ _ _ _ ?_));rw[eu] at h1;rw[←h1];exact⟨rfl,by trivial⟩
  ·intro i a hi ha hd ht hn acc h0 h1
   refine Bh _ _ _ _ (ah eI ?_);rw[hd] at h0 h1;simp only[fW] at h0;simp only[lJ,YF acc ay,aH,ha,aY,dm,dy,bT,fz,g6,eo,fA,dQ,fC,fD,g7,cQ,natAdd,bX,cF,gK,dx,jT];rw[aG ay];have h2:=sY acc a;exact hn _ ay (by rw[←h1];rfl)
 exact key old cW rfl
theorem Qh (old new:List Key) (hl:old.length+new.length≤1073741824) (q:RR):an C gr [dL old,dL new] (.c (.sub 5 q)) []↔q=(dN old new).map bP:=aed (MA old new hl)
theorem LF (l:List Key) (hl:l.length≤1073741824):an C mh [dL l] (dL (r6 l)) []:=by
 refine(ae4 _ _ ?_).run
 have key: ∀(acc:List Key),acc.length+(l.drop 0).length≤l.length→acc++r6 (l.drop 0)=r6 l→aa C mh ai 4 0 (rP (l.map bP) ((0:Nat):Int) (acc.map bP)) (fun u st=>ax C mh ai u st fun r fs=>r=(dL (r6 l))∧fs=[]):=by
  refine aZ l (fun i=> ∀(acc:List Key),acc.length+(l.drop i).length≤l.length→acc++r6 (l.drop i)=r6 l→aa C mh ai 4 0 (rP (l.map bP) i (acc.map bP)) (fun u st=>ax C mh ai u st fun r fs=>r=(dL (r6 l))∧fs=[])) ?_ ?_
  ·intro acc h0 h1
   refine LP _ _ _ _ (ak cW (ZL _ _ _ _ _ _ ?_));rw[eu] at h1;simp[r6] at h1;simp[r6,h1]
  ·intro i a hi ha hd ht hn acc h0 h1
   refine LP _ _ _ _ (ah eI ?_);rw[hd] at h0 h1;simp only[fW] at h0;simp only[lJ,BX,qB,bD,bI,aH,ha,aY,dm,dy,bT,fz,g6,eo,fA,dQ,fC,fD,g7,cQ,natAdd,bX,cF,gK,dx,jT];simp (disch:=omega) only[cO,aG,kY]
   by_cases hk:a.k=0
   ·rw[aI hk]
    exact hn _ ay (by rw[←h1];simp[r6,hk])
   ·rw[aF hk]
    exact hn (acc++[a]) (by simp only[cF,gK];omega) (by rw[←h1];simp[r6,hk])
 exact key [] cW rfl
theorem N9 (n:List (List Key)) (hb:n.length≤1073741824) (hl:tot bY n≤1073741824):an C dj [g9 n] (dL (aU n)) []:=by
 refine(Us _ _ ?_).run
 have key: ∀(acc:List Key),acc.length+tot bY (n.drop 0)≤tot bY n→(n.drop 0).foldl dN acc=Ab n→aa C dj ai 4 0 (o9 (n.map cU) ((0:Nat):Int) (acc.map bP)) (fun u st=>ax C dj ai u st fun r fs=>r=(dL (aU n))∧fs=[]):=by
  refine aZ n (fun i=> ∀(acc:List Key),acc.length+tot bY (n.drop i)≤tot bY n→(n.drop i).foldl dN acc=Ab n→aa C dj ai 4 0 (o9 (n.map cU) i (acc.map bP)) (fun u st=>ax C dj ai u st fun r fs=>r=(dL (aU n))∧fs=[])) ?_ ?_
  ·intro acc h0 h1
   refine Dl _ _ _ _ (ak cW (O3 _ _ _ _ _ _ ?_));rw[eu] at h0 h1;simp only[List.foldl_nil] at h1;refine⟨_,LF acc ay,?_⟩;rw[h1];exact⟨rfl,by trivial⟩
  ·intro i a hi ha hd ht hn acc h0 h1
   refine Dl _ _ _ _ (ah eI ?_);rw[hd] at h0 h1;simp only[tot,bY] at h0;simp only[xS,Qh acc a ay,aH,ha,aY,dm,dy,bT,fz,g6,eo,fA,dQ,fC,fD,g7,cQ,natAdd,bX,cF,gK,dx,jT];rw[aG ay];have h2:=ya a acc;exact hn _ ay (by rw[←h1];rfl)
 exact key [] cW rfl
theorem ku (n:List (List Key)) (hb:n.length≤1073741824) (hl:tot bY n≤1073741824) (q:RR):an C dj [.ag [.sub 1 (n.map cU)]] (.c (.sub 5 q)) []↔q=(aU n).map bP:=aed (N9 n hb hl)
theorem j6 (t:Tree) (hl:cG t≤1073741824):an C fy [dW t] (dL (aD t)) []:=by
 refine(TH _ _ _ ?_).run
 have key: ∀(acc:List Key),acc.length+tot aP (t.nodes.drop 0)≤tot aP t.nodes→acc++(t.nodes.drop 0).flatMap aU=aD t→aa C fy ai 4 0 (oV (t.nodes.map aQ) ((0:Nat):Int) (acc.map bP)) (fun u st=>ax C fy ai u st fun r fs=>r=(dL (aD t))∧fs=[]):=by
  refine aZ t.nodes (fun i=> ∀(acc:List Key),acc.length+tot aP (t.nodes.drop i)≤tot aP t.nodes→acc++(t.nodes.drop i).flatMap aU=aD t→aa C fy ai 4 0 (oV (t.nodes.map aQ) i (acc.map bP)) (fun u st=>ax C fy ai u st fun r fs=>r=(dL (aD t))∧fs=[])) ?_ ?_
  ·intro acc h0 h1
   refine C7 _ _ _ _ (ak cW (OH _ _ _ _ _ _ ?_));rw[eu] at h1;simp at h1;simp[h1]
  ·intro i a hi ha hd ht hn acc h0 h1
   refine C7 _ _ _ _ (ah (by have:=hi;unfold cG wR at hl;simp;omega) ?_);have hz:a.length+tot bY a≤tot aP t.nodes:=oB (w:=aP) ha;rw[hd] at h0 h1;simp only[tot,aP] at h0;unfold cG wR at hl;have h2:=dn a;simp only[ahj,tM,ku a ay ay,m8,aH,ha,aY,dm,dy,bT,fz,g6,eo,fA,dQ,fC,fD,g7,cQ,natAdd,bX,cF,gK,dx,jT];rw[cO ay,aG ay];refine ah rfl ?_;rw[←uv];exact hn _ eI (by rw[←h1];simp)
 exact key [] cW rfl
theorem SD (t:Tree) (b:Int) (hl:cG t≤1073741824):an C jO [dW t,vI b] (dL (iO t b)) []:=by
 refine(ZO _ _ _ _ ?_).run;refine⟨_,j6 t hl,?_⟩
 have key: ∀(acc:List Key),acc.length+((aD t).drop 0).length≤(aD t).length→acc++((aD t).drop 0).filter (fun k=>decide (k.b=b))=iO t b→aa C jO ai 4 0 (nX b ((aD t).map bP) ((0:Nat):Int) (acc.map bP)) (fun u st=>ax C jO ai u st fun r fs=>r=(dL (iO t b))∧fs=[]):=by
  refine aZ (aD t) (fun i=> ∀(acc:List Key),acc.length+((aD t).drop i).length≤(aD t).length→acc++((aD t).drop i).filter (fun k=>decide (k.b=b))=iO t b→aa C jO ai 4 0 (nX b ((aD t).map bP) i (acc.map bP)) (fun u st=>ax C jO ai u st fun r fs=>r=(dL (iO t b))∧fs=[])) ?_ ?_
  ·intro acc h0 h1
   refine Io _ _ _ _ _ (ak cW (Ua _ _ _ _ _ _ _ ?_));rw[eu] at h1;simp at h1;simp[h1]
  ·intro i a hi ha hd ht hn acc h0 h1
   refine Io _ _ _ _ _ (ah eI ?_);rw[hd] at h0 h1;simp only[fW] at h0;have hz:=fh t;simp only[lJ,BX,qB,bD,bI,aH,ha,aY,dm,dy,bT,fz,g6,eo,fA,dQ,fC,fD,g7,cQ,natAdd,bX,cF,gK,dx,jT];simp (disch:=omega) only[cO,aG,kY]
   by_cases hk:a.b=b
   ·rw[aI hk]
    exact hn (acc++[a]) (by simp only[cF,gK];omega) (by rw[←h1];simp[hk])
   ·rw[aF hk]
    exact hn _ ay (by rw[←h1];simp[hk])
 exact key [] cW rfl
theorem qb (l:List Age) (id:Int) (hl:l.length≤1073741824):an C ee [gx l,vI id] (vI (fk l id)) []:=by
 refine(acI _ _ _ ?_).run
 have key:eR (fun a:Age=>decide (a.id=id)) (l.drop 0) ((0:Nat):Int)=eR (fun a:Age=>decide (a.id=id)) l 0→aa C ee aj 4 0 (tw (l.map bQ) id ((0:Nat):Int)) (fun u st=>ax C ee aj u st fun r fs=>r=vI (fk l id)∧fs=[]):=by
  refine aZ l (fun i=>eR (fun a:Age=>decide (a.id=id)) (l.drop i) (i:Int)=eR (fun a:Age=>decide (a.id=id)) l 0→aa C ee aj 4 0 (tw (l.map bQ) id i) _) ?_ ?_
  ·intro h0
   refine Kv _ _ _ _ (ak cW (Xk _ _ _ _ _ ?_));rw[eu] at h0;simp only[eR] at h0;change _=vI (eR (fun a:Age=>decide (a.id=id)) l 0)∧_;rw[←h0];exact⟨rfl,by trivial⟩
  ·intro i a hi ha hd uC hn h0
   refine Kv _ _ _ _ (ah eI ?_);rw[hd] at h0;simp only[eR] at h0;simp only[wQ,bD,bI,aH,ha,aY,dm,dy,bT,fz,g6,eo,fA,dQ,fC,fD,g7,cQ,natAdd,bX,cF,gK,dx,jT];rw[aG ay]
   split at h0
   ·rename_i hp
    have hp:=yp hp
    first|rw[aI hp]|rw[aI hp.symm]
    refine Xj _ _ ?_;rw[h0];exact⟨rfl,by trivial⟩
   ·rename_i hp
    have hp: ¬_:=fun h=>hp (fj h)
    first|rw[aF hp]|rw[aF (fun h=>hp h.symm)]
    exact hn h0
 exact key rfl
@[simp] theorem WN (a b id:Int) (q:Bool):an C zV [.ag [iI a,iI b],.bx [iI id]] (vB q) []↔q=decide (a=id):=vL (by
  refine(XX _ _ _ _ ?_).run
  simp)
theorem YG (l:List Age) (id:Int) (hl:l.length≤1073741824):an C dH [gx l,.fn zV [[iI id]]] (vI (fk l id)) []:=by
 refine(uX _ _ _ ?_).run
 have key:eR (fun a:Age=>decide (a.id=id)) (l.drop 0) ((0:Nat):Int)=eR (fun a:Age=>decide (a.id=id)) l 0→aa C dH aj 4 0 (ey (l.map bQ) ((0:Nat):Int) id) (fun u st=>ax C dH aj u st fun r fs=>r=vI (fk l id)∧fs=[]):=by
  refine aZ l (fun i=>eR (fun a:Age=>decide (a.id=id)) (l.drop i) (i:Int)=eR (fun a:Age=>decide (a.id=id)) l 0→aa C dH aj 4 0 (ey (l.map bQ) i id) _) ?_ ?_
  ·intro h0
   refine mA _ _ _ _ (ak cW (uq _ _ _ _ _ _ ?_));rw[eu] at h0;simp only[eR] at h0;change _=vI (eR (fun a:Age=>decide (a.id=id)) l 0)∧_;rw[←h0];exact⟨rfl,by trivial⟩
  ·intro i a hi ha hd uC hn h0
   refine mA _ _ _ _ (ah eI ?_);rw[hd] at h0;simp only[eR] at h0;simp only[wQ,bD,WN,bI,aH,ha,aY,dm,dy,bT,fz,g6,eo,fA,dQ,fC,fD,g7,cQ,natAdd,bX,cF,gK,dx,jT];rw[aG ay]
   split at h0
   ·rename_i hp
    have hp:=yp hp
    first|rw[aI hp]|rw[aI hp.symm]
    refine uo _ _ _ ?_;rw[h0];exact⟨rfl,by trivial⟩
   ·rename_i hp
    have hp: ¬_:=fun h=>hp (fj h)
    first|rw[aF hp]|rw[aF (fun h=>hp h.symm)]
    exact hn h0
 exact key rfl
theorem w8 (l:List Age) (id:Int) (hl:l.length≤1073741824):an C iP [gx l,vI id] (vI (fk l id)) []:=(acS _ _ _ ⟨_,YG l id hl,rfl,by trivial⟩).run
theorem F6 (l:List Age) (id:Int) (hl:l.length≤1073741824) (q:Int):an C ee [gx l,vI id] (vI q) []↔q=fk l id:=ake (qb l id hl)
theorem F7 (l:List Age) (id:Int) (hl:l.length≤1073741824) (q:Int):an C iP [gx l,vI id] (vI q) []↔q=fk l id:=ake (w8 l id hl)
theorem Gs (l:List Age) (id:Int) (hl:l.length≤1073741824):an C ko [gx l,vI id] (oz (pathOf l id)) []:=by
 refine(aat _ _ _ ⟨_,qb l id hl,?_⟩).run
 have key: ∀(n:Nat) (id':Int) (acc:List Int),acc.length+n=l.length+1→acc++Jz l n id'=pathOf l id→aa C ko kN 4 0 (vA (l.map bQ) (fk l id') (acc.map bO)) (fun u st=>ax C ko kN u st fun r fs=>r=oz (pathOf l id)∧fs=[]):=by
  intro n
  induction n with
  |zero=>
   intro id' acc h0 h1;simp only[Jz,qm] at h1;refine zi _ _ _ _ (sV (fun _=> ?_) fun _=>IV _ _ _ _ (by rw[h1];exact⟨rfl,by trivial⟩));exact ak eI (U7 _ _ _ _ _ (by rw[h1];exact⟨rfl,by trivial⟩))
  |succ n ih=>
   intro id' acc h0 h1;simp only[Jz] at h1
   by_cases h:fk l id'<0
   ·rw[aI h,qm] at h1
    exact zi _ _ _ _ (ak eI (IV _ _ _ _ (by rw[h1];exact⟨rfl,by trivial⟩)))
   ·rw[aF h] at h1
    obtain⟨a,ha,he⟩:=K1 l id' h;rw[ha] at h1;refine zi _ _ _ _ (ah eI (ah eI ?_));simp only[wQ,ha,aY,dm,ab5,dx,cQ,bX];rw[cO ay];refine ah rfl ⟨_,qb l a.fr hl,?_⟩;rw[Vq];exact ih a.fr (acc++[a.id]) eI (by rw[←h1,he];simp)
 exact key (l.length+1) id [] cW rfl
theorem Gt (l:List Age) (id:Int) (hl:l.length≤1073741824):an C kr [gx l,vI id] (oz (pathOf l id)) []:=by
 refine(ZN _ _ _ ?_).run
 have key: ∀(n:Nat) (id':Int) (acc:List Int) (k:Nat),k+n=l.length+1→acc.length=k→acc++Jz l n id'=pathOf l id→aa C kr ai 4 0 (vo (l.map bQ) id' k (acc.map bO)) (fun u st=>ax C kr ai u st fun r fs=>r=oz (pathOf l id)∧fs=[]):=by
  intro n
  induction n with
  |zero=>
   intro id' acc k h0 h2 h1;simp only[Jz,qm] at h1;refine Im _ _ _ _ _ (ak ?_ (T8 _ _ _ _ _ _ _ (by rw[h1];exact⟨rfl,by trivial⟩)));rw[aG eI];simp;omega
  |succ n ih=>
   intro id' acc k h0 h2 h1;simp only[Jz] at h1;refine Im _ _ _ _ _ (ah (by rw[aG eI];simp;omega) ⟨_,w8 l id' hl,?_⟩)
   by_cases h:fk l id'<0
   ·rw[aI h,qm] at h1
    exact ah eI (T7 _ _ _ _ _ _ _ _ (by rw[h1];exact⟨rfl,by trivial⟩))
   ·rw[aF h] at h1
    obtain⟨a,ha,he⟩:=K1 l id' h;rw[ha] at h1;refine ak eI ?_;simp only[wQ,ha,aY,dm,ab5,dx,cQ,bX];rw[cO ay];refine ah rfl ?_;rw[Vq,aG ay];exact ih a.fr (acc++[id']) (k+1) ay eI (by rw[←h1];simp)
 exact key (l.length+1) id [] 0 cW rfl rfl
theorem WO (l:List Int) (n:Int) (hl:l.length≤1073741824):an C kM [oz l,vI n] (vB (Lc l n)) []:=by
 refine(acJ _ _ _ ?_).run
 have key:(l.drop 0).any (fun a:Int=>decide (a=n))=l.any (fun a:Int=>decide (a=n))→aa C kM aj 4 0 (tC (l.map bO) n ((0:Nat):Int)) (fun u st=>ax C kM aj u st fun r fs=>r=vB (Lc l n)∧fs=[]):=by
  refine aZ l (fun i=>(l.drop i).any (fun a:Int=>decide (a=n))=l.any (fun a:Int=>decide (a=n))→aa C kM aj 4 0 (tC (l.map bO) n i) _) ?_ ?_
  ·intro h0
   refine Kw _ _ _ _ (ak cW (Xt _ _ _ _ _ ?_));rw[eu] at h0;simp only[List.any_nil] at h0;show _=vB (Lc l n)∧_
   first|unfold Lc|unfold qS|skip
   rw[←h0];exact⟨rfl,by trivial⟩
  ·intro i a hi ha hd uC hn h0
   refine Kw _ _ _ _ (ah eI ?_);rw[hd] at h0;simp only[List.any_cons] at h0;simp only[wP,bD,bI,aH,ha,aY,dm,dy,bT,fz,g6,eo,fA,dQ,fC,fD,g7,cQ,natAdd,bX,cF,gK,dx,jT];rw[aG ay]
   split
   ·rename_i hp
    refine Xq _ ?_
    have e:l.any (fun a:Int=>decide (a=n))=true:=by rw[←h0];simp[hp]
    first|unfold Lc|unfold qS|skip
    rw[e];exact⟨rfl,by trivial⟩
   ·rename_i hp
    exact hn (by simpa [hp] using h0)
 exact key rfl
theorem LG (p:Pool) (id:Int) (hl:p.au.length≤1073741824):an C m9 [cY p,vI id] (vB (qS p.au id)) []:=by
 refine(afa _ _ _ _ _ _ _ _ ?_).run
 have key:(p.au.drop 0).any (fun v:Vol=>decide (v.cT=id))=p.au.any (fun v:Vol=>decide (v.cT=id))→aa C m9 aj 4 0 (uV id ((0:Nat):Int) (p.t.aE.map bO) (p.t.nodes.map aQ) (p.aL.map bQ) (p.cells.map bL) (p.au.map cg) p.next) (fun u st=>ax C m9 aj u st fun r fs=>r=vB (qS p.au id)∧fs=[]):=by
  refine aZ p.au (fun i=>(p.au.drop i).any (fun v:Vol=>decide (v.cT=id))=p.au.any (fun v:Vol=>decide (v.cT=id))→aa C m9 aj 4 0 (uV id i (p.t.aE.map bO) (p.t.nodes.map aQ) (p.aL.map bQ) (p.cells.map bL) (p.au.map cg) p.next) _) ?_ ?_
  ·intro h0
   refine LR _ _ _ _ _ _ _ _ _ (ak cW (aan _ _ _ _ _ _ _ _ _ _ ?_));rw[eu] at h0;simp only[List.any_nil] at h0;show _=vB (qS p.au id)∧_
   first|unfold Lc|unfold qS|skip
   rw[←h0];exact⟨rfl,by trivial⟩
  ·intro i a hi ha hd uC hn h0
   refine LR _ _ _ _ _ _ _ _ _ (ah eI ?_);rw[hd] at h0;simp only[List.any_cons] at h0;simp only[yQ,bD,bI,aH,ha,aY,dm,dy,bT,fz,g6,eo,fA,dQ,fC,fD,g7,cQ,natAdd,bX,cF,gK,dx,jT];rw[aG ay]
   split
   ·rename_i hp
    refine aam _ _ _ _ _ _ _ ?_
    have e:p.au.any (fun v:Vol=>decide (v.cT=id))=true:=by rw[←h0];simp[hp]
    first|unfold Lc|unfold qS|skip
    rw[e];exact⟨rfl,by trivial⟩
   ·rename_i hp
    exact hn (by simpa [hp] using h0)
 exact key rfl
theorem aeL (l:List Int) (n:Int) (hl:l.length≤1073741824):an C fE [oz l,vI n] (vI (eR (fun a:Int=>decide (a=n)) l 0)) []:=by
 refine(Na _ _ _ ?_).run
 have key:eR (fun a:Int=>decide (a=n)) (l.drop 0) ((0:Nat):Int)=eR (fun a:Int=>decide (a=n)) l 0→aa C fE aj 4 0 (lQ (l.map bO) n ((0:Nat):Int)) (fun u st=>ax C fE aj u st fun r fs=>r=vI (eR (fun a:Int=>decide (a=n)) l 0)∧fs=[]):=by
  refine aZ l (fun i=>eR (fun a:Int=>decide (a=n)) (l.drop i) (i:Int)=eR (fun a:Int=>decide (a=n)) l 0→aa C fE aj 4 0 (lQ (l.map bO) n i) _) ?_ ?_
  ·intro h0
   refine yL _ _ _ _ (ak cW (KH _ _ _ _ _ _ ?_));rw[eu] at h0;simp only[eR] at h0;change _=vI (eR (fun a:Int=>decide (a=n)) l 0)∧_;rw[←h0];exact⟨rfl,by trivial⟩
  ·intro i a hi ha hd uC hn h0
   refine yL _ _ _ _ (ah eI ?_);rw[hd] at h0;simp only[eR] at h0;simp only[wP,bD,bI,aH,ha,aY,dm,dy,bT,fz,g6,eo,fA,dQ,fC,fD,g7,cQ,natAdd,bX,cF,gK,dx,jT];rw[aG ay]
   split at h0
   ·rename_i hp
    have hp:=yp hp
    first|rw[aI hp]|rw[aI hp.symm]
    refine KG _ _ ?_;rw[h0];exact⟨rfl,by trivial⟩
   ·rename_i hp
    have hp: ¬_:=fun h=>hp (fj h)
    first|rw[aF hp]|rw[aF (fun h=>hp h.symm)]
    exact hn h0
 exact key rfl
theorem acs (l:List Int) (n:Int) (hl:l.length≤1073741824):an C pW [oz l,vI n] (vB (Lc l n)) []:=by
 refine(I3 _ _ _ ⟨_,aeL l n hl,?_⟩).run;(try dsimp only);rw[gj,NU _ _ _ ay];exact⟨rfl,by trivial⟩
theorem Gu (t:Tree) (b:Int) (path:List Int) (hl:cG t≤1073741824) (hp:path.length≤1073741824):an C gQ [dW t,vI b,oz path] (Yg (near (iO t b) path)) []:=by
 refine(Zm _ _ _ _ _ ?_).run;refine⟨_,SC t b hl,?_⟩
 have key: ∀(pr:Key×Bool),((iO t b).drop 0).foldl (NV path) pr=near (iO t b) path→aa C gQ bN 4 0 (kC (path.map bO) pr.2 ((0:Nat):Int) pr.1.b pr.1.a pr.1.k pr.1.c pr.1.g ((iO t b).map bP)) (fun u st=>ax C gQ bN u st fun r fs=>r=(Yg (near (iO t b) path))∧fs=[]):=by
  refine aZ (iO t b) (fun i=> ∀(pr:Key×Bool),((iO t b).drop i).foldl (NV path) pr=near (iO t b) path→aa C gQ bN 4 0 (kC (path.map bO) pr.2 i pr.1.b pr.1.a pr.1.k pr.1.c pr.1.g ((iO t b).map bP)) (fun u st=>ax C gQ bN u st fun r fs=>r=(Yg (near (iO t b) path))∧fs=[])) ?_ ?_
  ·intro pr h0
   refine HY _ _ _ _ _ _ _ _ _ _ (ak cW (Ts _ _ _ _ _ _ _ _ _ _ _ ?_));rw[eu] at h0;simp only[List.foldl_nil] at h0;rw[h0];exact⟨rfl,by trivial⟩
  ·intro i a hi ha hd ht hn pr h0
   have hk:=Wn t b;have hz:=fh t;refine HY _ _ _ _ _ _ _ _ _ _ (ah eI ?_);rw[hd] at h0;simp only[List.foldl_cons] at h0;obtain⟨bk,bf⟩:=pr;have hh: ∀q,an C kM [oz path,vI a.a] (vB q) []↔q=Lc path a.a:=fun q=>vL (WO path a.a hp);simp only[lJ,hh,dh,bI,aH,ha,aY,dm,dy,bT,fz,g6,eo,fA,dQ,fC,fD,g7,cQ,natAdd,bX,cF,gK,dx,jT];rw[aG ay]
   have e:NV path (bk,bf) a=if Lc path a.a&&(!bf||decide (bk.a<a.a)) then(a,true) else(bk,bf):=rfl
   rw[e] at h0
   cases h1:Lc path a.a<;>cases bf<;>by_cases h2:bk.a<a.a<;>simp[h1,h2] at h0 ⊢ <;>first|exact hn (a,true) h0|exact hn (bk,false) h0|exact hn (bk,true) h0
 exact key (fT,false) rfl
theorem Gv (t:Tree) (b:Int) (path:List Int) (hl:cG t≤1073741824) (hp:path.length≤1073741824):an C gR [dW t,vI b,oz path] (Yg (near (iO t b) path)) []:=by
 refine(Z4 _ _ _ _ _ ?_).run;refine⟨_,SD t b hl,?_⟩
 have key: ∀(pr:Key×Bool),((iO t b).drop 0).foldl (NV path) pr=near (iO t b) path→aa C gR ai 4 0 (kD (path.map bO) pr.2 ((iO t b).map bP) ((0:Nat):Int) pr.1.b pr.1.a pr.1.k pr.1.c pr.1.g) (fun u st=>ax C gR ai u st fun r fs=>r=(Yg (near (iO t b) path))∧fs=[]):=by
  refine aZ (iO t b) (fun i=> ∀(pr:Key×Bool),((iO t b).drop i).foldl (NV path) pr=near (iO t b) path→aa C gR ai 4 0 (kD (path.map bO) pr.2 ((iO t b).map bP) i pr.1.b pr.1.a pr.1.k pr.1.c pr.1.g) (fun u st=>ax C gR ai u st fun r fs=>r=(Yg (near (iO t b) path))∧fs=[])) ?_ ?_
  ·intro pr h0
   refine Iz _ _ _ _ _ _ _ _ _ _ (ak cW (Uy _ _ _ _ _ _ _ _ _ _ _ _ ?_));rw[eu] at h0;simp only[List.foldl_nil] at h0;rw[h0];exact⟨rfl,by trivial⟩
  ·intro i a hi ha hd ht hn pr h0
   have hk:=Wn t b;have hz:=fh t;refine Iz _ _ _ _ _ _ _ _ _ _ (ah eI ?_);rw[hd] at h0;simp only[List.foldl_cons] at h0;obtain⟨bk,bf⟩:=pr;have hh: ∀q,an C pW [oz path,vI a.a] (vB q) []↔q=Lc path a.a:=fun q=>vL (acs path a.a hp);simp only[lJ,hh,dh,bI,aH,ha,aY,dm,dy,bT,fz,g6,eo,fA,dQ,fC,fD,g7,cQ,natAdd,bX,cF,gK,dx,jT];rw[aG ay]
   have e:NV path (bk,bf) a=if Lc path a.a&&(!bf||decide (bk.a<a.a)) then(a,true) else(bk,bf):=rfl
   rw[e] at h0
   cases h1:Lc path a.a<;>cases bf<;>by_cases h2:bk.a<a.a<;>simp[h1,h2] at h0 ⊢ <;>first|exact hn (a,true) h0|exact hn (bk,false) h0|exact hn (bk,true) h0
 exact key (fT,false) rfl
@[simp] theorem yj (a:Int) (q:Bool):an C jK [vI a] (vB q) []↔q=iC a:=vL ((aae _ _ ⟨_,tj _ _ _,rfl,by trivial⟩).run)
theorem SE (l:List Cell) (i gen:Int) (hl:l.length≤1073741824):an C yE [jw l,vI i,vI gen] (tIB (cellAt l i gen)) []:=by
 refine(ZI _ _ _ _ ?_).run;simp only[DR,dy,bX,lU,bT,pR];rw[de ay]
 by_cases h:0≤i∧i<l.length
 ·obtain⟨a,ha⟩:=mg h.1 h.2
  have e:iA i 0 ((l.length:Int)-1)=true:=fj ay;simp only[e,kY,ha,aY,dm,bD,bI,cellAt]
  cases h1:a.u<;>by_cases h2:a.g=gen<;>simp[h1,h2]
 ·have e:iA i 0 ((l.length:Int)-1)=false:=e9 ay
  have hn:ff l i=none:=gD h;simp[e,cellAt,hn]
theorem YH (l:List Cell) (hl:l.length≤1073741824) (i gen:Int) (n:Int) (q:Bool):an C yE [jw l,vI i,vI gen] (.tu [(0,[iI n]),(0,[iB q])]) []↔n=(cellAt l i gen).1∧q=(cellAt l i gen).2:=anJ (SE l i gen hl)
theorem MB (l:List Cell) (hl:l.length≤1073741824):an C gm [jw l] (vI (cu l)) []:=by
 refine(Ry _ _ ?_).run
 have key: ∀(n:Nat),n+(l.drop 0).length≤l.length→n+cu (l.drop 0)=cu l→aa C gm ai 4 0 (kV (l.map bL) n ((0:Nat):Int)) (fun u st=>ax C gm ai u st fun r fs=>r=(vI (cu l))∧fs=[]):=by
  refine aZ l (fun i=> ∀(n:Nat),n+(l.drop i).length≤l.length→n+cu (l.drop i)=cu l→aa C gm ai 4 0 (kV (l.map bL) n i) (fun u st=>ax C gm ai u st fun r fs=>r=(vI (cu l))∧fs=[])) ?_ ?_
  ·intro n h0 h1
   refine Bm _ _ _ _ (ak cW (M7 _ _ _ _ _ ?_));rw[eu] at h1;simp[cu] at h1;simp[h1,cu]
  ·intro i a hi ha hd ht hn n h0 h1
   refine Bm _ _ _ _ (ah eI ?_);rw[hd] at h0 h1;simp only[fW] at h0;simp only[pR,aH,ha,aY,dm,dy,bT,fz,g6,eo,fA,dQ,fC,fD,g7,cQ,natAdd,bX,cF,gK,dx,jT];rw[aG ay,aG ay]
   cases hu:a.u
   ·exact hn n ay (by rw[←h1];simp[cu,hu])
   ·exact hn (n+1) ay (by rw[←h1];simp[cu,hu];omega)
 exact key 0 cW cW
theorem Qi (l:List Cell) (hl:l.length≤1073741824):an C eK [jw l] (vB ((l.all kH&&decide (l.length=24)))) []:=by
 refine(X7 _ _ ?_).run
 have key:((l.drop 0).all kH&&decide (l.length=24))=(l.all kH&&decide (l.length=24))→aa C eK aj 4 0 (kX (l.map bL) ((0:Nat):Int)) (fun u st=>ax C eK aj u st fun r fs=>r=vB ((l.all kH&&decide (l.length=24)))∧fs=[]):=by
  refine aZ l (fun i=>((l.drop i).all kH&&decide (l.length=24))=(l.all kH&&decide (l.length=24))→aa C eK aj 4 0 (kX (l.map bL) i) (fun u st=>ax C eK aj u st fun r fs=>r=vB ((l.all kH&&decide (l.length=24)))∧fs=[])) ?_ ?_
  ·intro h0
   refine Fk _ _ _ (ak cW (RI _ _ _ _ ?_));rw[eu] at h0;simp only[qO,dx] at h0;rw[←h0];simp[bD]
   try omega
  ·intro i a hi ha hd uC hn h0
   have gO:kH a=false→(l.all kH&&decide (l.length=24))=false:=fun e=>by rw[←h0,hd];simp[e]
   have gN:kH a=true→aa C eK aj 4 0 (kX (l.map bL) ((i:Int)+1)) (fun u st=>ax C eK aj u st fun r fs=>r=vB ((l.all kH&&decide (l.length=24)))∧fs=[]):=fun e=>hn (by rw[←h0,hd];simp[e]);refine Fk _ _ _ (ah eI ?_);simp only[pR,DR,yj,bD,aH,ha,aY,dm,dy,bT,fz,g6,eo,fA,dQ,fC,fD,g7,cQ,natAdd,bX,cF,gK,dx,jT];rw[aG ay]
   cases h1:iA a.g 0 999<;>cases h2:iC a.n<;>cases h3:a.u<;>by_cases h4:a.n=0<;>simp only[h1,h2,h3,h4,kY,lI,decide_true,decide_false,not_true_eq_false,not_false_eq_true,By,Bool.not_false]<;>first|exact gN (by unfold kH;rw[h1,h2,h3];simp[h4])|exact RH _ (by rw[gO (by unfold kH;rw[h1,h2,h3];simp[h4])];exact⟨rfl,by trivial⟩)
 exact key rfl
theorem AH (l:List Cell) (hl:l.length≤1073741824) (q:Bool):an C eK [jw l] (vB q) []↔q=eJ l:=vL (Qi l hl)
@[simp] theorem ym (a:Int) (q:Bool):an C th [vI a] (vB q) []↔q=iC a:=vL ((Y8 _ _ ⟨_,nG _ _ _,rfl,by trivial⟩).run)
theorem SF (l:List Cell) (i gen:Int) (hl:l.length≤1073741824):an C yF [jw l,vI i,vI gen] (tIB (cellAt l i gen)) []:=by
 refine(ZJ _ _ _ _ ?_).run;simp only[w7,dy,bX,lU,bT,pR];rw[de ay]
 by_cases h:0≤i∧i<l.length
 ·obtain⟨a,ha⟩:=mg h.1 h.2
  have e:iA i 0 ((l.length:Int)-1)=true:=fj ay;simp only[e,kY,ha,aY,dm,bD,bI,cellAt]
  cases h1:a.u<;>by_cases h2:a.g=gen<;>simp[h1,h2]
 ·have e:iA i 0 ((l.length:Int)-1)=false:=e9 ay
  have hn:ff l i=none:=gD h;simp[e,cellAt,hn]
theorem YI (l:List Cell) (hl:l.length≤1073741824) (i gen:Int) (n:Int) (q:Bool):an C yF [jw l,vI i,vI gen] (.tu [(0,[iI n]),(0,[iB q])]) []↔n=(cellAt l i gen).1∧q=(cellAt l i gen).2:=anJ (SF l i gen hl)
theorem MC (l:List Cell) (hl:l.length≤1073741824):an C gn [jw l] (vI (cu l)) []:=by
 refine(Rz _ _ ?_).run
 have key: ∀(n:Nat),n+(l.drop 0).length≤l.length→n+cu (l.drop 0)=cu l→aa C gn ai 4 0 (kW n (l.map bL) ((0:Nat):Int)) (fun u st=>ax C gn ai u st fun r fs=>r=(vI (cu l))∧fs=[]):=by
  refine aZ l (fun i=> ∀(n:Nat),n+(l.drop i).length≤l.length→n+cu (l.drop i)=cu l→aa C gn ai 4 0 (kW n (l.map bL) i) (fun u st=>ax C gn ai u st fun r fs=>r=(vI (cu l))∧fs=[])) ?_ ?_
  ·intro n h0 h1
   refine Bn _ _ _ _ (ak cW (M8 _ _ _ _ _ _ ?_));rw[eu] at h1;simp[cu] at h1;simp[h1,cu]
  ·intro i a hi ha hd ht hn n h0 h1
   refine Bn _ _ _ _ (ah eI ?_);rw[hd] at h0 h1;simp only[fW] at h0;simp only[pR,aH,ha,aY,dm,dy,bT,fz,g6,eo,fA,dQ,fC,fD,g7,cQ,natAdd,bX,cF,gK,dx,jT];rw[aG ay,aG ay]
   cases hu:a.u
   ·exact hn n ay (by rw[←h1];simp[cu,hu])
   ·exact hn (n+1) ay (by rw[←h1];simp[cu,hu];omega)
 exact key 0 cW cW
theorem Qj (l:List Cell) (hl:l.length≤1073741824):an C eM [jw l] (vB ((l.all kH&&decide (l.length=24)))) []:=by
 refine(XO _ _ ?_).run
 have key:((l.drop 0).all kH&&decide (l.length=24))=(l.all kH&&decide (l.length=24))→aa C eM aj 4 0 (kU (l.map bL) ((0:Nat):Int)) (fun u st=>ax C eM aj u st fun r fs=>r=vB ((l.all kH&&decide (l.length=24)))∧fs=[]):=by
  refine aZ l (fun i=>((l.drop i).all kH&&decide (l.length=24))=(l.all kH&&decide (l.length=24))→aa C eM aj 4 0 (kU (l.map bL) i) (fun u st=>ax C eM aj u st fun r fs=>r=vB ((l.all kH&&decide (l.length=24)))∧fs=[])) ?_ ?_
  ·intro h0
   refine Ff _ _ _ (ak cW (Ru _ _ _ _ _ ?_));rw[eu] at h0;simp only[qO,dx] at h0;rw[←h0];simp[bD]
   try omega
  ·intro i a hi ha hd uC hn h0
   have gO:kH a=false→(l.all kH&&decide (l.length=24))=false:=fun e=>by rw[←h0,hd];simp[e]
   have gN:kH a=true→aa C eM aj 4 0 (kU (l.map bL) ((i:Int)+1)) (fun u st=>ax C eM aj u st fun r fs=>r=vB ((l.all kH&&decide (l.length=24)))∧fs=[]):=fun e=>hn (by rw[←h0,hd];simp[e]);refine Ff _ _ _ (ah eI ?_);simp only[pR,w7,ym,bD,aH,ha,aY,dm,dy,bT,fz,g6,eo,fA,dQ,fC,fD,g7,cQ,natAdd,bX,cF,gK,dx,jT];rw[aG ay]
   cases h1:iA a.g 0 999<;>cases h2:iC a.n<;>cases h3:a.u<;>by_cases h4:a.n=0<;>simp only[h1,h2,h3,h4,kY,lI,decide_true,decide_false,not_true_eq_false,not_false_eq_true,By,Bool.not_false]<;>first|exact gN (by unfold kH;rw[h1,h2,h3];simp[h4])|exact Rt _ _ _ _ (by rw[gO (by unfold kH;rw[h1,h2,h3];simp[h4])];exact⟨rfl,by trivial⟩)
 exact key rfl
theorem AI (l:List Cell) (hl:l.length≤1073741824) (q:Bool):an C eM [jw l] (vB q) []↔q=eJ l:=vL (Qj l hl)
theorem SG (s:ByteArray) (hl:s.size≤140737488355328):an C eB [vS s] (vB ((dS s.size (gl s)&&iA s.size 1 6))) []:=by
 refine(aag _ _ ?_).run
 have key:((om 0 (s.size-0)).all (gl s)&&iA s.size 1 6)=(dS s.size (gl s)&&iA s.size 1 6)→aa C eB aj 4 0 (mJ s ((0:Nat):Int)) (fun u st=>ax C eB aj u st fun r fs=>r=vB ((dS s.size (gl s)&&iA s.size 1 6))∧fs=[]):=by
  refine sX (s.size) (fun i=>((om i (s.size-i)).all (gl s)&&iA s.size 1 6)=(dS s.size (gl s)&&iA s.size 1 6)→aa C eB aj 4 0 (mJ s i) (fun u st=>ax C eB aj u st fun r fs=>r=vB ((dS s.size (gl s)&&iA s.size 1 6))∧fs=[])) ?_ ?_
  ·intro h0
   refine IG _ _ _ (ak cW (UP _ _ _ _ ?_));rw[qP] at h0;simp only[Gj,qO,dx] at h0;rw[←h0];simp only[DR,dy,Mb,lU];simp
  ·intro i hi hn h0
   rw[nC hi,ql] at h0
   have gO:(gl s) i=false→(dS s.size (gl s)&&iA s.size 1 6)=false:=fun e=>by rw[←h0,e];rfl
   have gN:(gl s) i=true→aa C eB aj 4 0 (mJ s ((i:Int)+1)) (fun u st=>ax C eB aj u st fun r fs=>r=vB ((dS s.size (gl s)&&iA s.size 1 6))∧fs=[]):=fun e=>hn (by rw[←h0,e];rfl);refine IG _ _ _ (ah eI ?_);obtain⟨n,hb,hn0,hn1⟩:=aa8 hi;have hw:zn .i64 n=n:=aee ay;simp only[hb,aY,dm,DR,dy,hw,bT];rw[aG ay]
   have e:gl s i=(iA n 97 122||iA n 48 57):=by unfold gl;rw[hb];rfl
   rw[e] at gO gN
   cases h1:iA n 97 122<;>cases h2:iA n 48 57<;>simp only[kY,lI]<;>first|exact gN (by rw[h1,h2];rfl)|exact UO _ (by rw[gO (by rw[h1,h2];rfl)];exact⟨rfl,by trivial⟩)
 exact key rfl
theorem uU (s:ByteArray) (hl:s.size≤140737488355328) (q:Bool):an C eB [vS s] (vB q) []↔q=jR s:=vL (SG s hl)
theorem anM (l:List Age): ∀(id:Int),id=0→eA l id=[]:=fun id h=>aI h
theorem yS (l:List Age) (id:Int) (hl:l.length≤1073741824):an C gC [gx l,vI id] (oz (eA l id)) []:=by
 refine(ZY _ _ _ ?_).run
 have key: ∀(acc:List Int),acc.length+(l.drop 0).length≤l.length→acc++eA (l.drop 0) id=eA l id→aa C gC ai 4 0 (mI (l.map bQ) id ((0:Nat):Int) (acc.map bO)) (fun u st=>ax C gC ai u st fun r fs=>r=(oz (eA l id))∧fs=[]):=by
  refine aZ l (fun i=> ∀(acc:List Int),acc.length+(l.drop i).length≤l.length→acc++eA (l.drop i) id=eA l id→aa C gC ai 4 0 (mI (l.map bQ) id i (acc.map bO)) (fun u st=>ax C gC ai u st fun r fs=>r=(oz (eA l id))∧fs=[])) ?_ ?_
  ·intro acc h0 h1
   refine Ix _ _ _ _ _ (ak cW (Uu _ _ _ _ _ _ ?_));rw[eu] at h1;simp[eA] at h1;simp[eA,h1]
  ·intro i a hi ha hd ht hn acc h0 h1
   refine Ix _ _ _ _ _ (ah eI ?_);rw[hd] at h0 h1;simp only[fW] at h0;simp only[wQ,Vq,ab5,bD,bI,aH,ha,aY,dm,dy,bT,fz,g6,eo,fA,dQ,fC,fD,g7,cQ,natAdd,bX,cF,gK,dx,jT];simp (disch:=omega) only[cO,aG,kY]
   by_cases hz:id=0
   ·rw[anM _ _ hz] at h1
    have e: ∀(A B:Prop),(if a.fr=id then(if id=0 then A else B) else A)=if a.fr=id then A else A:=fun A B=>by rw[aI hz]
    rw[e,ite_self];exact hn _ ay (by rw[anM _ _ hz,←h1])
   by_cases hk:a.fr=id
   ·rw[aI hk,aF hz]
    exact hn (acc++[a.id]) (by simp only[cF,gK];omega) (by rw[←h1];simp[eA,hk,hz])
   ·rw[aF hk]
    exact hn _ ay (by rw[←h1];simp[eA,hk,hz])
 exact key [] cW rfl
theorem Qk (l:List Key) (hl:l.length≤1073741824):an C jZ [dL l] (vB (dS l.length (jv l fR))) []:=by
 refine(XF _ _ ?_).run
 have key: ∀(k i:Nat),i+k=l.length→1≤i→(om i k).all (jv l fR)=dS l.length (jv l fR)→aa C jZ aj 4 0 (tZ (l.map bP) i) (fun u st=>ax C jZ aj u st fun r fs=>r=vB (dS l.length (jv l fR))∧fs=[]):=by
  intro k
  induction k with
  |zero=>
   intro i h h1 h0;refine xZ _ _ _ (ak eI (Fc _ _ _ _ ?_));simp only[Gj,qO] at h0;rw[←h0];exact⟨rfl,by trivial⟩
  |succ k ih=>
   intro i h h1 h0;obtain⟨j,rfl⟩: ∃j,i=j+1:=⟨i-1,by omega⟩;have hj:l[j]?=some l[j]:=ck ay;have hj1:l[j+1]?=some l[j+1]:=ck ay
   have e:jv l fR (j+1)=fR l[j] l[j+1]:=by simp only[jv,hj,hj1]
   unfold om at h0;rw[List.range'_succ,ql,e] at h0;refine xZ _ _ _ (ah eI ?_);rw[de ay,show((j+1:Nat):Int)-1=(j:Int) by omega];simp only[lJ,aH,hj,hj1,aY,dm,J1,dy,eo,bT];rw[aG ay]
   cases hb:fR l[j] l[j+1] with
   |true=>
    rw[hb,dx] at h0;exact ah rfl (ih (j+1+1) ay ay h0)
   |false=>
    rw[hb,Bool.false_and] at h0;refine ak rfl (Ro _ ?_);rw[←h0];exact⟨rfl,by trivial⟩
 cases hz:l.length with
 |zero=>
  have:l=[]:=D1 hz;subst this;exact xZ _ _ _ (ak cW (Fc _ _ _ _ ⟨rfl,by trivial⟩))
 |succ n=>
  rw[hz] at key;exact key n 1 ay ay (by unfold dS om;rw[List.range'_succ,ql];rfl)
theorem WQ (l:List Key) (hl:l.length≤1073741824):an C gW [dL l] (vB ((l.all jU&&(dS l.length (jv l fR)&&decide (l.length≤60))))) []:=by
 refine(ac0 _ _ ?_).run
 have key:((l.drop 0).all jU&&(dS l.length (jv l fR)&&decide (l.length≤60)))=(l.all jU&&(dS l.length (jv l fR)&&decide (l.length≤60)))→aa C gW aj 4 0 (qj (l.map bP) ((0:Nat):Int)) (fun u st=>ax C gW aj u st fun r fs=>r=vB ((l.all jU&&(dS l.length (jv l fR)&&decide (l.length≤60))))∧fs=[]):=by
  refine aZ l (fun i=>((l.drop i).all jU&&(dS l.length (jv l fR)&&decide (l.length≤60)))=(l.all jU&&(dS l.length (jv l fR)&&decide (l.length≤60)))→aa C gW aj 4 0 (qj (l.map bP) i) (fun u st=>ax C gW aj u st fun r fs=>r=vB ((l.all jU&&(dS l.length (jv l fR)&&decide (l.length≤60))))∧fs=[])) ?_ ?_
  ·intro h0
   refine KI _ _ _ (ak cW (X9 _ _ _ _ ?_));rw[eu] at h0;simp only[qO,dx] at h0;rw[←h0];refine⟨_,Qk l hl,?_⟩;simp only[gj,bX,lU]
   cases dS l.length (jv l fR)<;>simp
   omega
  ·intro i a hi ha hd uC hn h0
   have gO:jU a=false→(l.all jU&&(dS l.length (jv l fR)&&decide (l.length≤60)))=false:=fun e=>by rw[←h0,hd];simp[e]
   have gN:jU a=true→aa C gW aj 4 0 (qj (l.map bP) ((i:Int)+1)) (fun u st=>ax C gW aj u st fun r fs=>r=vB ((l.all jU&&(dS l.length (jv l fR)&&decide (l.length≤60))))∧fs=[]):=fun e=>hn (by rw[←h0,hd];simp[e]);refine KI _ _ _ (ah eI ?_);simp only[lJ,N8,aH,ha,aY,dm,dy,bT,fz,g6,eo,fA,dQ,fC,fD,g7,cQ,natAdd,bX,cF,gK,dx,jT];rw[aG ay]
   cases h1:jU a<;>simp only[kY,lI]<;>first|exact gN zYs|exact X8 _ (by rw[gO zYs];exact⟨rfl,by trivial⟩)
 exact key rfl
theorem SH (l:List Key) (hl:l.length≤1073741824):an C gW [dL l] (vB (Jy l)) []:=by
 have:=WQ l hl;rw[Wm];exact this
theorem acu (l:List Key) (hl:l.length≤1073741824) (q:Bool):an C gW [dL l] (vB q) []↔q=Jy l:=vL (SH l hl)
theorem SI (s:ByteArray) (hl:s.size≤140737488355328):an C dF [vS s] (vB ((dS s.size (gl s)&&iA s.size 1 6))) []:=by
 refine(aai _ _ ?_).run
 have key:((om 0 (s.size-0)).all (gl s)&&iA s.size 1 6)=(dS s.size (gl s)&&iA s.size 1 6)→aa C dF aj 4 0 (mL s ((0:Nat):Int)) (fun u st=>ax C dF aj u st fun r fs=>r=vB ((dS s.size (gl s)&&iA s.size 1 6))∧fs=[]):=by
  refine sX (s.size) (fun i=>((om i (s.size-i)).all (gl s)&&iA s.size 1 6)=(dS s.size (gl s)&&iA s.size 1 6)→aa C dF aj 4 0 (mL s i) (fun u st=>ax C dF aj u st fun r fs=>r=vB ((dS s.size (gl s)&&iA s.size 1 6))∧fs=[])) ?_ ?_
  ·intro h0
   refine IJ _ _ _ (ak cW (US _ _ _ _ ?_));rw[qP] at h0;simp only[Gj,qO,dx] at h0;rw[←h0];simp only[w7,dy,Mb,lU];simp
  ·intro i hi hn h0
   rw[nC hi,ql] at h0
   have gO:(gl s) i=false→(dS s.size (gl s)&&iA s.size 1 6)=false:=fun e=>by rw[←h0,e];rfl
   have gN:(gl s) i=true→aa C dF aj 4 0 (mL s ((i:Int)+1)) (fun u st=>ax C dF aj u st fun r fs=>r=vB ((dS s.size (gl s)&&iA s.size 1 6))∧fs=[]):=fun e=>hn (by rw[←h0,e];rfl);refine IJ _ _ _ (ah eI ?_);obtain⟨n,hb,hn0,hn1⟩:=aa8 hi;have hw:zn .i64 n=n:=aee ay;simp only[hb,aY,dm,w7,dy,hw,bT];rw[aG ay]
   have e:gl s i=(iA n 97 122||iA n 48 57):=by unfold gl;rw[hb];rfl
   rw[e] at gO gN
   cases h1:iA n 97 122<;>cases h2:iA n 48 57<;>simp only[kY,lI]<;>first|exact gN (by rw[h1,h2];rfl)|exact UR _ (by rw[gO (by rw[h1,h2];rfl)];exact⟨rfl,by trivial⟩)
 exact key rfl
theorem m5 (s:ByteArray) (hl:s.size≤140737488355328) (q:Bool):an C dF [vS s] (vB q) []↔q=jR s:=vL (SI s hl)
theorem ve (l:List Age) (id:Int) (hl:l.length≤1073741824):an C fZ [gx l,vI id] (oz (eA l id)) []:=by
 refine(aao _ _ _ ?_).run;unfold eA
 by_cases hz:id=0
 ·refine ah (by simp[hz]) ?_
  rw[aI hz];exact⟨rfl,by trivial⟩
 refine ak (by simp[hz]) ?_;rw[aF hz]
 have key: ∀(acc:List Int),acc.length+(l.drop 0).length≤l.length→acc++((l.drop 0).filter fun a=>decide (a.fr=id)).map (·.id)=(l.filter fun a=>decide (a.fr=id)).map (·.id)→aa C fZ av 4 0 (oe id (l.map bQ) ((0:Nat):Int) (acc.map bO)) (fun u st=>ax C fZ av u st fun r fs=>r=oz ((l.filter fun a=>decide (a.fr=id)).map (·.id))∧fs=[]):=by
  refine aZ l (fun i=> ∀(acc:List Int),acc.length+(l.drop i).length≤l.length→acc++((l.drop i).filter fun a=>decide (a.fr=id)).map (·.id)=(l.filter fun a=>decide (a.fr=id)).map (·.id)→aa C fZ av 4 0 (oe id (l.map bQ) i (acc.map bO)) (fun u st=>ax C fZ av u st fun r fs=>r=oz ((l.filter fun a=>decide (a.fr=id)).map (·.id))∧fs=[])) ?_ ?_
  ·intro acc h0 h1
   refine IL _ _ _ _ _ (ak cW (UZ _ _ _ _ _ _ _ ?_));rw[eu] at h1;simp only[List.filter_nil,List.map_nil,qm] at h1;rw[h1];exact⟨rfl,by trivial⟩
  ·intro i a hi ha hd ht hn acc h0 h1
   refine IL _ _ _ _ _ (ah eI ?_);rw[hd] at h0 h1;simp only[fW] at h0;simp only[wQ,Vq,ab5,bD,bI,aH,ha,aY,dm,dy,bT,fz,g6,eo,fA,dQ,fC,fD,g7,cQ,natAdd,bX,cF,gK,dx,jT];simp (disch:=omega) only[cO,aG,kY]
   by_cases hk:a.fr=id
   ·rw[aI hk]
    exact hn (acc++[a.id]) (by simp only[cF,gK];omega) (by rw[←h1];simp[hk])
   ·rw[aF hk]
    exact hn _ ay (by rw[←h1];simp[hk])
 exact key [] cW rfl
theorem SJ (l:List Key) (hl:l.length≤1073741824):an C gV [dL l] (vB ((dS l.length (pT l)&&decide (l.length≤60)))) []:=by
 refine(acV _ _ ?_).run
 have key:((om 0 (l.length-0)).all (pT l)&&decide (l.length≤60))=(dS l.length (pT l)&&decide (l.length≤60))→aa C gV aj 4 0 (nK (l.map bP) ((0:Nat):Int)) (fun u st=>ax C gV aj u st fun r fs=>r=vB ((dS l.length (pT l)&&decide (l.length≤60)))∧fs=[]):=by
  refine sX (l.length) (fun i=>((om i (l.length-i)).all (pT l)&&decide (l.length≤60))=(dS l.length (pT l)&&decide (l.length≤60))→aa C gV aj 4 0 (nK (l.map bP) i) (fun u st=>ax C gV aj u st fun r fs=>r=vB ((dS l.length (pT l)&&decide (l.length≤60)))∧fs=[])) ?_ ?_
  ·intro h0
   refine KE _ _ _ (ak cW (XW _ _ _ _ _ ?_));rw[qP] at h0;simp only[Gj,qO,dx] at h0;rw[←h0];simp[gj];omega
  ·intro i hi hn h0
   rw[nC hi,ql] at h0
   have gO:(pT l) i=false→(dS l.length (pT l)&&decide (l.length≤60))=false:=fun e=>by rw[←h0,e];rfl
   have gN:(pT l) i=true→aa C gV aj 4 0 (nK (l.map bP) ((i:Int)+1)) (fun u st=>ax C gV aj u st fun r fs=>r=vB ((dS l.length (pT l)&&decide (l.length≤60)))∧fs=[]):=fun e=>hn (by rw[←h0,e];rfl);refine KE _ _ _ (ah eI ?_);have ha:l[i]?=some l[i]:=ck hi;simp only[lJ,N7,J0,aH,ha,aY,dm,dy,bT,fz,g6,eo,fA,dQ,fC,fD,g7,cQ,natAdd,bX,cF,gK,dx,jT];rw[aG ay]
   cases i with
   |zero=>
    have e:pT l 0=jU l[0]:=by simp[pT,atL,jv,hi]
    simp only[e] at gO gN
    cases h1:jU l[0]<;>simp only[h1,kY,lI,dh,bI,Int.natCast_zero,Int.lt_irrefl,if_false]<;>first|exact gN h1|exact KF _ _ _ _ _ _ (by rw[gO h1];exact⟨rfl,by trivial⟩)
   |succ k=>
    have hk:l[k]?=some l[k]:=ck ay
    have e:pT l (k+1)=(jU l[k+1]&&fR l[k] l[k+1]):=by simp only[pT,atL,jv,hk,ha]
    simp only[e] at gO gN;rw[de ay,show((k+1:Nat):Int)-1=(k:Int) by omega];simp only[aH,hk,aY,dm,eo,dh,bI];rw[aI ay]
    cases h1:jU l[k+1]<;>cases h2:fR l[k] l[k+1]<;>simp only[kY,lI]<;>first|exact gN (by rw[h1,h2];rfl)|exact KF _ _ _ _ _ _ (by rw[gO (by rw[h1,h2];rfl)];exact⟨rfl,by trivial⟩)
 exact key rfl
theorem acv (l:List Key) (hl:l.length≤1073741824) (q:Bool):an C gV [dL l] (vB q) []↔q=Jy l:=vL (SJ l hl)
theorem YJ (t:Tree) (l:List Age) (b id:Int) (hl:cG t≤1073741824) (ha:l.length≤1073741823):an C Qe [dW t,gx l,vI b,vI id] (Yg (Lw t l b id)) []:=by
 refine(afc _ _ _ _ _ _ ?_).run;refine⟨_,Gs l id ay,_,_,_,_,_,_,Gu t b _ hl (by have:=FL l id;omega),?_⟩;exact⟨rfl,by trivial⟩
theorem AJ (t:Tree) (l:List Age) (b id:Int) (hl:cG t≤1073741824) (ha:l.length≤1073741823):an C w5 [dW t,gx l,vI b,vI id] (Yg (tN t l b id)) []:=by
 refine(Rw _ _ _ _ _ _ ?_).run;have hp:=FL l id;refine⟨_,Gs l id ay,?_⟩;simp only[bX,lU,bD,bI,cJ];unfold tN
 by_cases h:(pathOf l id).length=0
 ·rw[aI ay,D1 h]
  simp[akg,fT]
 ·rw[aF ay]
  refine ah eI ⟨_,_,_,_,_,_,Gu t b _ hl eI,?_⟩
  have e:List.drop (Int.toNat 1) (List.take (Int.toNat ((pathOf l id).length:Int)) (pathOf l id))=(pathOf l id).drop 1:=by rw[lV,vZ];rfl
  rw[e];exact⟨rfl,by trivial⟩
theorem YK (t:Tree) (l:List Age) (k:Key) (id:Int) (hl:cG t≤1073741824) (ha:l.length≤1073741823):an C K7 [dW t,gx l,uE k,vI id] (vB (nD t l k id)) []:=by
 refine(afb _ _ _ _ _ _ _ _ _ _ ?_).run;refine⟨_,_,_,_,_,_,YJ t l k.b id hl ha,?_⟩;unfold nD;simp only[bD]
 cases h:(Lw t l k.b id).2
 ·exact ak rfl ⟨rfl,by trivial⟩
 ·exact ah rfl ⟨by simp,by trivial⟩
theorem MD (p:Pool) (k:Key) (ht:cG p.t≤1073741824) (hg:p.aL.length≤1073741823) (hl:p.au.length≤1073741824):an C ef [cY p,uE k] (vB ((p.au.any (fun v:Vol=>decide (k.b<v.size)&&nD p.t p.aL k v.cT)))) []:=by
 refine(RM _ _ _ _ _ _ _ _ _ _ _ _ ?_).run
 have key:((p.au.drop 0).any (fun v:Vol=>decide (k.b<v.size)&&nD p.t p.aL k v.cT))=(p.au.any (fun v:Vol=>decide (k.b<v.size)&&nD p.t p.aL k v.cT))→aa C ef aj 4 0 (jC ((0:Nat):Int) (p.t.aE.map bO) (p.t.nodes.map aQ) (p.aL.map bQ) (p.cells.map bL) (p.au.map cg) p.next k.b k.a k.k k.c k.g) (fun u st=>ax C ef aj u st fun r fs=>r=vB ((p.au.any (fun v:Vol=>decide (k.b<v.size)&&nD p.t p.aL k v.cT)))∧fs=[]):=by
  refine aZ p.au (fun i=>((p.au.drop i).any (fun v:Vol=>decide (k.b<v.size)&&nD p.t p.aL k v.cT))=(p.au.any (fun v:Vol=>decide (k.b<v.size)&&nD p.t p.aL k v.cT))→aa C ef aj 4 0 (jC i (p.t.aE.map bO) (p.t.nodes.map aQ) (p.aL.map bQ) (p.cells.map bL) (p.au.map cg) p.next k.b k.a k.k k.c k.g) (fun u st=>ax C ef aj u st fun r fs=>r=vB ((p.au.any (fun v:Vol=>decide (k.b<v.size)&&nD p.t p.aL k v.cT)))∧fs=[])) ?_ ?_
  ·intro h0
   refine Bq _ _ _ _ _ _ _ _ _ _ _ _ _ (ak cW (Nd _ _ _ _ _ _ _ _ _ _ _ _ _ _ ?_));rw[eu] at h0;simp only[List.any_nil,dx] at h0;rw[←h0];exact⟨rfl,by trivial⟩
  ·intro i a hi ha hd uC hn h0
   have gO:(fun v:Vol=>decide (k.b<v.size)&&nD p.t p.aL k v.cT) a=true→(p.au.any (fun v:Vol=>decide (k.b<v.size)&&nD p.t p.aL k v.cT))=true:=fun e=>by rw[←h0,hd];simp[e]
   have gN:(fun v:Vol=>decide (k.b<v.size)&&nD p.t p.aL k v.cT) a=false→aa C ef aj 4 0 (jC ((i:Int)+1) (p.t.aE.map bO) (p.t.nodes.map aQ) (p.aL.map bQ) (p.cells.map bL) (p.au.map cg) p.next k.b k.a k.k k.c k.g) (fun u st=>ax C ef aj u st fun r fs=>r=vB ((p.au.any (fun v:Vol=>decide (k.b<v.size)&&nD p.t p.aL k v.cT)))∧fs=[]):=fun e=>hn (by rw[←h0,hd];simp[e]);refine Bq _ _ _ _ _ _ _ _ _ _ _ _ _ (ah eI ?_)
   have hh: ∀q,an C K7 [dW p.t,gx p.aL,uE k,vI a.cT] (vB q) []↔q=nD p.t p.aL k a.cT:=fun q=>vL (YK p.t p.aL k a.cT ht hg);simp only[yQ,hh,dh,bI,aH,ha,aY,dm,dy,bT,fz,g6,eo,fA,dQ,fC,fD,g7,cQ,natAdd,bX,cF,gK,dx,jT];rw[aG ay]
   by_cases h1:k.b<a.size<;>cases h2:nD p.t p.aL k a.cT<;>simp only[h1,if_true,if_false,kY,lI]<;>first|exact gN (by simp[h1,h2])|exact Nc _ _ _ _ _ _ _ _ _ _ _ _ (by rw[gO (by simp[h1,h2])];exact⟨rfl,by trivial⟩)
 exact key rfl
theorem Le (p:Pool) (k:Key) (ht:cG p.t≤1073741824) (hg:p.aL.length≤1073741823) (hl:p.au.length≤1073741824):an C ef [cY p,uE k] (vB (PU p k)) []:=MD p k ht hg hl
theorem YL (t:Tree) (l:List Age) (b id:Int) (hl:cG t≤1073741824) (ha:l.length≤1073741823):an C Qf [dW t,gx l,vI b,vI id] (Yg (Lw t l b id)) []:=by
 refine(ae0 _ _ _ _ _ _ ?_).run;refine⟨_,Gt l id ay,_,_,_,_,_,_,Gv t b _ hl (by have:=FL l id;omega),?_⟩;exact⟨rfl,by trivial⟩
theorem AK (t:Tree) (l:List Age) (b id:Int) (hl:cG t≤1073741824) (ha:l.length≤1073741823):an C w6 [dW t,gx l,vI b,vI id] (Yg (tN t l b id)) []:=by
 refine(RK _ _ _ _ _ _ ?_).run;have hp:=FL l id;refine⟨_,Gt l id ay,?_⟩;simp only[bX,lU,cJ,amf];unfold tN
 have e: ∀m:Int,((m=1∧1≤(pathOf l id).length)∨(m=0∧(pathOf l id).length=0))→List.drop m.toNat (List.take (Int.toNat ((pathOf l id).length:Int)) (pathOf l id))=(pathOf l id).drop 1:=fun m hm=>by
  rw[lV,vZ];rcases hm with⟨rfl,_⟩|⟨rfl,h⟩
  ·rfl
  ·rw[D1 h];rfl
 have hm:(if((pathOf l id).length:Int)<1 then((pathOf l id).length:Int) else 1)=1∧1≤(pathOf l id).length∨((if((pathOf l id).length:Int)<1 then((pathOf l id).length:Int) else 1)=0∧(pathOf l id).length=0):=by split<;>omega
 revert hm
 generalize (if((pathOf l id).length:Int)<1 then((pathOf l id).length:Int) else 1)=m;intro hm;rw[e m hm];refine ah eI ⟨_,_,_,_,_,_,Gv t b _ hl eI,?_⟩;exact⟨rfl,by trivial⟩
theorem YM (t:Tree) (l:List Age) (k:Key) (id:Int) (hl:cG t≤1073741824) (ha:l.length≤1073741823):an C K8 [dW t,gx l,uE k,vI id] (vB (nD t l k id)) []:=by
 refine(aeZ _ _ _ _ _ _ _ _ _ _ ?_).run;refine⟨_,_,_,_,_,_,YL t l k.b id hl ha,?_⟩;unfold nD;simp only[bD]
 cases h:(Lw t l k.b id).2
 ·exact ak rfl ⟨rfl,by trivial⟩
 ·exact ah rfl ⟨by simp,by trivial⟩
theorem ME (p:Pool) (k:Key) (ht:cG p.t≤1073741824) (hg:p.aL.length≤1073741823) (hl:p.au.length≤1073741824):an C eg [cY p,uE k] (vB ((p.au.any (fun v:Vol=>decide (k.b<v.size)&&nD p.t p.aL k v.cT)))) []:=by
 refine(Rm _ _ _ _ _ _ _ _ _ _ _ _ ?_).run
 have key:((p.au.drop 0).any (fun v:Vol=>decide (k.b<v.size)&&nD p.t p.aL k v.cT))=(p.au.any (fun v:Vol=>decide (k.b<v.size)&&nD p.t p.aL k v.cT))→aa C eg aj 4 0 (jA (p.au.map cg) ((0:Nat):Int) (p.t.aE.map bO) (p.t.nodes.map aQ) (p.aL.map bQ) (p.cells.map bL) p.next k.b k.a k.k k.c k.g) (fun u st=>ax C eg aj u st fun r fs=>r=vB ((p.au.any (fun v:Vol=>decide (k.b<v.size)&&nD p.t p.aL k v.cT)))∧fs=[]):=by
  refine aZ p.au (fun i=>((p.au.drop i).any (fun v:Vol=>decide (k.b<v.size)&&nD p.t p.aL k v.cT))=(p.au.any (fun v:Vol=>decide (k.b<v.size)&&nD p.t p.aL k v.cT))→aa C eg aj 4 0 (jA (p.au.map cg) i (p.t.aE.map bO) (p.t.nodes.map aQ) (p.aL.map bQ) (p.cells.map bL) p.next k.b k.a k.k k.c k.g) (fun u st=>ax C eg aj u st fun r fs=>r=vB ((p.au.any (fun v:Vol=>decide (k.b<v.size)&&nD p.t p.aL k v.cT)))∧fs=[])) ?_ ?_
  ·intro h0
   refine Bi _ _ _ _ _ _ _ _ _ _ _ _ _ (ak cW (M3 _ _ _ _ _ _ _ _ _ _ _ _ _ _ _ ?_));rw[eu] at h0;simp only[List.any_nil,dx] at h0;rw[←h0];exact⟨rfl,by trivial⟩
  ·intro i a hi ha hd uC hn h0
   have gO:(fun v:Vol=>decide (k.b<v.size)&&nD p.t p.aL k v.cT) a=true→(p.au.any (fun v:Vol=>decide (k.b<v.size)&&nD p.t p.aL k v.cT))=true:=fun e=>by rw[←h0,hd];simp[e]
   have gN:(fun v:Vol=>decide (k.b<v.size)&&nD p.t p.aL k v.cT) a=false→aa C eg aj 4 0 (jA (p.au.map cg) ((i:Int)+1) (p.t.aE.map bO) (p.t.nodes.map aQ) (p.aL.map bQ) (p.cells.map bL) p.next k.b k.a k.k k.c k.g) (fun u st=>ax C eg aj u st fun r fs=>r=vB ((p.au.any (fun v:Vol=>decide (k.b<v.size)&&nD p.t p.aL k v.cT)))∧fs=[]):=fun e=>hn (by rw[←h0,hd];simp[e]);refine Bi _ _ _ _ _ _ _ _ _ _ _ _ _ (ah eI ?_)
   have hh: ∀q,an C K8 [dW p.t,gx p.aL,uE k,vI a.cT] (vB q) []↔q=nD p.t p.aL k a.cT:=fun q=>vL (YM p.t p.aL k a.cT ht hg);simp only[yQ,hh,dh,bI,aH,ha,aY,dm,dy,bT,fz,g6,eo,fA,dQ,fC,fD,g7,cQ,natAdd,bX,cF,gK,dx,jT];rw[aG ay]
   by_cases h1:k.b<a.size<;>cases h2:nD p.t p.aL k a.cT<;>simp only[h1,if_true,if_false,kY,lI]<;>first|exact gN (by simp[h1,h2])|exact M0 _ _ _ _ _ _ _ _ _ _ _ _ _ _ _ _ (by rw[gO (by simp[h1,h2])];exact⟨rfl,by trivial⟩)
 exact key rfl
theorem Lf (p:Pool) (k:Key) (ht:cG p.t≤1073741824) (hg:p.aL.length≤1073741823) (hl:p.au.length≤1073741824):an C eg [cY p,uE k] (vB (PU p k)) []:=ME p k ht hg hl
theorem jj (p:Pool) (s:ByteArray) (hl:p.au.length≤1073741824):an C dZ [cY p,vS s] (vI (bZ p.au s)) []:=by
 refine(acL _ _ _ _ _ _ _ _ ?_).run
 have key:eR (fun v:Vol=>decide (v.name=s)) (p.au.drop 0) ((0:Nat):Int)=eR (fun v:Vol=>decide (v.name=s)) p.au 0→aa C dZ aj 4 0 (tD s ((0:Nat):Int) (p.t.aE.map bO) (p.t.nodes.map aQ) (p.aL.map bQ) (p.cells.map bL) (p.au.map cg) p.next) (fun u st=>ax C dZ aj u st fun r fs=>r=vI (bZ p.au s)∧fs=[]):=by
  refine aZ p.au (fun i=>eR (fun v:Vol=>decide (v.name=s)) (p.au.drop i) (i:Int)=eR (fun v:Vol=>decide (v.name=s)) p.au 0→aa C dZ aj 4 0 (tD s i (p.t.aE.map bO) (p.t.nodes.map aQ) (p.aL.map bQ) (p.cells.map bL) (p.au.map cg) p.next) _) ?_ ?_
  ·intro h0
   refine Kx _ _ _ _ _ _ _ _ _ (ak cW (Xw _ _ _ _ _ _ _ _ _ _ ?_));rw[eu] at h0;simp only[eR] at h0;change _=vI (eR (fun v:Vol=>decide (v.name=s)) p.au 0)∧_;rw[←h0];exact⟨rfl,by trivial⟩
  ·intro i a hi ha hd uC hn h0
   refine Kx _ _ _ _ _ _ _ _ _ (ah eI ?_);rw[hd] at h0;simp only[eR] at h0;simp only[yQ,FK,bI,aH,ha,aY,dm,dy,bT,fz,g6,eo,fA,dQ,fC,fD,g7,cQ,natAdd,bX,cF,gK,dx,jT];rw[aG ay]
   split at h0
   ·rename_i hp
    have hp:=yp hp
    first|rw[aI hp]|rw[aI hp.symm]
    refine Xv _ _ _ _ _ _ _ _ ?_;rw[h0];exact⟨rfl,by trivial⟩
   ·rename_i hp
    have hp: ¬_:=fun h=>hp (fj h)
    first|rw[aF hp]|rw[aF (fun h=>hp h.symm)]
    exact hn h0
 exact key rfl
@[simp] theorem WR (n:ByteArray) (a z:Int) (f:Bool) (s:ByteArray) (q:Bool):an C zT [.ag [iS n,iI a,iI z,iB f],.bx [iS s]] (vB q) []↔q=decide (n=s):=vL (by
  refine(Xu _ _ _ _ _ _ ?_).run
  simp)
theorem YO (l:List Vol) (s:ByteArray) (hl:l.length≤1073741824):an C aK [qR l,.fn zT [[iS s]]] (vI (bZ l s)) []:=by
 refine(uW _ _ _ ?_).run
 have key:eR (fun v:Vol=>decide (v.name=s)) (l.drop 0) ((0:Nat):Int)=eR (fun v:Vol=>decide (v.name=s)) l 0→aa C aK aj 4 0 (ew (l.map cg) ((0:Nat):Int) s) (fun u st=>ax C aK aj u st fun r fs=>r=vI (bZ l s)∧fs=[]):=by
  refine aZ l (fun i=>eR (fun v:Vol=>decide (v.name=s)) (l.drop i) (i:Int)=eR (fun v:Vol=>decide (v.name=s)) l 0→aa C aK aj 4 0 (ew (l.map cg) i s) _) ?_ ?_
  ·intro h0
   refine mz _ _ _ _ (ak cW (uk _ _ _ _ _ _ ?_));rw[eu] at h0;simp only[eR] at h0;change _=vI (eR (fun v:Vol=>decide (v.name=s)) l 0)∧_;rw[←h0];exact⟨rfl,by trivial⟩
  ·intro i a hi ha hd uC hn h0
   refine mz _ _ _ _ (ah eI ?_);rw[hd] at h0;simp only[eR] at h0;simp only[yQ,bD,WR,bI,aH,ha,aY,dm,dy,bT,fz,g6,eo,fA,dQ,fC,fD,g7,cQ,natAdd,bX,cF,gK,dx,jT];rw[aG ay]
   split at h0
   ·rename_i hp
    have hp:=yp hp
    first|rw[aI hp]|rw[aI hp.symm]
    refine uj _ _ _ ?_;rw[h0];exact⟨rfl,by trivial⟩
   ·rename_i hp
    have hp: ¬_:=fun h=>hp (fj h)
    first|rw[aF hp]|rw[aF (fun h=>hp h.symm)]
    exact hn h0
 exact key rfl
theorem lP (p:Pool) (s:ByteArray) (hl:p.au.length≤1073741824):an C vR [cY p,vS s] (vI (bZ p.au s)) []:=(acG _ _ _ _ _ _ _ _ ⟨_,YO p.au s hl,rfl,by trivial⟩).run
@[simp] theorem YP (n:ByteArray) (a z:Int) (f:Bool) (id:Int) (q:Bool):an C yG [.ag [iS n,iI a,iI z,iB f],.bx [iI id]] (vB q) []↔q=decide (a=id):=vL (by
  refine(Z6 _ _ _ _ _ _ ?_).run
  simp)
theorem Lg (l:List Vol) (id:Int) (hl:l.length≤1073741824):an C aK [qR l,.fn yG [[iI id]]] (vI (eR (fun v:Vol=>decide (v.cT=id)) l 0)) []:=by
 refine(vY _ _ _ ?_).run
 have key:eR (fun v:Vol=>decide (v.cT=id)) (l.drop 0) ((0:Nat):Int)=eR (fun v:Vol=>decide (v.cT=id)) l 0→aa C aK aj 4 0 (eF (l.map cg) ((0:Nat):Int) id) (fun u st=>ax C aK aj u st fun r fs=>r=vI (eR (fun v:Vol=>decide (v.cT=id)) l 0)∧fs=[]):=by
  refine aZ l (fun i=>eR (fun v:Vol=>decide (v.cT=id)) (l.drop i) (i:Int)=eR (fun v:Vol=>decide (v.cT=id)) l 0→aa C aK aj 4 0 (eF (l.map cg) i id) _) ?_ ?_
  ·intro h0
   refine mQ _ _ _ _ (ak cW (uH _ _ _ _ _ _ ?_));rw[eu] at h0;simp only[eR] at h0;change _=vI (eR (fun v:Vol=>decide (v.cT=id)) l 0)∧_;rw[←h0];exact⟨rfl,by trivial⟩
  ·intro i a hi ha hd uC hn h0
   refine mQ _ _ _ _ (ah eI ?_);rw[hd] at h0;simp only[eR] at h0;simp only[yQ,bD,YP,bI,aH,ha,aY,dm,dy,bT,fz,g6,eo,fA,dQ,fC,fD,g7,cQ,natAdd,bX,cF,gK,dx,jT];rw[aG ay]
   split at h0
   ·rename_i hp
    have hp:=yp hp
    first|rw[aI hp]|rw[aI hp.symm]
    refine uG _ _ _ ?_;rw[h0];exact⟨rfl,by trivial⟩
   ·rename_i hp
    have hp: ¬_:=fun h=>hp (fj h)
    first|rw[aF hp]|rw[aF (fun h=>hp h.symm)]
    exact hn h0
 exact key rfl
theorem Lh (l:List Vol) (id:Int) (hl:l.length≤1073741824):an C fo [qR l,.fn yG [[iI id]]] (vB (l.any (fun v:Vol=>decide (v.cT=id)))) []:=by
 refine(um _ _ _ ⟨_,Lg l id hl,?_⟩).run;(try dsimp only);rw[gj,NU _ _ _ ay];exact⟨rfl,by trivial⟩
@[simp] theorem SK (n:ByteArray) (a z:Int) (f:Bool) (s:ByteArray) (a' z':Int) (f':Bool) (q:Bool):an C rK [.ag [iS n,iI a,iI z,iB f],.bx [iS s,iI a',iI z',iB f']] (vB q) []↔q=decide (a=a'):=vL (by
  refine(Vb _ _ _ _ _ _ _ _ _ ?_).run
  simp)
theorem IZ (l:List Vol) (s:ByteArray) (a' z':Int) (f':Bool) (hl:l.length≤1073741824):an C aK [qR l,.fn rK [[iS s,iI a',iI z',iB f']]] (vI (eR (fun v:Vol=>decide (v.cT=a')) l 0)) []:=by
 refine(uI _ _ _ _ _ _ ?_).run
 have key:eR (fun v:Vol=>decide (v.cT=a')) (l.drop 0) ((0:Nat):Int)=eR (fun v:Vol=>decide (v.cT=a')) l 0→aa C aK aj 4 0 (ek (l.map cg) ((0:Nat):Int) s a' z' f') (fun u st=>ax C aK aj u st fun r fs=>r=vI (eR (fun v:Vol=>decide (v.cT=a')) l 0)∧fs=[]):=by
  refine aZ l (fun i=>eR (fun v:Vol=>decide (v.cT=a')) (l.drop i) (i:Int)=eR (fun v:Vol=>decide (v.cT=a')) l 0→aa C aK aj 4 0 (ek (l.map cg) i s a' z' f') _) ?_ ?_
  ·intro h0
   refine lT _ _ _ _ _ _ _ (ak cW (tG _ _ _ _ _ _ _ _ _ ?_));rw[eu] at h0;simp only[eR] at h0;change _=vI (eR (fun v:Vol=>decide (v.cT=a')) l 0)∧_;rw[←h0];exact⟨rfl,by trivial⟩
  ·intro i a hi ha hd uC hn h0
   refine lT _ _ _ _ _ _ _ (ah eI ?_);rw[hd] at h0;simp only[eR] at h0;simp only[yQ,bD,SK,bI,aH,ha,aY,dm,dy,bT,fz,g6,eo,fA,dQ,fC,fD,g7,cQ,natAdd,bX,cF,gK,dx,jT];rw[aG ay]
   split at h0
   ·rename_i hp
    have hp:=yp hp
    first|rw[aI hp]|rw[aI hp.symm]
    refine tF _ _ _ _ _ _ ?_;rw[h0];exact⟨rfl,by trivial⟩
   ·rename_i hp
    have hp: ¬_:=fun h=>hp (fj h)
    first|rw[aF hp]|rw[aF (fun h=>hp h.symm)]
    exact hn h0
 exact key rfl
theorem I0 (l:List Vol) (s:ByteArray) (a' z':Int) (f':Bool) (hl:l.length≤1073741824):an C fo [qR l,.fn rK [[iS s,iI a',iI z',iB f']]] (vB (l.any (fun v:Vol=>decide (v.cT=a')))) []:=by
 refine(sG _ _ _ _ _ _ ⟨_,IZ l s a' z' f' hl,?_⟩).run;(try dsimp only);rw[gj,NU _ _ _ ay];exact⟨rfl,by trivial⟩
theorem LH (p:Pool) (id:Int) (hl:p.au.length≤1073741824):an C K6 [cY p,vI id] (vB (qS p.au id)) []:=(ae8 _ _ _ _ _ _ _ _ ⟨_,Lh p.au id hl,rfl,by trivial⟩).run
theorem Ql (n:List (List Key)) (hb:n.length≤1073741824) (hl:tot bY n≤1073741824):an C jq [g9 n] (vI (dg n)) []:=by
 refine(Xp _ _ ?_).run
 have key: ∀(c:Nat),c+tot bY (n.drop 0)=dg n→aa C jq ai 4 0 (qe c ((0:Nat):Int) (n.map cU)) (fun u st=>ax C jq ai u st fun r fs=>r=(vI (dg n))∧fs=[]):=by
  refine aZ n (fun i=> ∀(c:Nat),c+tot bY (n.drop i)=dg n→aa C jq ai 4 0 (qe c i (n.map cU)) (fun u st=>ax C jq ai u st fun r fs=>r=(vI (dg n))∧fs=[])) ?_ ?_
  ·intro c h0
   refine E6 _ _ _ _ (ak cW (Rc _ _ _ _ _ ?_));rw[eu] at h0;simp only[tot,xC] at h0;rw[h0];exact⟨rfl,by trivial⟩
  ·intro i a hi ha hd ht hn c h0
   refine E6 _ _ _ _ (ah eI ?_);rw[hd] at h0;have e5:tot bY (a::n.drop (i+1))=a.length+tot bY (n.drop (i+1)):=rfl;rw[e5] at h0;unfold dg at h0;simp only[xS,aH,ha,aY,dm,dy,bT,fz,g6,eo,fA,dQ,fC,fD,g7,cQ,natAdd,bX,cF,gK,dx,jT];rw[aG (by simp only[lU];omega),aG ay];exact hn (c+a.length) (by unfold dg;omega)
 exact key 0 (by simp[dg])
theorem Qm (n:List (List Key)) (hs:tot bY n≤1073741824) (hl:n.length≤1073741824):an C cv [g9 n] (vB ((n.all eH&&(decide (n.length≤3)&&decide (dg n≤8))))) []:=by
 refine(aaq _ _ ?_).run
 have key:((n.drop 0).all eH&&(decide (n.length≤3)&&decide (dg n≤8)))=(n.all eH&&(decide (n.length≤3)&&decide (dg n≤8)))→aa C cv aj 4 0 (og ((0:Nat):Int) (n.map cU)) (fun u st=>ax C cv aj u st fun r fs=>r=vB ((n.all eH&&(decide (n.length≤3)&&decide (dg n≤8))))∧fs=[]):=by
  refine aZ n (fun i=>((n.drop i).all eH&&(decide (n.length≤3)&&decide (dg n≤8)))=(n.all eH&&(decide (n.length≤3)&&decide (dg n≤8)))→aa C cv aj 4 0 (og i (n.map cU)) (fun u st=>ax C cv aj u st fun r fs=>r=vB ((n.all eH&&(decide (n.length≤3)&&decide (dg n≤8))))∧fs=[])) ?_ ?_
  ·intro h0
   refine IP _ _ _ (ak cW (U4 _ _ _ _ ?_));rw[eu] at h0;simp only[qO,dx] at h0;rw[←h0];simp only[gj,bX,lU,bI]
   by_cases h3:n.length≤3
   ·rw[aI ay]
    refine⟨_,Ql n hl hs,?_⟩;simp[h3];omega
   ·rw[aF ay]
    simp[h3]
  ·intro i a hi ha hd uC hn h0
   have gO:eH a=false→(n.all eH&&(decide (n.length≤3)&&decide (dg n≤8)))=false:=fun e=>by rw[←h0,hd];simp[e]
   have gN:eH a=true→aa C cv aj 4 0 (og ((i:Int)+1) (n.map cU)) (fun u st=>ax C cv aj u st fun r fs=>r=vB ((n.all eH&&(decide (n.length≤3)&&decide (dg n≤8))))∧fs=[]):=fun e=>hn (by rw[←h0,hd];simp[e]);refine IP _ _ _ (ah eI ?_);have hz:a.length≤tot bY n:=oB (w:=bY) ha;have hh: ∀q,an C gW [dL a] (vB q) []↔q=Jy a:=fun q=>acu a ay q;simp only[xS,hh,bD,lU,bI,aH,ha,aY,dm,dy,bT,fz,g6,eo,fA,dQ,fC,fD,g7,cQ,natAdd,bX,cF,gK,dx,jT]
   rw[aG ay]
   cases h1:Jy a<;>by_cases h2:a.length=0<;>simp only[kY,lI]<;>first|(rw[aI ay];exact IQ _ _ (by rw[gO (by simp[eH,h1,h2])];exact⟨rfl,by trivial⟩))|(rw[aF ay];exact gN (by simp[eH,h1,h2]))|exact IQ _ _ (by rw[gO (by simp[eH,h1,h2])];exact⟨rfl,by trivial⟩)
 exact key rfl
theorem yT (n:List (List Key)) (hb:n.length≤1073741824) (hl:tot bY n≤1073741824):an C cv [g9 n] (vB (iF n)) []:=by
 have:=Qm n hl hb;rw[aba];exact this
theorem yU (l:List Age) (hl:l.length≤1073741824):an C dD [gx l] (vB ((dS l.length (gu l)&&decide (l.length≤16)))) []:=by
 refine(ZV _ _ ?_).run
 have key:((om 0 (l.length-0)).all (gu l)&&decide (l.length≤16))=(dS l.length (gu l)&&decide (l.length≤16))→aa C dD aj 4 0 (ju (l.map bQ) ((0:Nat):Int)) (fun u st=>ax C dD aj u st fun r fs=>r=vB ((dS l.length (gu l)&&decide (l.length≤16)))∧fs=[]):=by
  refine sX (l.length) (fun i=>((om i (l.length-i)).all (gu l)&&decide (l.length≤16))=(dS l.length (gu l)&&decide (l.length≤16))→aa C dD aj 4 0 (ju (l.map bQ) i) (fun u st=>ax C dD aj u st fun r fs=>r=vB ((dS l.length (gu l)&&decide (l.length≤16)))∧fs=[])) ?_ ?_
  ·intro h0
   refine Iu _ _ _ (ak cW (Uo _ _ _ _ ?_));rw[qP] at h0;simp only[Gj,qO,dx] at h0;rw[←h0];simp[gj];omega
  ·intro i hi hn h0
   rw[nC hi,ql] at h0
   have gO:(gu l) i=false→(dS l.length (gu l)&&decide (l.length≤16))=false:=fun e=>by rw[←h0,e];rfl
   have gN:(gu l) i=true→aa C dD aj 4 0 (ju (l.map bQ) ((i:Int)+1)) (fun u st=>ax C dD aj u st fun r fs=>r=vB ((dS l.length (gu l)&&decide (l.length≤16)))∧fs=[]):=fun e=>hn (by rw[←h0,e];rfl);refine Iu _ _ _ (ah eI ?_);have ha:l[i]?=some l[i]:=ck hi;have hh: ∀q,an C ee [gx (l.take i),vI l[i].fr] (vI q) []↔q=fk (l.take i) l[i].fr:=fun q=>F6 (l.take i) l[i].fr eI q
   have xw:aC (l.map bQ) 0 (i:Int)=(l.take i).map bQ:=by rw[cJ,lV];rfl
   have hin:gf 0 (i:Int) (l.length:Int)=true:=by simp;omega
   simp only[wQ,DR,xw,aH,ha,aY,dm,dy,bT,fz,g6,eo,fA,dQ,fC,fD,g7,cQ,natAdd,bX,cF,gK,dx,jT];simp only[ha,hin,hh,dy,aY,dm,kY,bD,gj,dh,bI,lU,bX];rw[aG ay]
   cases i with
   |zero=>
    have e:gu l 0=(iA l[0].id 1 60&&(decide (l[0].fr=0)|| !decide (fk (l.take 0) l[0].fr<0))):=by simp[gu,atL,jv,hi]
    rw[e] at gO gN
    have hz: ¬((0:Int)<((0:Nat):Int)):=by omega
    simp only[aF hz]
    cases h1:iA l[0].id 1 60 with
    |false=>simp only[lI];exact rE _ (by rw[gO (by rw[h1];simp)];exact⟨rfl,by trivial⟩)
    |true=>
     simp only[kY]
     by_cases h2:l[0].fr=0
     ·rw[aI h2];exact gN (by rw[h1,fj h2];simp)
     ·rw[aF h2]
      by_cases h3:fk (l.take 0) l[0].fr<0
      ·rw[aI h3];exact rE _ (by rw[gO (by rw[e9 h2,fj h3];simp)];exact⟨rfl,by trivial⟩)
      ·rw[aF h3];exact gN (by rw[h1,e9 h3];simp)
   |succ k=>
    have hk:l[k]?=some l[k]:=ck ay
    have e:gu l (k+1)=(iA l[k+1].id 1 60&&(decide (l[k].id<l[k+1].id)&&(decide (l[k+1].fr=0)|| !decide (fk (l.take (k+1)) l[k+1].fr<0)))):=by simp only[gu,atL,jv,hk,ha]
    rw[e] at gO gN;rw[de ay,show((k+1:Nat):Int)-1=(k:Int) by omega];simp only[aH,hk,aY,dm];rw[aI ay]
    cases h1:iA l[k+1].id 1 60 with
    |false=>simp only[lI];exact rE _ (by rw[gO (by rw[h1];simp)];exact⟨rfl,by trivial⟩)
    |true=>
     simp only[kY]
     by_cases h4:l[k].id<l[k+1].id
     ·rw[aF ay]
      by_cases h2:l[k+1].fr=0
      ·rw[aI h2];exact gN (by rw[h1,fj h4,fj h2];simp)
      ·rw[aF h2]
       by_cases h3:fk (l.take (k+1)) l[k+1].fr<0
       ·rw[aI h3];exact rE _ (by rw[gO (by rw[e9 h2,fj h3];simp)];exact⟨rfl,by trivial⟩)
       ·rw[aF h3];exact gN (by rw[h1,fj h4,e9 h3];simp)
     ·rw[aI ay];exact rE _ (by rw[gO (by rw[e9 h4];simp)];exact⟨rfl,by trivial⟩)
 exact key rfl
theorem YQ (l:List Age) (hl:l.length≤1073741824) (q:Bool):an C dD [gx l] (vB q) []↔q=gU l:=vL (yU l hl)
theorem Qn (n:List (List Key)) (hb:n.length≤1073741824) (hl:tot bY n≤1073741824):an C cm [g9 n] (vB (n.all eH&&(decide (n.length≤3)&&decide (dg n≤8)))) []:=by
 refine(Zl _ _ ?_).run
 have key: ∀(c:Nat),c+tot bY (n.drop 0)=dg n→((n.drop 0).all eH&&(decide (n.length≤3)&&decide (dg n≤8)))=(n.all eH&&(decide (n.length≤3)&&decide (dg n≤8)))→aa C cm ai 4 0 (qZ c (n.map cU) ((0:Nat):Int)) (fun u st=>ax C cm ai u st fun r fs=>r=(vB (n.all eH&&(decide (n.length≤3)&&decide (dg n≤8))))∧fs=[]):=by
  refine aZ n (fun i=> ∀(c:Nat),c+tot bY (n.drop i)=dg n→((n.drop i).all eH&&(decide (n.length≤3)&&decide (dg n≤8)))=(n.all eH&&(decide (n.length≤3)&&decide (dg n≤8)))→aa C cm ai 4 0 (qZ c (n.map cU) i) (fun u st=>ax C cm ai u st fun r fs=>r=(vB (n.all eH&&(decide (n.length≤3)&&decide (dg n≤8))))∧fs=[])) ?_ ?_
  ·intro c h0 h1
   refine HX _ _ _ _ (ak cW (To _ _ _ _ _ _ ?_));rw[eu] at h0 h1;simp only[tot,xC] at h0;simp only[qO,dx] at h1;rw[←h1];simp only[gj,bX,lU,bI]
   by_cases h3:n.length≤3
   ·rw[aI ay]
    simp[h3];omega
   ·rw[aF ay]
    simp[h3]
  ·intro i a hi ha hd ht hn c h0 h1
   refine HX _ _ _ _ (ah eI ?_);have hz:a.length≤tot bY n:=oB (w:=bY) ha;have hh: ∀q,an C gV [dL a] (vB q) []↔q=Jy a:=fun q=>acv a ay q;rw[hd] at h0 h1;have e5:tot bY (a::n.drop (i+1))=a.length+tot bY (n.drop (i+1)):=rfl;rw[e5] at h0;unfold dg at h0;have hO:eH a=false→ax C cm ai TX.ret (vk (n.map cU)) (fun r fs=>r=vB (n.all eH&&(decide (n.length≤3)&&decide (dg n≤8)))∧fs=[]):=fun e=>Tm _ _ (by rw[←h1];simp only[ql,e];exact⟨rfl,by trivial⟩)
   simp only[xS,hh,bD,lU,bI,aH,ha,aY,dm,dy,bT,fz,g6,eo,fA,dQ,fC,fD,g7,cQ,natAdd,bX,cF,gK,dx,jT];rw[aG ay,aG ay]
   cases h2:Jy a<;>by_cases h3:a.length=0<;>simp only[kY,lI]
   ·exact hO (by simp[eH,h2])
   ·exact hO (by simp[eH,h2])
   ·rw[aI ay];exact hO (by simp[eH,h3])
   ·rw[aF ay]
    exact hn (c+a.length) (by unfold dg;omega) (by rw[←h1];simp[eH,h2,h3])
 exact key 0 (by simp[dg]) rfl
theorem yV (n:List (List Key)) (hb:n.length≤1073741824) (hl:tot bY n≤1073741824):an C cm [g9 n] (vB (iF n)) []:=by
 have:=Qn n hb hl;rw[aba];exact this
theorem YR (n:List (List Key)) (hb:n.length≤1073741824) (hl:tot bY n≤1073741824) (q:Bool):an C cm [.ag [.sub 1 (n.map cU)]] (vB q) []↔q=iF n:=vL (yV n hb hl)
theorem yW (l:List Age) (hl:l.length≤1073741824):an C dG [gx l] (vB ((dS l.length (gu l)&&decide (l.length≤16)))) []:=by
 refine(ZA _ _ ?_).run
 have key:((om 0 (l.length-0)).all (gu l)&&decide (l.length≤16))=(dS l.length (gu l)&&decide (l.length≤16))→aa C dG aj 4 0 (jt (l.map bQ) ((0:Nat):Int)) (fun u st=>ax C dG aj u st fun r fs=>r=vB ((dS l.length (gu l)&&decide (l.length≤16)))∧fs=[]):=by
  refine sX (l.length) (fun i=>((om i (l.length-i)).all (gu l)&&decide (l.length≤16))=(dS l.length (gu l)&&decide (l.length≤16))→aa C dG aj 4 0 (jt (l.map bQ) i) (fun u st=>ax C dG aj u st fun r fs=>r=vB ((dS l.length (gu l)&&decide (l.length≤16)))∧fs=[])) ?_ ?_
  ·intro h0
   refine Ib _ _ _ (ak cW (TP _ _ _ _ _ ?_));rw[qP] at h0;simp only[Gj,qO,dx] at h0;rw[←h0];simp[gj];omega
  ·intro i hi hn h0
   rw[nC hi,ql] at h0
   have gO:(gu l) i=false→(dS l.length (gu l)&&decide (l.length≤16))=false:=fun e=>by rw[←h0,e];rfl
   have gN:(gu l) i=true→aa C dG aj 4 0 (jt (l.map bQ) ((i:Int)+1)) (fun u st=>ax C dG aj u st fun r fs=>r=vB ((dS l.length (gu l)&&decide (l.length≤16)))∧fs=[]):=fun e=>hn (by rw[←h0,e];rfl);refine Ib _ _ _ (ah eI ?_);have ha:l[i]?=some l[i]:=ck hi;have hh: ∀q,an C iP [gx (l.take i),vI l[i].fr] (vI q) []↔q=fk (l.take i) l[i].fr:=fun q=>F7 (l.take i) l[i].fr eI q
   have xw:aC (l.map bQ) 0 (i:Int)=(l.take i).map bQ:=by rw[cJ,lV];rfl
   have hin:gf 0 (i:Int) (l.length:Int)=true:=by simp;omega
   simp only[wQ,w7,xw,aH,ha,aY,dm,dy,bT,fz,g6,eo,fA,dQ,fC,fD,g7,cQ,natAdd,bX,cF,gK,dx,jT];simp only[ha,hin,hh,dy,aY,dm,kY,bD,gj,dh,bI,lU,bX];rw[aG ay]
   cases i with
   |zero=>
    have e:gu l 0=(iA l[0].id 1 60&&(decide (l[0].fr=0)|| !decide (fk (l.take 0) l[0].fr<0))):=by simp[gu,atL,jv,hi]
    rw[e] at gO gN
    have hz: ¬((0:Int)<((0:Nat):Int)):=by omega
    simp only[aF hz]
    cases h1:iA l[0].id 1 60 with
    |false=>simp only[lI];exact rD _ _ _ (by rw[gO (by rw[h1];simp)];exact⟨rfl,by trivial⟩)
    |true=>
     simp only[kY]
     by_cases h2:l[0].fr=0
     ·rw[aI h2];exact gN (by rw[h1,fj h2];simp)
     ·rw[aF h2]
      by_cases h3:fk (l.take 0) l[0].fr<0
      ·rw[aI h3];exact rD _ _ _ (by rw[gO (by rw[e9 h2,fj h3];simp)];exact⟨rfl,by trivial⟩)
      ·rw[aF h3];exact gN (by rw[h1,e9 h3];simp)
   |succ k=>
    have hk:l[k]?=some l[k]:=ck ay
    have e:gu l (k+1)=(iA l[k+1].id 1 60&&(decide (l[k].id<l[k+1].id)&&(decide (l[k+1].fr=0)|| !decide (fk (l.take (k+1)) l[k+1].fr<0)))):=by simp only[gu,atL,jv,hk,ha]
    rw[e] at gO gN;rw[de ay,show((k+1:Nat):Int)-1=(k:Int) by omega];simp only[aH,hk,aY,dm];rw[aI ay]
    cases h1:iA l[k+1].id 1 60 with
    |false=>simp only[lI];exact rD _ _ _ (by rw[gO (by rw[h1];simp)];exact⟨rfl,by trivial⟩)
    |true=>
     simp only[kY]
     by_cases h4:l[k].id<l[k+1].id
     ·rw[aF ay]
      by_cases h2:l[k+1].fr=0
      ·rw[aI h2];exact gN (by rw[h1,fj h4,fj h2];simp)
      ·rw[aF h2]
       by_cases h3:fk (l.take (k+1)) l[k+1].fr<0
       ·rw[aI h3];exact rD _ _ _ (by rw[gO (by rw[e9 h2,fj h3];simp)];exact⟨rfl,by trivial⟩)
       ·rw[aF h3];exact gN (by rw[h1,fj h4,e9 h3];simp)
     ·rw[aI ay];exact rD _ _ _ (by rw[gO (by rw[e9 h4];simp)];exact⟨rfl,by trivial⟩)
 exact key rfl
theorem YS (l:List Age) (hl:l.length≤1073741824) (q:Bool):an C dG [gx l] (vB q) []↔q=gU l:=vL (yW l hl)
@[simp] theorem LI (b a q:Int):an C B9 [vI b,vI a] (vI q) []↔q=jV b a:=ake ((ZK _ _ _ ⟨rfl,by trivial⟩).run)
@[simp] theorem LJ (b a k c g q:Int):an C qu [.ag [iI b,iI a,iI k,iI c,iI g]] (vI q) []↔q=jV b a:=ake (by
  refine(aak _ _ _ _ _ _ ?_).run;simp only[LI,dy]
  simp)
@[simp] theorem DT (b a q:Int):an C yD [vI b,vI a] (vI q) []↔q=jV b a:=ake ((Zh _ _ _ ⟨rfl,by trivial⟩).run)
theorem Qo (t:Tree) (i:Nat) (n:List (List Key)) (hi:i<t.aE.length) (hl:cG t≤1073741824) (hn:n.length≤1073741824) (hz:tot bY n≤1073741824):aa C bW av 4 0 (kz i ((0:Nat):Int) (t.aE.map bO) (t.nodes.map aQ) (n.map cU)) (fun u st=>ax C bW av u st fun r fs=>r=vB (n.all (cD t.aE i))∧fs=[]):=by
 have hll:t.aE.length≤1073741824:=by unfold cG at hl;omega
 have hlo:t.aE[i]?=some t.aE[i]:=ck hi
 have key:(n.drop 0).all (cD t.aE i)=n.all (cD t.aE i)→aa C bW av 4 0 (kz i ((0:Nat):Int) (t.aE.map bO) (t.nodes.map aQ) (n.map cU)) (fun u st=>ax C bW av u st fun r fs=>r=vB (n.all (cD t.aE i))∧fs=[]):=by
  refine aZ n (fun k=>(n.drop k).all (cD t.aE i)=n.all (cD t.aE i)→aa C bW av 4 0 (kz i k (t.aE.map bO) (t.nodes.map aQ) (n.map cU)) (fun u st=>ax C bW av u st fun r fs=>r=vB (n.all (cD t.aE i))∧fs=[])) ?_ ?_
  ·intro h0
   refine HV _ _ _ _ _ _ (ak cW (Ti _ _ _ _ _ _ _ ?_));rw[eu] at h0;simp only[qO] at h0;rw[←h0];exact⟨rfl,by trivial⟩
  ·intro k s hk hs hd uC hnext h0
   have hsl:s.length≤tot bY n:=oB (w:=bY) hs;rw[hd,ql] at h0;refine HV _ _ _ _ _ _ (ah eI ?_)
   have keyI:(s.drop 0).all (jG t.aE i)=s.all (jG t.aE i)→aa C bW iu 3 2 (mF i k ((0:Nat):Int) (t.aE.map bO) (t.nodes.map aQ) (n.map cU)) (fun u st=>qy C bW av 4 0 ze u st (fun u st=>ax C bW av u st fun r fs=>r=vB (n.all (cD t.aE i))∧fs=[])):=by
    refine aZ s (fun j=>(s.drop j).all (jG t.aE i)=s.all (jG t.aE i)→aa C bW iu 3 2 (mF i k j (t.aE.map bO) (t.nodes.map aQ) (n.map cU)) (fun u st=>qy C bW av 4 0 ze u st (fun u st=>ax C bW av u st fun r fs=>r=vB (n.all (cD t.aE i))∧fs=[]))) ?_ ?_
    ·intro h1
     rw[eu] at h1;simp only[qO] at h1;refine HW _ _ _ _ _ _ _ (⟨_,c8 hs,ak cW (Tk _ _ _ _ _ _ _ _ ?_)⟩);rw[aG ay];exact hnext (by rw[←h0];unfold cD;rw[←h1];simp)
    ·intro j x hj hx hdj htj hn2 h1
     rw[hdj,ql] at h1
     have gO:jG t.aE i x=false→qy C bW av 4 0 ze TX.ret (vj (t.aE.map bO) (t.nodes.map aQ) (n.map cU)) (fun u st=>ax C bW av u st fun r fs=>r=vB (n.all (cD t.aE i))∧fs=[]):=fun e=>Tj _ _ _ _ (Tl _ _ _ _ (by
      have e2:cD t.aE i s=false:=by unfold cD;rw[←h1,e];rfl
      rw[←h0,e2];exact⟨rfl,by trivial⟩))
     have gN:jG t.aE i x=true→aa C bW iu 3 2 (mF i k ((j:Int)+1) (t.aE.map bO) (t.nodes.map aQ) (n.map cU)) (fun u st=>qy C bW av 4 0 ze u st (fun u st=>ax C bW av u st fun r fs=>r=vB (n.all (cD t.aE i))∧fs=[])):=fun e=>hn2 (by rw[←h1,e];rfl)
     have e:jG t.aE i x=(!decide (jV x.b x.a<t.aE[i])&&(match t.aE[i+1]? with|some hi=>decide (jV x.b x.a<hi)|none=>true)):=by simp only[jG,af4,hlo];rfl
     rw[e] at gO gN;refine HW _ _ _ _ _ _ _ (⟨_,c8 hs,ah eI ⟨_,c8 hs,?_⟩⟩);rw[aG (a:=(i:Int)) ay,aG (a:=(j:Int)) ay];simp only[lJ,wP,aH,hx,hlo,aY,dm,LJ,dy,dh,gj,bI,bX,lU]
     by_cases h2:jV x.b x.a<t.aE[i]
     ·rw[aI h2]
      exact gO (by rw[fj h2];rfl)
     ·rw[aF h2]
      by_cases h3:i+1<t.aE.length
      ·have hhi:t.aE[i+1]?=some t.aE[i+1]:=ck h3
       rw[aI ay,show((i:Int)+1)=((i+1:Nat):Int) by omega,aH,hhi];simp only[aY,dm];rw[hhi] at gO gN
       by_cases h4:jV x.b x.a<t.aE[i+1]
       ·rw[aF ay]
        exact gN (by rw[e9 h2];simp[h4])
       ·rw[aI ay]
        exact gO (by simp[h4])
      ·rw[aF ay]
       have hno:t.aE[i+1]?=none:=Vz ay;rw[hno] at gN;exact gN (by rw[e9 h2];rfl)
   exact keyI rfl
 exact key rfl
theorem MF (t:Tree) (i:Nat) (n:List (List Key)) (hi:i<t.aE.length) (hl:cG t≤1073741824) (hn:n.length≤1073741824) (hz:tot bY n≤1073741824):aa C bG aj 4 0 (mq i (n.map cU) (n.length:Int) ((0:Nat):Int) (t.aE.map bO) (t.nodes.map aQ)) (fun u st=>ax C bG aj u st fun r fs=>r=vB (n.all (cD t.aE i))∧fs=[]):=by
 have hll:t.aE.length≤1073741824:=by unfold cG at hl;omega
 have hlo:t.aE[i]?=some t.aE[i]:=ck hi
 have key:(n.drop 0).all (cD t.aE i)=n.all (cD t.aE i)→aa C bG aj 4 0 (mq i (n.map cU) (n.length:Int) ((0:Nat):Int) (t.aE.map bO) (t.nodes.map aQ)) (fun u st=>ax C bG aj u st fun r fs=>r=vB (n.all (cD t.aE i))∧fs=[]):=by
  refine aZ n (fun k=>(n.drop k).all (cD t.aE i)=n.all (cD t.aE i)→aa C bG aj 4 0 (mq i (n.map cU) (n.length:Int) k (t.aE.map bO) (t.nodes.map aQ)) (fun u st=>ax C bG aj u st fun r fs=>r=vB (n.all (cD t.aE i))∧fs=[])) ?_ ?_
  ·intro h0
   refine De _ _ _ _ _ _ _ (ak cW (OR _ _ _ _ _ _ _ _ ?_));rw[eu] at h0;simp only[qO] at h0;rw[←h0];exact⟨rfl,by trivial⟩
  ·intro k s hk hs hd uC hnext h0
   have hsl:s.length≤tot bY n:=oB (w:=bY) hs;rw[hd,ql] at h0;refine De _ _ _ _ _ _ _ (ah eI ⟨_,c8 hs,?_⟩)
   have keyI:(s.drop 0).all (jG t.aE i)=s.all (jG t.aE i)→aa C bG pJ 3 2 (j9 i (n.map cU) (n.length:Int) k (s.map bP) ((0:Nat):Int) (t.aE.map bO) (t.nodes.map aQ)) (fun u st=>qy C bG aj 4 0 qX u st (fun u st=>ax C bG aj u st fun r fs=>r=vB (n.all (cD t.aE i))∧fs=[])):=by
    refine aZ s (fun j=>(s.drop j).all (jG t.aE i)=s.all (jG t.aE i)→aa C bG pJ 3 2 (j9 i (n.map cU) (n.length:Int) k (s.map bP) j (t.aE.map bO) (t.nodes.map aQ)) (fun u st=>qy C bG aj 4 0 qX u st (fun u st=>ax C bG aj u st fun r fs=>r=vB (n.all (cD t.aE i))∧fs=[]))) ?_ ?_
    ·intro h1
     rw[eu] at h1;simp only[qO] at h1;refine Df _ _ _ _ _ _ _ _ _ (ak cW (OT _ _ _ _ _ _ _ _ _ _ _ ?_));rw[aG ay];exact hnext (by rw[←h0];unfold cD;rw[←h1];simp)
    ·intro j x hj hx hdj htj hn2 h1
     rw[hdj,ql] at h1
     have gO:jG t.aE i x=false→qy C bG aj 4 0 qX TX.ret (sx (t.aE.map bO) (t.nodes.map aQ) x.b x.a x.k x.c x.g) (fun u st=>ax C bG aj u st fun r fs=>r=vB (n.all (cD t.aE i))∧fs=[]):=fun e=>OS _ _ _ _ _ _ _ _ (OU _ _ _ _ _ _ _ _ (by
      have e2:cD t.aE i s=false:=by unfold cD;rw[←h1,e];rfl
      rw[←h0,e2];exact⟨rfl,by trivial⟩))
     have gN:jG t.aE i x=true→aa C bG pJ 3 2 (j9 i (n.map cU) (n.length:Int) k (s.map bP) ((j:Int)+1) (t.aE.map bO) (t.nodes.map aQ)) (fun u st=>qy C bG aj 4 0 qX u st (fun u st=>ax C bG aj u st fun r fs=>r=vB (n.all (cD t.aE i))∧fs=[])):=fun e=>hn2 (by rw[←h1,e];rfl)
     have e:jG t.aE i x=(!decide (jV x.b x.a<t.aE[i])&&(match t.aE[i+1]? with|some hi=>decide (jV x.b x.a<hi)|none=>true)):=by simp only[jG,af4,hlo];rfl
     rw[e] at gO gN;refine Df _ _ _ _ _ _ _ _ _ (ah eI ?_);rw[aG (a:=(i:Int)) ay,aG (a:=(j:Int)) ay];simp only[lJ,wP,aH,hx,hlo,aY,dm,DT,dy,dh,gj,bI,bX,lU]
     by_cases h2:jV x.b x.a<t.aE[i]
     ·rw[aI h2]
      exact gO (by rw[fj h2];rfl)
     ·rw[aF h2]
      by_cases h3:i+1<t.aE.length
      ·have hhi:t.aE[i+1]?=some t.aE[i+1]:=ck h3
       rw[aI ay,show((i:Int)+1)=((i+1:Nat):Int) by omega,aH,hhi];simp only[aY,dm];rw[hhi] at gO gN
       by_cases h4:jV x.b x.a<t.aE[i+1]
       ·rw[aF ay]
        exact gN (by rw[e9 h2];simp[h4])
       ·rw[aI ay]
        exact gO (by simp[h4])
      ·rw[aF ay]
       have hno:t.aE[i+1]?=none:=Vz ay;rw[hno] at gN;exact gN (by rw[e9 h2];rfl)
   exact keyI rfl
 exact key rfl
theorem SL (t:Tree) (i:Nat) (n:List (List Key)) (ha:t.nodes[i]?=some n) (hlo:i<t.aE.length) (hl:cG t≤1073741824):an C bW [dW t,vI i] (vB (iF n&&((decide (i=0)|| !decide ((aU n).length=0))&&n.all (cD t.aE i)))) []:=by
 have hz:aP n≤tot aP t.nodes:=oB (w:=aP) ha;have e1:aP n=n.length+tot bY n:=rfl;have e2:cG t=t.aE.length+(t.nodes.length+tot aP t.nodes):=rfl;have hnk:=dn n;refine(Zk _ _ _ _ ⟨_,c8 (e:=aQ) ha,_,yT n ay ay,?_⟩).run
 cases h1:iF n with
 |false=>exact ah rfl ⟨rfl,by trivial⟩
 |true=>
  refine ak rfl ?_;have arq:=Qo t i n hlo hl ay ay
  have conv: ∀B:Bool,B=n.all (cD t.aE i)→aa C bW av 4 0 (kz i 0 (t.aE.map bO) (t.nodes.map aQ) (n.map cU)) (fun u st=>ax C bW av u st fun r fs=>r=vB B∧fs=[]):=fun B hB=>by subst hB;exact arq
  cases i with
  |zero=>exact ak cW (conv _ cW)
  |succ k=>
   refine ah (by first|(simp;done)|(simp;omega)) ⟨_,Cb n ay ay,?_⟩
   by_cases h2:(aU n).length=0
   ·refine ah (by simp[h2]) ?_
    simp[h2]
   ·exact ak (by simpa using h2) (conv _ (by simp[h2]))
theorem yX (t:Tree) (hl:cG t≤1073741824):an C bh [dW t] (vB (gG t)) []:=by
 have e2:cG t=t.aE.length+(t.nodes.length+tot aP t.nodes):=rfl;refine(Zy _ _ _ ?_).run;simp only[DR,dy,bX,lU,bD,bT];unfold gG
 cases h1:iA (t.nodes.length:Int) 1 20 with
 |false=>exact ak rfl ⟨rfl,by trivial⟩
 |true=>
  refine ah rfl ?_
  have hn1:1≤t.nodes.length:=by have:=yp h1;omega
  by_cases h2:t.aE.length=t.nodes.length
  ·refine ah (by simp[h2]) ?_
   have h0:t.aE[0]?=some t.aE[0]:=ck ay
   have Vx:ff t.aE 0=some t.aE[0]:=by rw[show(0:Int)=((0:Nat):Int) from rfl,aH];exact h0
   simp only[wP,Vx,h0,aY,dm,bI]
   by_cases h3:t.aE[0]=0
   ·rw[aI (by simpa using h3)]
    have hw:(true&&(decide (t.aE.length=t.nodes.length)&&((decide (t.aE[0]=0))&&(dS t.nodes.length (dX t)&&decide ((aD t).length≤60)))))=(dS t.nodes.length (dX t)&&decide ((aD t).length≤60)):=by simp[h2,h3]
    rw[hw]
    have key:((om 0 (t.nodes.length-0)).all (dX t)&&decide ((aD t).length≤60))=(dS t.nodes.length (dX t)&&decide ((aD t).length≤60))→aa C bh ai 4 0 (mG ((0:Nat):Int) (t.aE.map bO) (t.nodes.map aQ)) (fun u st=>ax C bh ai u st fun r fs=>r=vB (dS t.nodes.length (dX t)&&decide ((aD t).length≤60))∧fs=[]):=by
     refine sX t.nodes.length (fun i=>((om i (t.nodes.length-i)).all (dX t)&&decide ((aD t).length≤60))=(dS t.nodes.length (dX t)&&decide ((aD t).length≤60))→aa C bh ai 4 0 (mG i (t.aE.map bO) (t.nodes.map aQ)) _) ?_ ?_
     ·intro h0
      rw[qP] at h0;simp only[Gj,qO,dx] at h0;refine Ia _ _ _ _ (ak cW (TO _ _ _ _ _ ⟨_,j5 t hl,?_⟩));rw[←h0];simp[gj];omega
     ·intro i hi hn h0
      rw[nC hi,ql] at h0;have ha:t.nodes[i]?=some t.nodes[i]:=ck hi;have hli:t.aE[i]?=some t.aE[i]:=ck ay;have gO:dX t i=false→ax C bh ai TX.ret (q8 (t.aE.map bO) (t.nodes.map aQ)) (fun r fs=>r=vB (dS t.nodes.length (dX t)&&decide ((aD t).length≤60))∧fs=[]):=fun e=>TN _ _ _ (by rw[←h0,e];exact⟨rfl,by trivial⟩);have gN:dX t i=true→aa C bh ai 4 0 (mG ((i:Int)+1) (t.aE.map bO) (t.nodes.map aQ)) (fun u st=>ax C bh ai u st fun r fs=>r=vB (dS t.nodes.length (dX t)&&decide ((aD t).length≤60))∧fs=[]):=fun e=>hn (by rw[←h0,e];rfl)
      have hh: ∀q,an C bW [dW t,vI i] (vB q) []↔q=_:=fun q=>vL (SL t i t.nodes[i] ha ay hl);refine Ia _ _ _ _ (ah eI ?_);rw[aG ay];simp only[hh,dy,dh,gj,bI,bT]
      cases i with
      |zero=>
       have e:dX t 0=(iF t.nodes[0]&&((decide (0=0)|| !decide ((aU t.nodes[0]).length=0))&&t.nodes[0].all (cD t.aE 0))):=by simp only[dX,jv,ha,dx]
       rw[e] at gO gN;rw[aF ay];exact sV gN gO
      |succ k=>
       have hk:t.aE[k]?=some t.aE[k]:=ck ay
       have e:dX t (k+1)=(decide (t.aE[k]<t.aE[k+1])&&(iF t.nodes[k+1]&&((decide (k+1=0)|| !decide ((aU t.nodes[k+1]).length=0))&&t.nodes[k+1].all (cD t.aE (k+1))))):=by simp only[dX,jv,ha,hk,hli]
       rw[e] at gO gN;rw[aI ay,de ay,show((k+1:Nat):Int)-1=(k:Int) by omega];simp only[wP,aH,hk,hli,aY,dm]
       by_cases h4:t.aE[k]<t.aE[k+1]
       ·rw[aF ay]
        rw[fj h4,dx] at gO gN;exact sV gN gO
       ·rw[aI ay]
        exact gO (by rw[e9 h4];rfl)
    exact key rfl
   ·rw[aF (by simpa using h3)]
    simp[h3]
  ·refine ak eI ?_
   simp[h2]
theorem Oa (t:Tree) (i:Nat) (n:List (List Key)) (ha:t.nodes[i]?=some n) (hlo:i<t.aE.length) (hl:cG t≤1073741824):an C bG [dW t,vI i] (vB (n.all (cD t.aE i))) []:=by
 have hz:aP n≤tot aP t.nodes:=oB (w:=aP) ha;have e1:aP n=n.length+tot bY n:=rfl;have e2:cG t=t.aE.length+(t.nodes.length+tot aP t.nodes):=rfl;refine(T3 _ _ _ _ ⟨_,c8 (e:=aQ) ha,?_⟩).run;simp only[bX,lU];exact MF t i n hlo hl ay ay
theorem yY (t:Tree) (hl:cG t≤1073741824):an C cP [dW t] (vB (gG t)) []:=by
 have e2:cG t=t.aE.length+(t.nodes.length+tot aP t.nodes):=rfl;refine(Zf _ _ _ ?_).run;simp only[w7,dy,bX,lU,bD,bT];unfold gG
 cases h1:iA (t.nodes.length:Int) 1 20 with
 |false=>exact ak rfl ⟨rfl,by trivial⟩
 |true=>
  refine ah rfl ?_
  have hn1:1≤t.nodes.length:=by have:=yp h1;omega
  by_cases h2:t.aE.length=t.nodes.length
  ·refine ah (by simp[h2]) ?_
   have h0:t.aE[0]?=some t.aE[0]:=ck ay
   have Vx:ff t.aE 0=some t.aE[0]:=by rw[show(0:Int)=((0:Nat):Int) from rfl,aH];exact h0
   simp only[wP,Vx,h0,aY,dm,bI]
   by_cases h3:t.aE[0]=0
   ·rw[aI (by simpa using h3)]
    have hw:(true&&(decide (t.aE.length=t.nodes.length)&&((decide (t.aE[0]=0))&&(dS t.nodes.length (dX t)&&decide ((aD t).length≤60)))))=(dS t.nodes.length (dX t)&&decide ((aD t).length≤60)):=by simp[h2,h3]
    rw[hw]
    have key: ∀c:Nat,c+((t.nodes.drop 0).flatMap aU).length=(aD t).length→((om 0 (t.nodes.length-0)).all (dX t)&&decide ((aD t).length≤60))=(dS t.nodes.length (dX t)&&decide ((aD t).length≤60))→aa C cP av 4 0 (jr c (t.nodes.map aQ) ((0:Nat):Int) (t.aE.map bO)) (fun u st=>ax C cP av u st fun r fs=>r=vB (dS t.nodes.length (dX t)&&decide ((aD t).length≤60))∧fs=[]):=by
     refine sX t.nodes.length (fun i=> ∀c:Nat,c+((t.nodes.drop i).flatMap aU).length=(aD t).length→((om i (t.nodes.length-i)).all (dX t)&&decide ((aD t).length≤60))=(dS t.nodes.length (dX t)&&decide ((aD t).length≤60))→aa C cP av 4 0 (jr c (t.nodes.map aQ) i (t.aE.map bO)) _) ?_ ?_
     ·intro c hc h0
      rw[qP] at h0;simp only[Gj,qO,dx] at h0;rw[eu] at hc;simp at hc;refine HU _ _ _ _ _ (ak cW (Th _ _ _ _ _ _ _ ?_));rw[←h0];simp[gj];omega
     ·intro i hi hn c hc h0
      rw[nC hi,ql] at h0;have ha:t.nodes[i]?=some t.nodes[i]:=ck hi;have hli:t.aE[i]?=some t.aE[i]:=ck ay;rw[Gi hi,List.flatMap_cons,cF] at hc;have hz:aP t.nodes[i]≤tot aP t.nodes:=oB (w:=aP) ha;have e1:aP t.nodes[i]=t.nodes[i].length+tot bY t.nodes[i]:=rfl;have hnk:=dn t.nodes[i];have uC:=fh t;have gO1:dX t i=false→ax C cP av TX.ret (mE (t.aE.map bO) (t.nodes.map aQ) (t.nodes[i].map cU)) (fun r fs=>r=vB (dS t.nodes.length (dX t)&&decide ((aD t).length≤60))∧fs=[]):=fun e=>Tf _ _ _ _ (by rw[←h0,e];exact⟨rfl,by trivial⟩)
      have gO2:dX t i=false→ax C cP av TX.ret (vi (t.aE.map bO) (t.nodes.map aQ) (t.nodes[i].map cU) ((aU t.nodes[i]).map bP)) (fun r fs=>r=vB (dS t.nodes.length (dX t)&&decide ((aD t).length≤60))∧fs=[]):=fun e=>Tg _ _ _ _ _ (by rw[←h0,e];exact⟨rfl,by trivial⟩);have gN:dX t i=true→aa C cP av 4 0 (jr ((c:Int)+((aU t.nodes[i]).length:Int)) (t.nodes.map aQ) ((i:Int)+1) (t.aE.map bO)) (fun u st=>ax C cP av u st fun r fs=>r=vB (dS t.nodes.length (dX t)&&decide ((aD t).length≤60))∧fs=[]):=fun e=>hn (c+(aU t.nodes[i]).length) ay (by rw[←h0,e];rfl)
      have hb: ∀q,an C bG [dW t,vI i] (vB q) []↔q=_:=fun q=>vL (Oa t i t.nodes[i] ha ay hl);have hk: ∀q,an C dj [g9 t.nodes[i]] (.c (.sub 5 q)) []↔q=(aU t.nodes[i]).map bP:=fun q=>ku t.nodes[i] ay ay q;have ho: ∀q,an C cm [g9 t.nodes[i]] (vB q) []↔q=iF t.nodes[i]:=fun q=>YR t.nodes[i] ay ay q;refine HU _ _ _ _ _ (ah eI ?_);simp only[tM,aH,ha,aY,dm,hb,hk,ho,dy,dh,gj,bD,bI,bT,bX,lU];rw[aG (a:=(c:Int)) ay,aG (a:=(i:Int)) ay]
      cases i with
      |zero=>
       have e:dX t 0=(iF t.nodes[0]&&((decide (0=0)|| !decide ((aU t.nodes[0]).length=0))&&t.nodes[0].all (cD t.aE 0))):=by simp only[dX,jv,ha,dx]
       rw[e] at gO1 gN
       have Ng: ¬((0:Int)<((0:Nat):Int)):=by omega
       simp only[aF Ng]
       cases h4:iF t.nodes[0] with
       |false=>exact ak rfl (gO1 (by rw[h4];rfl))
       |true=>
        refine ah rfl ?_
        cases h5:t.nodes[0].all (cD t.aE 0) with
        |false=>exact ak rfl (gO1 (by rw[h4,h5];simp))
        |true=>exact ah rfl (gN (by rw[h4,h5];simp))
      |succ k=>
       have KM:t.aE[k]?=some t.aE[k]:=ck ay
       have e:dX t (k+1)=(decide (t.aE[k]<t.aE[k+1])&&(iF t.nodes[k+1]&&((decide (k+1=0)|| !decide ((aU t.nodes[k+1]).length=0))&&t.nodes[k+1].all (cD t.aE (k+1))))):=by simp only[dX,jv,ha,KM,hli]
       rw[e] at gO1 gO2 gN
       have Ng:(0:Int)<((k+1:Nat):Int):=by omega
       simp only[aI Ng];rw[de ay,show((k+1:Nat):Int)-1=(k:Int) by omega];simp only[wP,aH,KM,hli,aY,dm]
       by_cases h6:t.aE[k]<t.aE[k+1]
       ·rw[aF ay]
        cases h4:iF t.nodes[k+1] with
        |false=>exact ak rfl (gO1 (by rw[h4];simp))
        |true=>
         refine ah rfl ?_
         cases h5:t.nodes[k+1].all (cD t.aE (k+1)) with
         |false=>exact ak rfl (gO1 (by rw[h4,h5];simp))
         |true=>
          refine ah rfl ?_
          by_cases h7:(aU t.nodes[k+1]).length=0
          ·rw[aI ay];exact gO2 (by rw[h4,h5];simp[h7])
          ·rw[aF ay];exact gN (by rw[h4,h5,fj h6];simp[h7])
       ·rw[aI ay]
        exact gO1 (by rw[e9 h6];rfl)
    exact key 0 (by simp[aD]) rfl
   ·rw[aF (by simpa using h3)]
    simp[h3]
  ·refine ak eI ?_
   simp[h2]
theorem Qp (p:Pool) (hS:aJ p≤4194304):an C bV [cY p] (vB (jS p)) []:=by
 have hP:=cC hS
 have hname: ∀v∈p.au,v.name.size≤140737488355328:=fun v hv=>by have:=oA (w:=p8) hv;have e:p8 v=v.name.size:=rfl;omega
 refine(Xf _ _ _ _ _ _ _ ?_).run;unfold jS
 have key:((om 0 (p.au.length-0)).all (cK p)&&decide (p.au.length≤6))=(dS p.au.length (cK p)&&decide (p.au.length≤6))→aa C bV aj 4 0 (nc ((0:Nat):Int) (p.t.aE.map bO) (p.t.nodes.map aQ) (p.aL.map bQ) (p.cells.map bL) (p.au.map cg) p.next) (fun u st=>ax C bV aj u st fun r fs=>r=vB (dS p.au.length (cK p)&&decide (p.au.length≤6))∧fs=[]):=by
  refine sX p.au.length (fun i=>((om i (p.au.length-i)).all (cK p)&&decide (p.au.length≤6))=(dS p.au.length (cK p)&&decide (p.au.length≤6))→aa C bV aj 4 0 (nc i (p.t.aE.map bO) (p.t.nodes.map aQ) (p.aL.map bQ) (p.cells.map bL) (p.au.map cg) p.next) (fun u st=>ax C bV aj u st fun r fs=>r=vB (dS p.au.length (cK p)&&decide (p.au.length≤6))∧fs=[])) ?_ ?_
  ·intro h0
   rw[qP] at h0;simp only[Gj,qO,dx] at h0;refine E0 _ _ _ _ _ _ _ _ (ak cW (QY _ _ _ _ _ _ _ _ _ ?_));rw[←h0];simp[gj];omega
  ·intro i hi hn h0
   rw[nC hi,ql] at h0;have ha:p.au[i]?=some p.au[i]:=ck hi;have hv:=hname p.au[i] (D2 hi);have hkl:=Wo p.aL p.au[i].cT;have gO1:cK p i=false→ax C bV aj TX.ret (ng (p.t.aE.map bO) (p.t.nodes.map aQ) (p.aL.map bQ) (p.cells.map bL) (p.au.map cg) p.next p.au[i].name p.au[i].cT p.au[i].size p.au[i].fx) (fun r fs=>r=vB (dS p.au.length (cK p)&&decide (p.au.length≤6))∧fs=[]):=fun e=>QU _ _ _ _ _ _ _ _ _ _ _ (by rw[←h0,e];exact⟨rfl,by trivial⟩)
   have gO2:cK p i=false→ax C bV aj TX.ret (tW (p.t.aE.map bO) (p.t.nodes.map aQ) (p.aL.map bQ) (p.cells.map bL) (p.au.map cg) p.next p.au[i].name p.au[i].cT p.au[i].size p.au[i].fx ((eA p.aL p.au[i].cT).map bO)) (fun r fs=>r=vB (dS p.au.length (cK p)&&decide (p.au.length≤6))∧fs=[]):=fun e=>QW _ _ _ _ _ _ _ _ _ _ _ _ (by rw[←h0,e];exact⟨rfl,by trivial⟩);have gN:cK p i=true→aa C bV aj 4 0 (nc ((i:Int)+1) (p.t.aE.map bO) (p.t.nodes.map aQ) (p.aL.map bQ) (p.cells.map bL) (p.au.map cg) p.next) (fun u st=>ax C bV aj u st fun r fs=>r=vB (dS p.au.length (cK p)&&decide (p.au.length≤6))∧fs=[]):=fun e=>hn (by rw[←h0,e];rfl)
   have hin: ∀b:Bool,((p.au.take i).any fun u=>decide (u.cT=p.au[i].cT))=b→(b=true→cK p i=false)→(b=false→cK p i=true)→aa C bV pI 3 2 (kO i 0 (p.t.aE.map bO) (p.t.nodes.map aQ) (p.aL.map bQ) (p.cells.map bL) (p.au.map cg) p.next p.au[i].name p.au[i].cT p.au[i].size p.au[i].fx) (fun u st=>qy C bV aj 4 0 AQ u st (fun u st=>ax C bV aj u st fun r fs=>r=vB (dS p.au.length (cK p)&&decide (p.au.length≤6))∧fs=[])):=by
    intro b hb hbt hbf
    have keyI:(((p.au.take i).drop 0).any fun u=>decide (u.cT=p.au[i].cT))=b→aa C bV pI 3 2 (kO i ((0:Nat):Int) (p.t.aE.map bO) (p.t.nodes.map aQ) (p.aL.map bQ) (p.cells.map bL) (p.au.map cg) p.next p.au[i].name p.au[i].cT p.au[i].size p.au[i].fx) (fun u st=>qy C bV aj 4 0 AQ u st (fun u st=>ax C bV aj u st fun r fs=>r=vB (dS p.au.length (cK p)&&decide (p.au.length≤6))∧fs=[])):=by
     have hle:(p.au.take i).length=i:=by simp;omega
     refine aZ (p.au.take i) (fun k=>(((p.au.take i).drop k).any fun u=>decide (u.cT=p.au[i].cT))=b→aa C bV pI 3 2 (kO i k (p.t.aE.map bO) (p.t.nodes.map aQ) (p.aL.map bQ) (p.cells.map bL) (p.au.map cg) p.next p.au[i].name p.au[i].cT p.au[i].size p.au[i].fx) (fun u st=>qy C bV aj 4 0 AQ u st (fun u st=>ax C bV aj u st fun r fs=>r=vB (dS p.au.length (cK p)&&decide (p.au.length≤6))∧fs=[]))) ?_ ?_
     ·intro h1
      rw[eu] at h1;simp only[List.any_nil] at h1;refine E1 _ _ _ _ _ _ _ _ _ _ _ _ _ (ak eI (Q1 _ _ _ _ _ _ _ _ _ _ _ _ _ ?_));rw[aG ay];exact gN (hbf h1.symm)
     ·intro k u hk hu hd uC hn2 h1
      have hu':p.au[k]?=some u:=by rw[←hu,Bz];simp;omega
      rw[hd,List.any_cons] at h1;refine E1 _ _ _ _ _ _ _ _ _ _ _ _ _ (ah eI ?_);rw[aG ay];simp only[yQ,aH,hu',aY,dm,bD,bI]
      by_cases h2:u.cT=p.au[i].cT
      ·rw[aI h2]
       rw[fj h2,Bool.true_or] at h1;exact QZ _ _ _ _ _ _ _ _ _ _ _ (gO1 (hbt h1.symm))
      ·rw[aF h2]
       rw[e9 h2,I7] at h1;exact hn2 h1
    exact keyI hb
   have agG: ∀z,an C ee [gx p.aL,vI p.au[i].cT] (vI z) []↔z=fk p.aL p.au[i].cT:=fun z=>F6 p.aL p.au[i].cT ay z;have apN: ∀z,an C gC [gx p.aL,vI p.au[i].cT] (.c (.sub 1 z)) []↔z=(eA p.aL p.au[i].cT).map bO:=fun z=>aed (yS p.aL p.au[i].cT ay);refine E0 _ _ _ _ _ _ _ _ (ah eI ?_);simp only[yQ,aH,ha,aY,dm,uU p.au[i].name hv,DR,agG,apN,dy,bT,dh,bI,bX,lU]
   cases h1:jR p.au[i].name with
   |false=>exact ak rfl (gO1 (by simp[cK,ha,h1]))
   |true=>
    refine ah rfl ?_
    cases h2:iA p.au[i].size 1 12 with
    |false=>exact ak rfl (gO1 (by simp[cK,ha,h2]))
    |true=>
     refine ah rfl ?_
     by_cases h3:fk p.aL p.au[i].cT<0
     ·rw[aI h3];exact gO1 (by simp[cK,ha,h3])
     ·rw[aF h3]
      by_cases h4:(eA p.aL p.au[i].cT).length=0
      ·rw[aF ay]
       cases i with
       |zero=>
        rw[aF ay];exact hin _ rfl (fun e=>by simp at e) (fun e=>by simp[cK,ha,h1,h2,h3,h4,jv])
       |succ k=>
        have hk:p.au[k]?=some p.au[k]:=ck ay;rw[aI ay,de ay,show((k+1:Nat):Int)-1=(k:Int) by omega];simp only[aH,hk,aY,dm]
        cases h5:Su p.au[k].name p.au[k+1].name with
        |false=>exact ak rfl (gO2 (by simp[cK,ha,hk,jv,h5]))
        |true=>exact ah rfl (hin _ rfl (fun e=>by simp only[cK,ha,e];simp) (fun e=>by simp only[cK,ha,hk,jv,h5,h1,h2,e];simp[h3,h4]))
      ·rw[aI ay];exact gO2 (by simp[cK,ha,h4])
 exact key rfl
theorem SM (p:Pool) (hS:aJ p≤4194304):an C fJ [cY p] (vB (jS p)) []:=by
 have hP:=cC hS
 have hname: ∀v∈p.au,v.name.size≤140737488355328:=fun v hv=>by have:=oA (w:=p8) hv;have e:p8 v=v.name.size:=rfl;omega
 refine(aaj _ _ _ _ _ _ _ ?_).run;unfold jS
 have key:((om 0 (p.au.length-0)).all (cK p)&&decide (p.au.length≤6))=(dS p.au.length (cK p)&&decide (p.au.length≤6))→aa C fJ aj 4 0 (mM (p.au.map cg) ((0:Nat):Int) (p.t.aE.map bO) (p.t.nodes.map aQ) (p.aL.map bQ) (p.cells.map bL) p.next) (fun u st=>ax C fJ aj u st fun r fs=>r=vB (dS p.au.length (cK p)&&decide (p.au.length≤6))∧fs=[]):=by
  refine sX p.au.length (fun i=>((om i (p.au.length-i)).all (cK p)&&decide (p.au.length≤6))=(dS p.au.length (cK p)&&decide (p.au.length≤6))→aa C fJ aj 4 0 (mM (p.au.map cg) i (p.t.aE.map bO) (p.t.nodes.map aQ) (p.aL.map bQ) (p.cells.map bL) p.next) (fun u st=>ax C fJ aj u st fun r fs=>r=vB (dS p.au.length (cK p)&&decide (p.au.length≤6))∧fs=[])) ?_ ?_
  ·intro h0
   rw[qP] at h0;simp only[Gj,qO,dx] at h0;refine IK _ _ _ _ _ _ _ _ (ak cW (UW _ _ _ _ _ _ _ _ _ _ ?_));rw[←h0];simp[gj];omega
  ·intro i hi hn h0
   rw[nC hi,ql] at h0;have ha:p.au[i]?=some p.au[i]:=ck hi;have hv:=hname p.au[i] (D2 hi);have hkl:=Wo p.aL p.au[i].cT;have gO1:cK p i=false→ax C fJ aj TX.ret (kE (p.t.aE.map bO) (p.t.nodes.map aQ) (p.aL.map bQ) (p.cells.map bL) (p.au.map cg) p.next p.au[i].name p.au[i].cT p.au[i].size p.au[i].fx) (fun r fs=>r=vB (dS p.au.length (cK p)&&decide (p.au.length≤6))∧fs=[]):=fun e=>UT _ _ _ _ _ _ _ _ _ _ _ (by rw[←h0,e];exact⟨rfl,by trivial⟩)
   have gO2:cK p i=false→ax C fJ aj TX.ret (oc (p.t.aE.map bO) (p.t.nodes.map aQ) (p.aL.map bQ) (p.cells.map bL) (p.au.map cg) p.next p.au[i].name p.au[i].cT p.au[i].size p.au[i].fx ((eA p.aL p.au[i].cT).map bO)) (fun r fs=>r=vB (dS p.au.length (cK p)&&decide (p.au.length≤6))∧fs=[]):=fun e=>UU _ _ _ _ _ _ _ _ _ _ _ _ (by rw[←h0,e];exact⟨rfl,by trivial⟩);have gN:cK p i=true→aa C fJ aj 4 0 (mM (p.au.map cg) ((i:Int)+1) (p.t.aE.map bO) (p.t.nodes.map aQ) (p.aL.map bQ) (p.cells.map bL) p.next) (fun u st=>ax C fJ aj u st fun r fs=>r=vB (dS p.au.length (cK p)&&decide (p.au.length≤6))∧fs=[]):=fun e=>hn (by rw[←h0,e];rfl)
   have agG: ∀z,an C iP [gx p.aL,vI p.au[i].cT] (vI z) []↔z=fk p.aL p.au[i].cT:=fun z=>F7 p.aL p.au[i].cT ay z;have apN: ∀z,an C fZ [gx p.aL,vI p.au[i].cT] (.c (.sub 1 z)) []↔z=(eA p.aL p.au[i].cT).map bO:=fun z=>aed (ve p.aL p.au[i].cT ay)
   have xw:aC (p.au.map cg) 0 (i:Int)=(p.au.take i).map cg:=by rw[cJ,lV];rfl
   have hcin:gf 0 (i:Int) (p.au.length:Int)=true:=by simp;omega
   have asW: ∀z,an C fo [qR (p.au.take i),.fn rK [[iS p.au[i].name,iI p.au[i].cT,iI p.au[i].size,iB p.au[i].fx]]] (vB z) []↔z=(p.au.take i).any fun u=>decide (u.cT=p.au[i].cT):=fun z=>vL (I0 (p.au.take i) _ _ _ _ eI);refine IK _ _ _ _ _ _ _ _ (ah eI ?_);simp only[xw,yQ,aH,ha,aY,dm,m5 p.au[i].name hv,w7,agG,apN,asW,dy,bT,dh,bI,bX,lU];rw[aG ay]
   cases h1:jR p.au[i].name with
   |false=>exact ak rfl (gO1 (by simp[cK,ha,h1]))
   |true=>
    refine ah rfl ?_
    cases i with
    |zero=>
     rw[aF ay]
     cases h2:iA p.au[0].size 1 12 with
     |false=>exact ak rfl (gO1 (by simp[cK,ha,h2]))
     |true=>
      refine ah rfl ?_
      by_cases h3:fk p.aL p.au[0].cT<0
      ·rw[aI h3];exact gO1 (by simp[cK,ha,h3])
      ·rw[aF h3]
       by_cases h4:(eA p.aL p.au[0].cT).length=0
       ·rw[aF ay]
        refine ah hcin ?_
        cases h6:(p.au.take (0)).any fun u=>decide (u.cT=p.au[0].cT) with
        |true=>exact ah rfl (gO2 (by simp only[cK,ha,h6];simp))
        |false=>exact ak rfl (gN (by simp only[cK,ha,h6,h1,h2,jv];simp[h3,h4]))
       ·rw[aI ay];exact gO2 (by simp[cK,ha,h4])
    |succ k=>
     have hk:p.au[k]?=some p.au[k]:=ck ay;rw[aI ay,de ay,show((k+1:Nat):Int)-1=(k:Int) by omega];simp only[aH,hk,aY,dm]
     cases h5:Su p.au[k].name p.au[k+1].name with
     |false=>exact ak rfl (gO1 (by simp[cK,ha,hk,jv,h5]))
     |true=>
      refine ah rfl ?_
      cases h2:iA p.au[k+1].size 1 12 with
      |false=>exact ak rfl (gO1 (by simp[cK,ha,h2]))
      |true=>
       refine ah rfl ?_
       by_cases h3:fk p.aL p.au[k+1].cT<0
       ·rw[aI h3];exact gO1 (by simp[cK,ha,h3])
       ·rw[aF h3]
        by_cases h4:(eA p.aL p.au[k+1].cT).length=0
        ·rw[aF ay]
         refine ah hcin ?_
         cases h6:(p.au.take (k+1)).any fun u=>decide (u.cT=p.au[k+1].cT) with
         |true=>exact ah rfl (gO2 (by simp only[cK,ha,h6];simp))
         |false=>exact ak rfl (gN (by simp only[cK,ha,h6,h1,h2,jv,hk,h5];simp[h3,h4]))
        ·rw[aI ay];exact gO2 (by simp[cK,ha,h4])
 exact key rfl
theorem akO:sL 24=24:=by unfold sL;rfl
theorem g24 {n:Nat} (h:n≤1000):(true&&cn 24 24&&m6 0 24&&fits (sL 24) n)=true:=by rw[akO,cO ay];simp
theorem ape:(tO []).map Sa=List.replicate 24 [iB false]:=by rw[aeg];rfl
theorem Qq (p:Pool) (hS:aJ p≤4194304):an C cj [cY p] (vB (gY p)) []:=by
 have hP:=cC hS;have htl:=fh p.t;refine(Xy _ _ _ _ _ _ _ ?_).run;refine⟨_,j5 p.t ay,?_⟩;unfold gY;generalize aD p.t=L at*;have hdk:cR L≤L.length:=aaB _ _
 have key: ∀c:Nat,c+cR (L.drop 0)=cR L→((om 0 (L.length-0)).all (dA p L)&&decide ((cu p.cells:Int)=cR L))=(dS L.length (dA p L)&&decide ((cu p.cells:Int)=cR L))→aa C cj av 4 0 (kR (c:Int) ((0:Nat):Int) (p.t.aE.map bO) (p.t.nodes.map aQ) (p.aL.map bQ) (p.cells.map bL) (p.au.map cg) p.next (L.map bP)) (fun u st=>ax C cj av u st fun r fs=>r=vB (dS L.length (dA p L)&&decide ((cu p.cells:Int)=cR L))∧fs=[]):=by
  refine sX L.length (fun i=> ∀c:Nat,c+cR (L.drop i)=cR L→((om i (L.length-i)).all (dA p L)&&decide ((cu p.cells:Int)=cR L))=(dS L.length (dA p L)&&decide ((cu p.cells:Int)=cR L))→aa C cj av 4 0 (kR (c:Int) i (p.t.aE.map bO) (p.t.nodes.map aQ) (p.aL.map bQ) (p.cells.map bL) (p.au.map cg) p.next (L.map bP)) (fun u st=>ax C cj av u st fun r fs=>r=vB (dS L.length (dA p L)&&decide ((cu p.cells:Int)=cR L))∧fs=[])) ?_ ?_
  ·intro c hc h0
   rw[qP] at h0;simp only[Gj,qO,dx] at h0;rw[eu] at hc
   have hc0:c=cR L:=by simpa [cR] using hc
   subst hc0;refine E8 _ _ _ _ _ _ _ _ _ _ (ak cW (Ri _ _ _ _ _ _ _ _ _ _ _ ⟨_,MB p.cells ay,?_⟩));rw[←h0];refine⟨?_,by trivial⟩;simp[bD,eq_comm]
  ·intro i hi hn c hc h0
   rw[nC hi,ql] at h0;have ha:L[i]?=some L[i]:=ck hi;rw[Gi hi,Lx] at hc;have gO1:dA p L i=false→ax C cj av TX.ret (qg (p.t.aE.map bO) (p.t.nodes.map aQ) (p.aL.map bQ) (p.cells.map bL) (p.au.map cg) p.next (L.map bP)) (fun r fs=>r=vB (dS L.length (dA p L)&&decide ((cu p.cells:Int)=cR L))∧fs=[]):=fun e=>Rh _ _ _ _ _ _ _ _ (by rw[←h0,e];exact⟨rfl,by trivial⟩);have gN: ∀c':Nat,c'+cR (L.drop (i+1))=cR L→dA p L i=true→aa C cj av 4 0 (kR (c':Int) ((i:Int)+1) (p.t.aE.map bO) (p.t.nodes.map aQ) (p.aL.map bQ) (p.cells.map bL) (p.au.map cg) p.next (L.map bP)) (fun u st=>ax C cj av u st fun r fs=>r=vB (dS L.length (dA p L)&&decide ((cu p.cells:Int)=cR L))∧fs=[]):=fun c' e' e=>hn c' e' (by rw[←h0,e];rfl)
   have hin: ∀b:Bool,((L.take i).any fun x=>decide (x.k=1)&&decide (x.c=L[i].c))=b→(b=true→dA p L i=false)→(b=false→dA p L i=true)→L[i].k=1→aa C cj jz 3 2 (kT c i 0 (p.t.aE.map bO) (p.t.nodes.map aQ) (p.aL.map bQ) (p.cells.map bL) (p.au.map cg) p.next (L.map bP)) (fun u st=>qy C cj av 4 0 wD u st (fun u st=>ax C cj av u st fun r fs=>r=vB (dS L.length (dA p L)&&decide ((cu p.cells:Int)=cR L))∧fs=[])):=by
    intro b hb hbt hbf KM;rw[aI KM] at hc
    have keyI:(((L.take i).drop 0).any fun x=>decide (x.k=1)&&decide (x.c=L[i].c))=b→aa C cj jz 3 2 (kT c i ((0:Nat):Int) (p.t.aE.map bO) (p.t.nodes.map aQ) (p.aL.map bQ) (p.cells.map bL) (p.au.map cg) p.next (L.map bP)) (fun u st=>qy C cj av 4 0 wD u st (fun u st=>ax C cj av u st fun r fs=>r=vB (dS L.length (dA p L)&&decide ((cu p.cells:Int)=cR L))∧fs=[])):=by
     have hle:(L.take i).length=i:=by simp;omega
     refine aZ (L.take i) (fun k=>(((L.take i).drop k).any fun x=>decide (x.k=1)&&decide (x.c=L[i].c))=b→aa C cj jz 3 2 (kT c i k (p.t.aE.map bO) (p.t.nodes.map aQ) (p.aL.map bQ) (p.cells.map bL) (p.au.map cg) p.next (L.map bP)) (fun u st=>qy C cj av 4 0 wD u st (fun u st=>ax C cj av u st fun r fs=>r=vB (dS L.length (dA p L)&&decide ((cu p.cells:Int)=cR L))∧fs=[]))) ?_ ?_
     ·intro h1
      rw[eu] at h1;simp only[List.any_nil] at h1;refine E9 _ _ _ _ _ _ _ _ _ _ _ (ak eI (Rk _ _ _ _ _ _ _ _ _ _ _ ?_));rw[aG ay,aG ay];exact gN (c+1) ay (hbf h1.symm)
     ·intro k u hk hu hd uC hn2 h1
      have hu':L[k]?=some u:=by rw[←hu,Bz];simp;omega
      rw[hd,List.any_cons] at h1;refine E9 _ _ _ _ _ _ _ _ _ _ _ (ah eI ?_);rw[aG ay];simp only[lJ,aH,hu',ha,aY,dm,bD,bI]
      by_cases h3:u.k=1
      ·rw[aI h3]
       by_cases h2:u.c=L[i].c
       ·rw[aI h2]
        rw[fj h3,fj h2,Bool.and_self,Bool.true_or] at h1;exact Rj _ _ _ _ _ _ _ _ (gO1 (hbt h1.symm))
       ·rw[aF h2]
        rw[e9 h2,Bool.and_false,I7] at h1;exact hn2 h1
      ·rw[aF h3]
       rw[e9 h3,Bool.false_and,I7] at h1;exact hn2 h1
    exact keyI hb
   have agG: ∀z,an C ee [gx p.aL,vI L[i].a] (vI z) []↔z=fk p.aL L[i].a:=fun z=>F6 p.aL L[i].a ay z;have hcell: ∀n b,an C yE [jw p.cells,vI L[i].c,vI L[i].g] (.tu [(0,[iI n]),(0,[iB b])]) []↔n=(cellAt p.cells L[i].c L[i].g).1∧b=(cellAt p.cells L[i].c L[i].g).2:=fun n b=>YH p.cells ay _ _ n b;refine E8 _ _ _ _ _ _ _ _ _ _ (ah eI ?_);simp only[lJ,aH,ha,aY,dm,agG,hcell,and_assoc,exists_and_left,dy,dh,bD,bT,bI]
   rw[aG (a:=(i:Int)) ay]
   by_cases h1:fk p.aL L[i].a<0
   ·rw[aI h1];exact gO1 (by simp[dA,ha,h1])
   ·rw[aF h1]
    by_cases h2:L[i].k=1
    ·rw[aI h2]
     cases h3:(cellAt p.cells L[i].c L[i].g).2 with
     |false=>exact ak rfl (gO1 (by simp[dA,ha,h2,h3]))
     |true=>
      refine ah rfl ?_;exact hin _ rfl (fun e=>by simp only[dA,ha,e,h2];simp) (fun e=>by simp only[dA,ha,e,h2,h3];simp[h1]) h2
    ·rw[aF h2]
     rw[aF h2] at hc;exact gN c ay (by simp[dA,ha,h1,h2])
 exact key 0 cW rfl
theorem Qs (p:Pool) (hS:aJ p≤4194304) (h24:p.cells.length=24):an C fK [cY p] (vB (gY p)) []:=by
 have hP:=cC hS;have htl:=fh p.t;refine(Xg _ _ _ _ _ _ _ ?_).run;refine ah (g24 ay) ⟨_,j6 p.t ay,?_⟩;unfold gY;generalize aD p.t=L at*;have hdk:cR L≤L.length:=aaB _ _
 have key: ∀c:Nat,c+cR (L.drop 0)=cR L→((om 0 (L.length-0)).all (dA p L)&&decide ((cu p.cells:Int)=cR L))=(dS L.length (dA p L)&&decide ((cu p.cells:Int)=cR L))→aa C fK av 4 0 (kQ (c:Int) (L.map bP) ((0:Nat):Int) (p.t.aE.map bO) (p.t.nodes.map aQ) (p.aL.map bQ) (p.cells.map bL) (p.au.map cg) p.next ((tO (L.take 0)).map Sa)) (fun u st=>ax C fK av u st fun r fs=>r=vB (dS L.length (dA p L)&&decide ((cu p.cells:Int)=cR L))∧fs=[]):=by
  refine sX L.length (fun i=> ∀c:Nat,c+cR (L.drop i)=cR L→((om i (L.length-i)).all (dA p L)&&decide ((cu p.cells:Int)=cR L))=(dS L.length (dA p L)&&decide ((cu p.cells:Int)=cR L))→aa C fK av 4 0 (kQ (c:Int) (L.map bP) i (p.t.aE.map bO) (p.t.nodes.map aQ) (p.aL.map bQ) (p.cells.map bL) (p.au.map cg) p.next ((tO (L.take i)).map Sa)) (fun u st=>ax C fK av u st fun r fs=>r=vB (dS L.length (dA p L)&&decide ((cu p.cells:Int)=cR L))∧fs=[])) ?_ ?_
  ·intro c hc h0
   rw[qP] at h0;simp only[Gj,qO,dx] at h0;rw[eu] at hc
   have hc0:c=cR L:=by simpa [cR] using hc
   subst hc0;refine E2 _ _ _ _ _ _ _ _ _ _ _ (ak cW (Q4 _ _ _ _ _ _ _ _ _ _ _ _ _ ⟨_,MC p.cells ay,?_⟩));rw[←h0];refine⟨?_,by trivial⟩;simp[bD,eq_comm]
  ·intro i hi hn c hc h0
   rw[nC hi,ql] at h0;have ha:L[i]?=some L[i]:=ck hi;rw[Gi hi,Lx] at hc;have gO1: ∀u,dA p L i=false→ax C fK av TX.ret (qc (p.t.aE.map bO) (p.t.nodes.map aQ) (p.aL.map bQ) (p.cells.map bL) (p.au.map cg) p.next L[i].b L[i].a L[i].k L[i].c L[i].g u (L.map bP)) (fun r fs=>r=vB (dS L.length (dA p L)&&decide ((cu p.cells:Int)=cR L))∧fs=[]):=fun u e=>Q3 _ _ _ _ _ _ _ _ _ _ _ _ _ _ (by rw[←h0,e];exact⟨rfl,by trivial⟩)
   have ht1:L.take (i+1)=L.take i++[L[i]]:=by rw[List.take_add_one,ha];rfl
   have gN: ∀c':Nat,c'+cR (L.drop (i+1))=cR L→dA p L i=true→aa C fK av 4 0 (kQ (c':Int) (L.map bP) ((i:Int)+1) (p.t.aE.map bO) (p.t.nodes.map aQ) (p.aL.map bQ) (p.cells.map bL) (p.au.map cg) p.next ((tO (L.take (i+1))).map Sa)) (fun u st=>ax C fK av u st fun r fs=>r=vB (dS L.length (dA p L)&&decide ((cu p.cells:Int)=cR L))∧fs=[]):=fun c' e' e=>hn c' e' (by rw[←h0,e];rfl);have agG: ∀z,an C iP [gx p.aL,vI L[i].a] (vI z) []↔z=fk p.aL L[i].a:=fun z=>F7 p.aL L[i].a ay z
   have hcell: ∀n b,an C yF [jw p.cells,vI L[i].c,vI L[i].g] (.tu [(0,[iI n]),(0,[iB b])]) []↔n=(cellAt p.cells L[i].c L[i].g).1∧b=(cellAt p.cells L[i].c L[i].g).2:=fun n b=>YI p.cells ay _ _ n b;refine E2 _ _ _ _ _ _ _ _ _ _ _ (ah eI ?_);simp only[lJ,aH,ha,aY,dm,agG,hcell,and_assoc,exists_and_left,dy,dh,bD,bT,bI];rw[aG (a:=(i:Int)) ay]
   by_cases h1:fk p.aL L[i].a<0
   ·rw[aI h1];exact gO1 _ (by simp[dA,ha,h1])
   ·rw[aF h1]
    by_cases h2:L[i].k=1
    ·rw[aI h2]
     cases h3:(cellAt p.cells L[i].c L[i].g).2 with
     |false=>exact ak rfl (gO1 _ (by simp[dA,ha,h2,h3]))
     |true=>
      refine ah rfl ?_;have hci:=ah4 h3;rw[h24] at hci;simp only[amn,aeh (L.take i) hci,aY,dm,dy,amq]
      cases h4:(L.take i).any fun x=>decide (x.k=1)&&decide (x.c=L[i].c) with
      |true=>exact ah rfl (gO1 _ (by simp only[dA,ha,h4,h2];simp))
      |false=>
       refine ak rfl ?_;rw[aei (L.take i) L[i] h2 hci,←ht1,aG (a:=(c:Int)) ay];rw[aI h2] at hc;exact gN (c+1) ay (by simp only[dA,ha,h4,h2,h3];simp[h1])
    ·rw[aF h2]
     rw[aF h2] at hc;have hg:=gN c ay (by simp[dA,ha,h1,h2]);rw[ht1,ab8 _ _ h2] at hg;exact hg
 rw[akO,←ape];exact key 0 cW rfl
def m4 (n:Int) (a:Age):Bool:=decide (a.id<n)
theorem ail (p:Pool):cZ p=(p.aL.all (m4 p.next)&&(gG p.t&&(gU p.aL&&(eJ p.cells&&(iA p.next 1 61&&(jS p&&gY p)))))):=rfl
theorem am3 {l:List Cell} (h:eJ l=true):l.length=24:=by simp[eJ] at h;omega
theorem Qu (p:Pool) (hS:aJ p≤4194304):an C cA [cY p] (vB ((p.aL.all (m4 p.next)&&(gG p.t&&(gU p.aL&&(eJ p.cells&&(iA p.next 1 61&&(jS p&&gY p)))))))) []:=by
 refine(aab _ _ _ _ _ _ _ ?_).run;have hP:=cC hS;have htl:=fh p.t
 have key:((p.aL.drop 0).all (m4 p.next)&&(gG p.t&&(gU p.aL&&(eJ p.cells&&(iA p.next 1 61&&(jS p&&gY p))))))=(p.aL.all (m4 p.next)&&(gG p.t&&(gU p.aL&&(eJ p.cells&&(iA p.next 1 61&&(jS p&&gY p))))))→aa C cA aj 4 0 (nZ ((0:Nat):Int) (p.t.aE.map bO) (p.t.nodes.map aQ) (p.aL.map bQ) (p.cells.map bL) (p.au.map cg) p.next) (fun u st=>ax C cA aj u st fun r fs=>r=vB ((p.aL.all (m4 p.next)&&(gG p.t&&(gU p.aL&&(eJ p.cells&&(iA p.next 1 61&&(jS p&&gY p)))))))∧fs=[]):=by
  refine aZ p.aL (fun i=>((p.aL.drop i).all (m4 p.next)&&(gG p.t&&(gU p.aL&&(eJ p.cells&&(iA p.next 1 61&&(jS p&&gY p))))))=(p.aL.all (m4 p.next)&&(gG p.t&&(gU p.aL&&(eJ p.cells&&(iA p.next 1 61&&(jS p&&gY p))))))→aa C cA aj 4 0 (nZ i (p.t.aE.map bO) (p.t.nodes.map aQ) (p.aL.map bQ) (p.cells.map bL) (p.au.map cg) p.next) (fun u st=>ax C cA aj u st fun r fs=>r=vB ((p.aL.all (m4 p.next)&&(gG p.t&&(gU p.aL&&(eJ p.cells&&(iA p.next 1 61&&(jS p&&gY p)))))))∧fs=[])) ?_ ?_
  ·intro h0
   refine ID _ _ _ _ _ _ _ _ (ak cW (UI _ _ _ _ _ _ _ _ _ ?_));rw[eu] at h0;simp only[qO,dx] at h0;rw[←h0];refine⟨_,yX p.t ay,?_⟩
   cases h1:gG p.t with
   |false=>exact ak rfl ⟨rfl,by trivial⟩
   |true=>
    refine ah rfl ⟨_,(YQ p.aL ay (gU p.aL)).2 rfl,?_⟩
    cases h2:gU p.aL with
    |false=>exact ak rfl ⟨rfl,by trivial⟩
    |true=>
     refine ah rfl ⟨_,(AH p.cells ay (eJ p.cells)).2 rfl,?_⟩
     cases h3:eJ p.cells with
     |false=>exact ak rfl ⟨rfl,by trivial⟩
     |true=>
      refine ah rfl ⟨_,tj p.next 1 61,?_⟩
      cases h4:iA p.next 1 61 with
      |false=>exact ak rfl ⟨rfl,by trivial⟩
      |true=>
       refine ah rfl ⟨_,Qp p hS,?_⟩
       cases h5:jS p with
       |false=>exact ak rfl ⟨rfl,by trivial⟩
       |true=>exact ah rfl ⟨_,Qq p hS,⟨rfl,by trivial⟩⟩
  ·intro i a hi ha hd uC hn h0
   have gO:(m4 p.next) a=false→(p.aL.all (m4 p.next)&&(gG p.t&&(gU p.aL&&(eJ p.cells&&(iA p.next 1 61&&(jS p&&gY p))))))=false:=fun e=>by rw[←h0,hd];simp[e]
   have gN:(m4 p.next) a=true→aa C cA aj 4 0 (nZ ((i:Int)+1) (p.t.aE.map bO) (p.t.nodes.map aQ) (p.aL.map bQ) (p.cells.map bL) (p.au.map cg) p.next) (fun u st=>ax C cA aj u st fun r fs=>r=vB ((p.aL.all (m4 p.next)&&(gG p.t&&(gU p.aL&&(eJ p.cells&&(iA p.next 1 61&&(jS p&&gY p)))))))∧fs=[]):=fun e=>hn (by rw[←h0,hd];simp[e]);refine ID _ _ _ _ _ _ _ _ (ah eI ?_);simp only[wQ,aH,ha,aY,dm,gj,bI];rw[aG ay]
   by_cases h1:p.next≤a.id
   ·rw[aI h1];exact UH _ _ _ _ _ _ _ (by rw[gO (by simp[m4];omega)];exact⟨rfl,by trivial⟩)
   ·rw[aF h1];exact gN (by simp[m4];omega)
 exact key rfl
theorem gL (p:Pool) (hS:aJ p≤4194304):an C cA [cY p] (vB (cZ p)) []:=Qu p hS
theorem e8 (p:Pool) (hS:aJ p≤4194304):an C dY [cY p] (vB (cZ p)) []:=by
 have hP:=cC hS;rw[ail];refine(Zu _ _ _ _ _ _ _ ?_).run;refine⟨_,yY p.t ay,?_⟩
 cases h1:gG p.t with
 |false=>exact ah rfl ⟨by simp,by trivial⟩
 |true=>
  refine ak rfl ⟨_,(YS p.aL ay (gU p.aL)).2 rfl,?_⟩
  cases h2:gU p.aL with
  |false=>exact ah rfl ⟨by simp,by trivial⟩
  |true=>
   refine ak rfl ⟨_,(AI p.cells ay (eJ p.cells)).2 rfl,?_⟩
   cases h3:eJ p.cells with
   |false=>exact ah rfl ⟨by simp,by trivial⟩
   |true=>
    refine ak rfl ⟨_,nG p.next 1 61,?_⟩
    cases h4:iA p.next 1 61 with
    |false=>exact ah rfl ⟨by simp,by trivial⟩
    |true=>
     refine ak rfl ?_;simp only[dx]
     have key:((p.aL.drop 0).all (m4 p.next)&&(jS p&&gY p))=(p.aL.all (m4 p.next)&&(jS p&&gY p))→aa C dY ai 4 0 (q7 (p.aL.map bQ) ((0:Nat):Int) (p.t.aE.map bO) (p.t.nodes.map aQ) (p.cells.map bL) (p.au.map cg) p.next) (fun u st=>ax C dY ai u st fun r fs=>r=vB (p.aL.all (m4 p.next)&&(jS p&&gY p))∧fs=[]):=by
      refine aZ p.aL (fun i=>((p.aL.drop i).all (m4 p.next)&&(jS p&&gY p))=(p.aL.all (m4 p.next)&&(jS p&&gY p))→aa C dY ai 4 0 (q7 (p.aL.map bQ) i (p.t.aE.map bO) (p.t.nodes.map aQ) (p.cells.map bL) (p.au.map cg) p.next) (fun u st=>ax C dY ai u st fun r fs=>r=vB (p.aL.all (m4 p.next)&&(jS p&&gY p))∧fs=[])) ?_ ?_
      ·intro h0
       rw[eu] at h0;simp only[qO,dx] at h0;refine H7 _ _ _ _ _ _ _ _ (ak cW (TF _ _ _ _ _ _ _ _ _ _ ⟨_,SM p hS,?_⟩));rw[←h0]
       cases h5:jS p with
       |false=>exact ak rfl ⟨rfl,by trivial⟩
       |true=>exact ah rfl ⟨_,Qs p hS (am3 h3),⟨rfl,by trivial⟩⟩
      ·intro i a hi ha hd uC hn h0
       rw[hd,ql] at h0;refine H7 _ _ _ _ _ _ _ _ (ah eI ?_);simp only[wQ,aH,ha,aY,dm,gj,bI];rw[aG ay]
       by_cases h5:p.next≤a.id
       ·rw[aI h5]
        have e:m4 p.next a=false:=by simp[m4];omega
        exact TD _ _ _ _ _ _ _ _ _ (by rw[←h0,e];exact⟨rfl,by trivial⟩)
       ·rw[aF h5]
        have e:m4 p.next a=true:=by simp[m4];omega
        exact hn (by rw[←h0,e];rfl)
     exact key rfl
theorem yZ (l:List Cell) (hl:l.length≤1073741824):an C lO [jw l] (jw l) []:=by
 refine(Zd _ _ ?_).run;rw[show bR (l.map bL)=true from by simp[Mc],cO eI];exact⟨rfl,by trivial⟩
theorem vT (l:List Cell) (hl:l.length≤1073741824):an C nF [jw l] (jw l) []:=by
 refine(RJ _ _ ?_).run;rw[show bR (l.map bL)=true from by simp[Mc],cO eI];exact⟨rfl,by trivial⟩
theorem Cc (l:List Cell) (i:Int) (hl:l.length≤1073741824):an C yf [jw l,vI i] (jw (jW l i)) []:=by
 refine(TG _ _ _ ⟨_,yZ l hl,_,(AH l hl (eJ l)).2 rfl,?_⟩).run
 cases h1:eJ l with
 |false=>exact ak rfl ⟨by rw[NX h1],by trivial⟩
 |true=>
  refine ah rfl ⟨_,tj _ _ _,?_⟩;rw[bX,show cN (Int.ofNat l.length) 1=(l.length:Int)-1 from de eI]
  by_cases h2:0≤i∧i<l.length
  ·obtain⟨c,hc⟩:=mg h2.1 h2.2
   refine ah (by simp[iA];omega) ?_;simp only[pR,hc,aY,dm]
   cases h3:c.u with
   |false=>exact ak rfl ⟨by rw[Sc hc h3],by trivial⟩
   |true=>
    refine ah rfl (ak cW ?_);simp only[pR,hc,aY,dm,ab6];exact⟨by rw[NY hc h1 h3],by trivial⟩
  ·exact ak (by simp[iA];omega) ⟨by rw[Ly (gD h2)],by trivial⟩
theorem Cd (l:List Cell) (i:Int) (hl:l.length≤1073741824):an C yg [jw l,vI i] (jw (jW l i)) []:=by
 refine(UK _ _ _ ⟨_,vT l hl,_,(AI l hl (eJ l)).2 rfl,?_⟩).run
 cases h1:eJ l with
 |false=>exact ah rfl ⟨by rw[NX h1],by trivial⟩
 |true=>
  have h24:l.length=24:=by simp[eJ] at h1;omega
  refine ak rfl ⟨_,nG _ _ _,?_⟩
  by_cases h2:0≤i∧i<l.length
  ·obtain⟨c,hc⟩:=mg h2.1 h2.2
   refine ak (by simp[iA];omega) ?_;simp only[pR,hc,aY,dm]
   cases h3:c.u with
   |false=>exact ah rfl ⟨by rw[Sc hc h3],by trivial⟩
   |true=>
    refine ak rfl (ak cW ?_);simp only[pR,hc,aY,dm,ab6];exact⟨by rw[NY hc h1 h3],by trivial⟩
  ·exact ah (by simp[iA];omega) ⟨by rw[Ly (gD h2)],by trivial⟩
theorem Gw (l:List Cell) (hl:l.length≤1073741824):an C iV [jw l] (vI (fe l)) []:=by
 refine(ZT _ _ ?_).run
 have key:eR Ax (l.drop 0) ((0:Nat):Int)=fe l→aa C iV aj 4 0 (ry (l.map bL) ((0:Nat):Int)) (fun u st=>ax C iV aj u st fun r fs=>r=vI (fe l)∧fs=[]):=by
  refine aZ l (fun i=>eR Ax (l.drop i) (i:Int)=fe l→aa C iV aj 4 0 (ry (l.map bL) i) (fun u st=>ax C iV aj u st fun r fs=>r=vI (fe l)∧fs=[])) ?_ ?_
  ·intro h0
   rw[eu] at h0;simp only[eR] at h0;exact Ir _ _ _ (ak cW (Uj _ _ _ _ _ (by rw[←h0];exact⟨rfl,by trivial⟩)))
  ·intro i a hi ha hd uC hn h0
   rw[hd] at h0;simp only[eR] at h0;refine Ir _ _ _ (ah eI ?_);simp only[pR,aH,ha,aY,dm];rw[aG ay]
   cases h1:a.u with
   |false=>rw[aI (by simp[Ax,h1])] at h0;exact ah rfl (Ui _ _ _ _ _ (by rw[←h0];exact⟨rfl,by trivial⟩))
   |true=>rw[aF (by simp[Ax,h1])] at h0;exact ak rfl (hn h0)
 exact key rfl
theorem Ce (l:List Cell) (n:Int) (hl:l.length≤1073741824):an C rJ [jw l,vI n] (amt (jH l n)) []:=by
 refine(Te _ _ _ ⟨_,vT l hl,_,Gw l hl,?_⟩).run
 by_cases h0:fe l<0
 ·exact ah (by simp[h0]) ⟨by rw[qt (fun h=>by omega)],by trivial⟩
 ·refine ak eI ⟨_,(ym n (iC n)).2 rfl,?_⟩
  cases h1:iC n with
  |false=>exact ah rfl ⟨by rw[qt (fun h=>by rw[h1] at h;cases h.2.1)],by trivial⟩
  |true=>
   refine ak rfl ⟨_,(AI l hl (eJ l)).2 rfl,?_⟩
   cases h2:eJ l with
   |false=>exact ah rfl ⟨by rw[qt (fun h=>by rw[h2] at h;cases h.1)],by trivial⟩
   |true=>
    obtain⟨c,hc,hf⟩:=wT Ax l h0;change ff l (fe l)=some c at hc;refine ak rfl ?_;simp only[pR,PR,PS,hc,p6,jF,aY,dm,mod_mod];exact⟨by rw[wU ⟨h2,h1,by omega⟩],by trivial⟩
theorem Cg (l:List Cell) (n:Int) (hl:l.length≤1073741824):an C eT [jw l,vI n] (amt (jH l n)) []:=by
 refine(UJ _ _ _ ⟨_,yZ l hl,?_⟩).run
 have key:eR Ax (l.drop 0) ((0:Nat):Int)=fe l→aa C eT ai 4 0 (pz (l.map bL) n ((0:Nat):Int) (l.map bL)) (fun u st=>ax C eT ai u st fun r fs=>r=amt (jH l n)∧fs=[]):=by
  refine aZ l (fun i=>eR Ax (l.drop i) (i:Int)=fe l→aa C eT ai 4 0 (pz (l.map bL) n i (l.map bL)) (fun u st=>ax C eT ai u st fun r fs=>r=amt (jH l n)∧fs=[])) ?_ ?_
  ·intro h0
   rw[eu] at h0;simp only[eR] at h0;exact Dq _ _ _ _ _ (ak cW (Dr _ _ _ _ _ ⟨by rw[qt (fun h=>by omega)],by trivial⟩))
  ·intro i a hi ha hd uC hn h0
   rw[hd] at h0;simp only[eR] at h0;refine Dq _ _ _ _ _ (ah eI ⟨_,(AH l hl (eJ l)).2 rfl,?_⟩)
   cases h2:eJ l with
   |false=>exact ak rfl (Dr _ _ _ _ _ ⟨by rw[qt (fun h=>by rw[h2] at h;cases h.1)],by trivial⟩)
   |true=>
    refine ah rfl ⟨_,(yj n (iC n)).2 rfl,?_⟩
    cases h1:iC n with
    |false=>exact ak rfl (Pb _ _ _ _ _ _ ⟨by rw[qt (fun h=>by rw[h1] at h;cases h.2.1)],by trivial⟩)
    |true=>
     refine ah rfl ?_
     have hc:ff l (i:Int)=some a:=by rw[aH];exact ha
     simp only[pR,hc,aY,dm];rw[aG ay]
     cases h3:a.u with
     |false=>
      rw[aI (by simp[Ax,h3])] at h0;refine ah rfl ?_;simp only[pR,PR,PS,hc,p6,jF,aY,dm,mod_mod];refine O9 _ _ _ ⟨?_,by trivial⟩;rw[wU ⟨h2,h1,by omega⟩,←h0]
     |true=>rw[aF (by simp[Ax,h3])] at h0;exact ak rfl (hn h0)
 exact key rfl
theorem Qv (o:Av):an C qE [.ag (DF o)] (vB (PV o)) []:=by
 refine(Xe _ _ _ _ _ _ ?_).run;simp only[DR,dy,gj,bD,FK,bI,bT];unfold PV
 (repeat' split)<;>simp_all<;>omega
theorem WS (k:Int) (s t:ByteArray) (a b:Int) (q:Bool):an C qE [.ag [iI k,iS s,iS t,iI a,iI b]] (vB q) []↔q=PV ⟨k,s,t,a,b⟩:=vL (Qv ⟨k,s,t,a,b⟩)
theorem YT (o:Av) (h1:o.name.size≤140737488355328) (h2:o.to.size≤140737488355328):an C P6 [.ag (DF o)] (vB (Wp o)) []:=by
 obtain⟨k,s,t,a,b⟩:=o;refine(ae6 _ _ _ _ _ _ ?_).run;simp only[DR,uU s h1,uU t h2,yj,WS,dy,gj,bD,FK,bI,bT];unfold Wp opName aoJ;simp only[];generalize PV ⟨k,s,t,a,b⟩=z;generalize jR s=x;generalize jR t=y;generalize iC a=u;generalize iC b=v;generalize iA k 1 9=w
 by_cases p1:7≤k<;>by_cases p2:k=2<;>by_cases p3:s=wO<;>by_cases p4:t=wO<;>first
  |omega
  |(simp only[p1,p2,p3,p4,if_true,if_false,decide_true,decide_false,reduceIte]
    cases w<;>(try simp only[kY,lI,dx,Bool.false_and])<;>cases x<;>cases y<;>cases u<;>cases v<;>(try simp only[kY,lI,jT,Bool.and_false,dx,Bool.false_and])<;>(first|exact⟨rfl,by trivial⟩|simp))
theorem YU (o:Av) (h1:o.name.size≤140737488355328) (h2:o.to.size≤140737488355328):an C P9 [.ag (DF o)] (vB (Wp o)) []:=by
 obtain⟨k,s,t,a,b⟩:=o;refine(aeW _ _ _ _ _ _ ?_).run;simp only[w7,m5 s h1,m5 t h2,ym,dy,gj,bD,FK,bI,bT];unfold Wp opName aoJ PV;simp only[]
 cases hv:iC b with
 |false=>cases iA k 1 9<;>cases iC a<;>simp only[kY,lI]<;>exact⟨by simp,by trivial⟩
 |true=>
  have hb:0≤b:=by simp[iC,iA] at hv;omega
  have hb1:iA b 0 1=decide (b≤1):=by by_cases h:b≤1<;>simp[iA,h,hb]
  rw[hb1];generalize jR s=x;generalize jR t=y;generalize iC a=u;generalize hw:iA k 1 9=w;generalize decide (b≤1)=z1;generalize decide (b=0)=z0
  cases w with
  |false=>simp only[kY,lI];exact⟨by simp,by trivial⟩
  |true=>
  cases u with
  |false=>simp only[kY,lI];exact⟨by simp,by trivial⟩
  |true=>
  simp only[kY,lI,dx];clear hw hv hb1 hb h1 h2
  by_cases p1:k≤6<;>by_cases p0:7≤k<;>by_cases p2:k=2<;>by_cases p3:k=3<;>by_cases p4:k=4<;>by_cases p7:k=7<;>first
   |omega
   |(simp only[p0,p1,p2,p3,p4,p7,if_true,if_false,reduceIte,or_true,true_or,or_false,false_or]
     by_cases q:a=0<;>by_cases q3:s=wO<;>by_cases q4:t=wO<;>(try simp only[q,q3,q4,if_true,if_false,reduceIte,decide_true,decide_false])<;>cases x<;>cases y<;>(try simp only[kY,lI,jT,Bool.and_false,dx,Bool.false_and])<;>(first|exact⟨rfl,by trivial⟩|simp))
theorem Ch (l:List Int) (hl:l.length≤1073741824):an C yh [oz l] (oz l) []:=by
 refine(U3 _ _ ?_).run;rw[show bR (l.map bO)=true from nS _,cO eI];exact⟨rfl,by trivial⟩
theorem J2 (l:List Key) (b a:Int) (hl:l.length≤1073741824):an C jx [dL l,vI b,vI a] (Yg (El l b a)) []:=by
 refine(acT _ _ _ _ ?_).run
 have key:setAt (l.drop 0) b a=setAt l b a→aa C jx aj 4 0 (qh (l.map bP) b a ((0:Nat):Int)) (fun u st=>ax C jx aj u st fun r fs=>r=(Yg (El l b a))∧fs=[]):=by
  refine aZ l (fun i=>setAt (l.drop i) b a=setAt l b a→aa C jx aj 4 0 (qh (l.map bP) b a i) (fun u st=>ax C jx aj u st fun r fs=>r=(Yg (El l b a))∧fs=[])) ?_ ?_
  ·intro h0
   rw[eu] at h0;refine KC _ _ _ _ _ (ak cW (XR _ _ _ _ _ _ ⟨?_,by trivial⟩));unfold El;rw[←h0];rfl
  ·intro i x hi hx hd uC hn h0
   rw[hd] at h0;simp only[setAt,List.find?_cons] at h0;refine KC _ _ _ _ _ (ah eI ?_);simp only[lJ,aH,hx,aY,dm,bD,bI];rw[aG ay]
   by_cases h1:x.b=b
   ·rw[aI h1]
    by_cases h2:x.a=a
    ·rw[aI h2]
     rw[fj ⟨h1,h2⟩] at h0;refine XQ _ _ _ _ _ _ ⟨?_,by trivial⟩;unfold El setAt;rw[←h0]
    ·rw[aF h2]
     rw[e9 (fun h=>h2 h.2)] at h0;exact hn h0
   ·rw[aF h1]
    rw[e9 (fun h=>h1 h.1)] at h0;exact hn h0
 exact key rfl
theorem SN (n:List (List Key)) (b a:Int) (hl:n.length≤1073741824) (hs: ∀s∈n,s.length≤1073741824):an C kj [g9 n,vI b,vI a] (Yg (qT n b a n.length)) []:=by
 refine(ZM _ _ _ _ ?_).run
 have key: ∀k:Nat,k≤n.length→qT n b a k=qT n b a n.length→aa C kj aj 4 0 (ru b a ((k:Int)-1) (n.map cU)) (fun u st=>ax C kj aj u st fun r fs=>r=(Yg (qT n b a n.length))∧fs=[]):=by
  intro k
  induction k with
  |zero=>
   intro _ hk;refine Ik _ _ _ _ _ (ak cW (T6 _ _ _ _ _ _ ⟨?_,by trivial⟩));rw[←hk];rfl
  |succ k ih=>
   intro hle hk;have hx:n[k]?=some n[k]:=ck ay;rw[show((k+1:Nat):Int)-1=(k:Int) by omega];have hss:=hs n[k] (D2 ay);generalize n[k]=s at hx hss;simp only[qT,hx] at hk;refine Ik _ _ _ _ _ (ah cW ?_);simp only[xS,aH,hx,aY,dm];rw[de ay];refine⟨_,_,_,_,_,_,J2 s b a hss,?_⟩
   cases h2:(El s b a).2 with
   |false=>
    rw[h2] at hk;exact ak rfl (ak rfl (ih ay (by simpa using hk)))
   |true=>
    rw[h2] at hk;simp only[if_true] at hk;refine ah rfl ?_
    by_cases h3:(El s b a).1.k=0
    ·refine ah (by simp[h3]) (Il _ _ _ _ _ _ _ _ _ _ _ _ _ ⟨?_,by trivial⟩)
     rw[aI h3] at hk;rw[←hk];rfl
    ·refine ak (by simp[h3]) (ah rfl (Il _ _ _ _ _ _ _ _ _ _ _ _ _ ⟨?_,by trivial⟩))
     rw[aF h3] at hk;rw[←hk,←h2]
 rw[bX,show cN (Int.ofNat n.length) 1=(n.length:Int)-1 from de eI];exact key n.length (cV _) rfl
theorem Ep (t:Tree) (b a:Int) (hl:t.aE.length≤1073741824):an C gH [dW t,vI b,vI a] (vI (pU t b a)) []:=by
 refine(Xz _ _ _ _ _ ?_).run;unfold pU
 have key:aa C gH ai 4 0 (ni b a (wV (fun x=>decide (x≤jV b a)) t.aE 0) ((0:Nat):Int) (t.aE.map bO) (t.nodes.map aQ)) (fun u st=>ax C gH ai u st fun r fs=>r=(vI (wV (fun x=>decide (x≤jV b a)) t.aE t.aE.length))∧fs=[]):=by
  refine aZ t.aE (fun i=>aa C gH ai 4 0 (ni b a (wV (fun x=>decide (x≤jV b a)) t.aE i) i (t.aE.map bO) (t.nodes.map aQ)) (fun u st=>ax C gH ai u st fun r fs=>r=(vI (wV (fun x=>decide (x≤jV b a)) t.aE t.aE.length))∧fs=[])) ?_ ?_
  ·exact Fa _ _ _ _ _ _ _ (ak cW (Rl _ _ _ _ _ _ _ _ ⟨rfl,by trivial⟩))
  ·intro i x hi hx hd uC hn
   simp only[wV,hx] at hn;refine Fa _ _ _ _ _ _ _ (ah eI ?_);simp only[wP,aH,hx,aY,dm,LI,dy,gj,bI];rw[aG ay]
   by_cases h1:x≤jV b a
   ·rw[aI h1]
    rw[aI (fj h1)] at hn;exact hn
   ·rw[aF h1]
    rw[aF (by simpa using h1)] at hn;exact hn
 exact key
theorem y5 (t:Tree) (b a:Int) (hl:cG t≤1073741824):an C wz [dW t,vI b,vI a] (Yg (wW t b a)) []:=by
 have e2:cG t=t.aE.length+(t.nodes.length+tot aP t.nodes):=rfl;refine(aal _ _ _ _ _ ⟨_,Ep t b a ay,_,tj _ _ _,?_⟩).run;unfold wW;rw[bX,show cN (Int.ofNat t.nodes.length) 1=(t.nodes.length:Int)-1 from de eI]
 by_cases h1:0≤pU t b a∧pU t b a<t.nodes.length
 ·obtain⟨n,hn⟩:=mg h1.1 h1.2
  have hz:aP n≤tot aP t.nodes:=oA (w:=aP) (Ek hn);have e1:aP n=n.length+tot bY n:=rfl;refine ak (by simp[iA];omega) ?_;simp only[tM,hn,aY,dm];refine⟨_,_,_,_,_,_,SN n b a ay (fun s hs=> ?_),⟨rfl,by trivial⟩⟩;have h3:bY s≤tot bY n:=oA (w:=bY) hs;have h4:bY s=s.length:=rfl;omega
 ·rw[gD h1]
  exact ah (by simp[iA];omega) ⟨rfl,by trivial⟩
theorem J3 (l:List Key) (b a:Int) (hl:l.length≤1073741824):an C iQ [dL l,vI b,vI a] (Yg (El l b a)) []:=by
 refine(acU _ _ _ _ ?_).run
 have key:setAt (l.drop 0) b a=setAt l b a→aa C iQ aj 4 0 (qi b a (l.map bP) ((0:Nat):Int)) (fun u st=>ax C iQ aj u st fun r fs=>r=(Yg (El l b a))∧fs=[]):=by
  refine aZ l (fun i=>setAt (l.drop i) b a=setAt l b a→aa C iQ aj 4 0 (qi b a (l.map bP) i) (fun u st=>ax C iQ aj u st fun r fs=>r=(Yg (El l b a))∧fs=[])) ?_ ?_
  ·intro h0
   rw[eu] at h0;refine KD _ _ _ _ _ (ak cW (XU _ _ _ _ _ _ _ ⟨?_,by trivial⟩));unfold El;rw[←h0];rfl
  ·intro i x hi hx hd uC hn h0
   rw[hd] at h0;simp only[setAt,List.find?_cons] at h0;refine KD _ _ _ _ _ (ah eI ?_);simp only[lJ,aH,hx,aY,dm,bD,bI];rw[aG ay]
   by_cases h1:x.b=b
   ·rw[aI h1]
    by_cases h2:x.a=a
    ·rw[aI h2]
     rw[fj ⟨h1,h2⟩] at h0;refine XT _ _ _ _ _ _ ⟨?_,by trivial⟩;unfold El setAt;rw[←h0]
    ·rw[aF h2]
     rw[e9 (fun h=>h2 h.2)] at h0;exact hn h0
   ·rw[aF h1]
    rw[e9 (fun h=>h1 h.1)] at h0;exact hn h0
 exact key rfl
theorem SO (n:List (List Key)) (b a:Int) (hl:n.length≤1073741824) (hs: ∀s∈n,s.length≤1073741824):an C kk [g9 n,vI b,vI a] (Yg (qT n b a n.length)) []:=by
 refine(Z3 _ _ _ _ ?_).run
 have key: ∀k:Nat,k≤n.length→qT n b a k=qT n b a n.length→aa C kk aj 4 0 (vr b a ((k:Int)-1) (n.map cU)) (fun u st=>ax C kk aj u st fun r fs=>r=(Yg (qT n b a n.length))∧fs=[]):=by
  intro k
  induction k with
  |zero=>
   intro _ hk;refine Iy _ _ _ _ _ (ak cW (Ux _ _ _ _ _ _ ⟨?_,by trivial⟩));rw[←hk];rfl
  |succ k ih=>
   intro hle hk;have hx:n[k]?=some n[k]:=ck ay;rw[show((k+1:Nat):Int)-1=(k:Int) by omega];have hss:=hs n[k] (D2 ay);generalize n[k]=s at hx hss;simp only[qT,hx] at hk;refine Iy _ _ _ _ _ (ah cW ?_);simp only[xS,aH,hx,aY,dm];rw[de ay];refine⟨_,_,_,_,_,_,J3 s b a hss,?_⟩
   cases h2:(El s b a).2 with
   |false=>
    rw[h2] at hk;exact ah rfl (ih ay (by simpa using hk))
   |true=>
    rw[h2] at hk;simp only[if_true] at hk;refine ak rfl ?_
    by_cases h3:(El s b a).1.k=0
    ·refine ah (by simp[h3]) (Uv _ _ _ _ _ _ _ _ ⟨?_,by trivial⟩)
     rw[aI h3] at hk;rw[←hk];rfl
    ·refine ak (by simp[h3]) (Uw _ _ _ _ _ _ _ ⟨?_,by trivial⟩)
     rw[aF h3] at hk;rw[←hk,←h2]
 rw[bX,show cN (Int.ofNat n.length) 1=(n.length:Int)-1 from de eI];exact key n.length (cV _) rfl
theorem Er (t:Tree) (b a:Int) (hl:t.aE.length≤1073741824):an C iJ [dW t,vI b,vI a] (vI (pU t b a)) []:=by
 refine(Xh _ _ _ _ _ ?_).run
 have key: ∀k:Nat,k≤t.aE.length→wV (fun x=>decide (x≤jV b a)) t.aE k=pU t b a→aa C iJ aj 4 0 (tX b a ((k:Int)-1) (t.aE.map bO) (t.nodes.map aQ)) (fun u st=>ax C iJ aj u st fun r fs=>r=(vI (pU t b a))∧fs=[]):=by
  intro k
  induction k with
  |zero=>
   intro _ hk;refine E3 _ _ _ _ _ _ (ak cW (Q6 _ _ _ _ _ _ _ ⟨?_,by trivial⟩));rw[←hk];rfl
  |succ k ih=>
   intro hle hk;have hx:t.aE[k]?=some t.aE[k]:=ck ay;rw[show((k+1:Nat):Int)-1=(k:Int) by omega];generalize t.aE[k]=x at hx;simp only[wV,hx] at hk;refine E3 _ _ _ _ _ _ (ah cW ?_);simp only[wP,aH,hx,aY,dm,DT,dy,gj,bI];rw[de ay]
   by_cases h1:x≤jV b a
   ·rw[aI h1]
    rw[aI (fj h1)] at hk;exact Q5 _ _ _ _ ⟨by rw[←hk],by trivial⟩
   ·rw[aF h1]
    rw[aF (by simpa using h1)] at hk;exact ih ay hk
 rw[bX,show cN (Int.ofNat t.aE.length) 1=(t.aE.length:Int)-1 from de eI];exact key t.aE.length (cV _) rfl
theorem vf (t:Tree) (b a:Int) (hl:cG t≤1073741824):an C wA [dW t,vI b,vI a] (Yg (wW t b a)) []:=by
 have e2:cG t=t.aE.length+(t.nodes.length+tot aP t.nodes):=rfl;refine(ZE _ _ _ _ _ ⟨_,Er t b a ay,_,nG _ _ _,?_⟩).run;unfold wW;rw[bX,show cN (Int.ofNat t.nodes.length) 1=(t.nodes.length:Int)-1 from de eI]
 by_cases h1:0≤pU t b a∧pU t b a<t.nodes.length
 ·obtain⟨n,hn⟩:=mg h1.1 h1.2
  have hz:aP n≤tot aP t.nodes:=oA (w:=aP) (Ek hn);have e1:aP n=n.length+tot bY n:=rfl;refine ak (by simp[iA];omega) ?_;simp only[tM,hn,aY,dm];refine⟨_,_,_,_,_,_,SO n b a ay (fun s hs=> ?_),⟨rfl,by trivial⟩⟩;have h3:bY s≤tot bY n:=oA (w:=bY) hs;have h4:bY s=s.length:=rfl;omega
 ·rw[gD h1]
  exact ah (by simp[iA];omega) ⟨rfl,by trivial⟩
theorem Gx (p:Pool) (hS:aJ p≤4194304) (id:Int):an C yC [cY p,vI id] (vI (Em p id)) []:=by
 have hP:=cC hS;refine(Y9 _ _ _ _ _ _ _ _ ⟨_,yS p.aL id ay,_,LG p id ay,?_⟩).run;unfold Em
 cases h1:qS p.au id with
 |false=>exact ah rfl ⟨by simp,by trivial⟩
 |true=>
  refine ak rfl ?_
  by_cases h2:(eA p.aL id).length=1
  ·obtain⟨x,hx⟩:=mg (l:=eA p.aL id) (i:=0) ay ay
   refine ak (by simp[h2]) ?_;simp only[wP,hx,aY,dm];exact⟨by simp[h2],by trivial⟩
  ·exact ah eI ⟨by simp[h2],by trivial⟩
theorem Qw (p:Pool) (hS:aJ p≤4194304) (k:Key):an C F4 [cY p,uE k] (vB (abb p k)) []:=by
 have hP:=cC hS;refine(Xn _ _ _ _ _ _ _ _ _ _ _ _ ⟨_,Gx p hS k.a,?_⟩).run;unfold abb
 by_cases h1:Em p k.a=0
 ·exact ah (by simp[h1]) ⟨by rw[aI h1],by trivial⟩
 ·exact ak (by simp[h1]) ⟨_,_,_,_,_,_,y5 p.t k.b (Em p k.a) ay,⟨by rw[aF h1],by trivial⟩⟩
theorem SP (p:Pool) (hS:aJ p≤4194304) (j:Int) (k:Key):an C JV [cY p,vI j,uE k] (vB (r7 p j k)) []:=by
 have hP:=cC hS;refine(Zi _ _ _ _ _ _ _ _ _ _ _ _ _ ?_).run;unfold r7
 by_cases h1:j=1
 ·exact ah (by simp[h1]) ⟨_,Le p k ay ay ay,⟨by rw[aI h1],by trivial⟩⟩
 ·refine ak (by simp[h1]) ?_
  rw[aF h1]
  by_cases h2:j=2
  ·refine ah (by simp[h2]) ⟨_,_,_,_,_,_,AJ p.t p.aL k.b k.a ay ay,?_⟩
   rw[aI h2]
   by_cases h3:k.k=2
   ·exact ah (by simp[h3]) ⟨by simp[h3],by trivial⟩
   ·exact ak (by simp[h3]) ⟨by simp[h3],by trivial⟩
  ·rw[aF h2]
   exact ak (by simp[h2]) ⟨_,Qw p hS k,⟨rfl,by trivial⟩⟩
theorem SQ (p:Pool) (hS:aJ p≤4194304) (id:Int):an C iq [cY p,vI id] (vB (((aD p.t).all (JA id)&&(qS p.au id&&decide ((eA p.aL id).length≤1))))) []:=by
 refine(ZF _ _ _ _ _ _ _ _ ?_).run;have hP:=cC hS;have htl:=fh p.t;refine⟨_,j5 p.t ay,?_⟩
 have key:(((aD p.t).drop 0).all (JA id)&&(qS p.au id&&decide ((eA p.aL id).length≤1)))=((aD p.t).all (JA id)&&(qS p.au id&&decide ((eA p.aL id).length≤1)))→aa C iq ai 4 0 (nV id ((0:Nat):Int) (p.t.aE.map bO) (p.t.nodes.map aQ) (p.aL.map bQ) (p.cells.map bL) (p.au.map cg) p.next ((aD p.t).map bP)) (fun u st=>ax C iq ai u st fun r fs=>r=vB (((aD p.t).all (JA id)&&(qS p.au id&&decide ((eA p.aL id).length≤1))))∧fs=[]):=by
  refine aZ (aD p.t) (fun i=>(((aD p.t).drop i).all (JA id)&&(qS p.au id&&decide ((eA p.aL id).length≤1)))=((aD p.t).all (JA id)&&(qS p.au id&&decide ((eA p.aL id).length≤1)))→aa C iq ai 4 0 (nV id i (p.t.aE.map bO) (p.t.nodes.map aQ) (p.aL.map bQ) (p.cells.map bL) (p.au.map cg) p.next ((aD p.t).map bP)) (fun u st=>ax C iq ai u st fun r fs=>r=vB (((aD p.t).all (JA id)&&(qS p.au id&&decide ((eA p.aL id).length≤1))))∧fs=[])) ?_ ?_
  ·intro h0
   refine Ii _ _ _ _ _ _ _ _ _ _ (ak cW (TZ _ _ _ _ _ _ _ _ _ _ _ ?_));rw[eu] at h0;simp only[qO,dx] at h0;rw[←h0];refine⟨_,LG p id ay,?_⟩
   cases h1:qS p.au id with
   |false=>exact ak rfl ⟨rfl,by trivial⟩
   |true=>exact ah rfl ⟨_,yS p.aL id ay,⟨by simp[gj];omega,by trivial⟩⟩
  ·intro i a hi ha hd uC hn h0
   have gO:(JA id) a=false→((aD p.t).all (JA id)&&(qS p.au id&&decide ((eA p.aL id).length≤1)))=false:=fun e=>by rw[←h0,hd];simp[e]
   have gN:(JA id) a=true→aa C iq ai 4 0 (nV id ((i:Int)+1) (p.t.aE.map bO) (p.t.nodes.map aQ) (p.aL.map bQ) (p.cells.map bL) (p.au.map cg) p.next ((aD p.t).map bP)) (fun u st=>ax C iq ai u st fun r fs=>r=vB (((aD p.t).all (JA id)&&(qS p.au id&&decide ((eA p.aL id).length≤1))))∧fs=[]):=fun e=>hn (by rw[←h0,hd];simp[e]);refine Ii _ _ _ _ _ _ _ _ _ _ (ah eI ?_);simp only[lJ,aH,ha,aY,dm,bD,bI];rw[aG ay]
   by_cases h1:a.a=id
   ·rw[aI h1];exact TY _ _ _ _ _ _ _ _ (by rw[gO (by simp[JA,hasB,h1])];exact⟨rfl,by trivial⟩)
   ·rw[aF h1];exact gN (by simp[JA,hasB,h1])
 exact key rfl
theorem Qx (l:List Key) (id:Int) (hl:l.length≤1073741824):an C gJ [dL l,vI id] (vB ((l.any (hasB id)))) []:=by
 refine(Xl _ _ _ ?_).run
 have key:((l.drop 0).any (hasB id))=(l.any (hasB id))→aa C gJ aj 4 0 (nh id (l.map bP) ((0:Nat):Int)) (fun u st=>ax C gJ aj u st fun r fs=>r=vB ((l.any (hasB id)))∧fs=[]):=by
  refine aZ l (fun i=>((l.drop i).any (hasB id))=(l.any (hasB id))→aa C gJ aj 4 0 (nh id (l.map bP) i) (fun u st=>ax C gJ aj u st fun r fs=>r=vB ((l.any (hasB id)))∧fs=[])) ?_ ?_
  ·intro h0
   refine E4 _ _ _ _ (ak cW (Q8 _ _ _ _ _ _ ?_));rw[eu] at h0;simp only[List.any_nil,dx] at h0;rw[←h0];exact⟨rfl,by trivial⟩
  ·intro i a hi ha hd uC hn h0
   have gO:(hasB id) a=true→(l.any (hasB id))=true:=fun e=>by rw[←h0,hd];simp[e]
   have gN:(hasB id) a=false→aa C gJ aj 4 0 (nh id (l.map bP) ((i:Int)+1)) (fun u st=>ax C gJ aj u st fun r fs=>r=vB ((l.any (hasB id)))∧fs=[]):=fun e=>hn (by rw[←h0,hd];simp[e]);refine E4 _ _ _ _ (ah eI ?_);simp only[lJ,aH,ha,aY,dm,bD,bI];rw[aG ay]
   by_cases h1:a.a=id
   ·rw[aI h1];exact Q7 _ _ _ _ _ _ (by rw[gO (by simp[hasB,h1])];exact⟨rfl,by trivial⟩)
   ·rw[aF h1];exact gN (by simp[hasB,h1])
 exact key rfl
theorem Qy (p:Pool) (hS:aJ p≤4194304) (hA:gU p.aL=true) (j:Int) (k:Key):an C F3 [cY p,vI j,uE k] (vB (r7 p j k)) []:=by
 have hP:=cC hS;refine(XC _ _ _ _ _ _ _ _ _ _ _ _ _ ?_).run;unfold r7
 by_cases h1:j=1
 ·exact ah (by simp[h1]) ⟨_,Lf p k ay ay ay,⟨by rw[aI h1],by trivial⟩⟩
 ·refine ak (by simp[h1]) ?_
  rw[aF h1]
  by_cases h2:j=2
  ·refine ah (by simp[h2]) ⟨_,_,_,_,_,_,AK p.t p.aL k.b k.a ay ay,?_⟩
   rw[aI h2]
   by_cases h3:k.k=2
   ·exact ah (by simp[h3]) ⟨by simp[h3],by trivial⟩
   ·exact ak (by simp[h3]) ⟨by simp[h3],by trivial⟩
  ·rw[aF h2]
   refine ak (by simp[h2]) ⟨_,ve p.aL k.a ay,_,LH p k.a ay,?_⟩;unfold abb Em
   cases h3:qS p.au k.a with
   |false=>exact ah rfl ⟨by simp,by trivial⟩
   |true=>
    refine ak rfl ?_
    by_cases h4:(eA p.aL k.a).length=1
    ·obtain⟨x,hx⟩:=mg (l:=eA p.aL k.a) (i:=0) ay ay
     have hpos:=akj hA x (Ek hx)
     have hne: ¬x=0:=by omega
     refine ak (by simp[h4]) ?_;simp only[wP,hx,aY,dm];refine⟨(vB (!(wW p.t k.b x).2),[]),?_,?_,⟨by simp[h4,hne],by trivial⟩⟩
     ·exact⟨_,_,_,_,_,_,vf p.t k.b x ay,by trivial⟩
     ·exact⟨_,_,_,_,_,_,vf p.t k.b x ay,by trivial⟩
    ·exact ah eI ⟨by simp[h4],by trivial⟩
theorem Ob (p:Pool) (hS:aJ p≤4194304):an C bF [cY p] (tII (c6 p)) []:=by
 have hP:=cC hS;have htl:=fh p.t;refine(TJ _ _ _ _ _ _ _ ⟨_,gL p hS,?_⟩).run
 cases hok:cZ p with
 |false=>exact ah rfl ⟨by unfold c6;rw[hok];rfl,by trivial⟩
 |true=>
 refine ak rfl ⟨_,j5 p.t ay,?_⟩
 have hstep: ∀j:Int,1≤j∧j≤3→(0≤mR p j→c6 p=(j,mR p j))→(mR p j<0→aa C bF av 4 0 (oW (j+1) (p.t.aE.map bO) (p.t.nodes.map aQ) (p.aL.map bQ) (p.cells.map bL) (p.au.map cg) p.next ((aD p.t).map bP)) (fun u st=>ax C bF av u st fun r fs=>r=tII (c6 p)∧fs=[]))→aa C bF av 4 0 (oW j (p.t.aE.map bO) (p.t.nodes.map aQ) (p.aL.map bQ) (p.cells.map bL) (p.au.map cg) p.next ((aD p.t).map bP)) (fun u st=>ax C bF av u st fun r fs=>r=tII (c6 p)∧fs=[]):=by
  intro j hj h1 h2;refine C8 _ _ _ _ _ _ _ _ _ (ah eI ?_)
  have keyI:eR (r7 p j) ((aD p.t).drop 0) ((0:Nat):Int)=mR p j→aa C bF iu 3 2 (oX j ((0:Nat):Int) (p.t.aE.map bO) (p.t.nodes.map aQ) (p.aL.map bQ) (p.cells.map bL) (p.au.map cg) p.next ((aD p.t).map bP)) (fun u st=>qy C bF av 4 0 ze u st (fun u st=>ax C bF av u st fun r fs=>r=tII (c6 p)∧fs=[])):=by
   refine aZ (aD p.t) (fun i=>eR (r7 p j) ((aD p.t).drop i) (i:Int)=mR p j→aa C bF iu 3 2 (oX j i (p.t.aE.map bO) (p.t.nodes.map aQ) (p.aL.map bQ) (p.cells.map bL) (p.au.map cg) p.next ((aD p.t).map bP)) (fun u st=>qy C bF av 4 0 ze u st (fun u st=>ax C bF av u st fun r fs=>r=tII (c6 p)∧fs=[]))) ?_ ?_
   ·intro h0
    rw[eu] at h0;simp only[eR] at h0;refine C9 _ _ _ _ _ _ _ _ _ _ (ak cW (OK _ _ _ _ _ _ _ _ _ _ _ ?_));rw[aG ay];exact h2 ay
   ·intro i x hi hx hd uC hn h0
    rw[hd] at h0;simp only[eR] at h0;refine C9 _ _ _ _ _ _ _ _ _ _ (ah eI ?_);simp only[lJ,aH,hx,aY,dm];refine⟨_,SP p hS j x,?_⟩;rw[aG ay]
    cases h4:r7 p j x with
    |true=>
     rw[aI h4] at h0;exact ah rfl (OJ _ _ _ _ _ _ _ _ _ _ (OL _ _ _ _ _ _ _ _ _ _ ⟨by rw[h1 ay,←h0],by trivial⟩))
    |false=>rw[aF (by simp[h4])] at h0;exact ak rfl (hn h0)
  exact keyI rfl
 refine hstep 1 ay (fun h=>by unfold c6;rw[aI hok,aI h]) (fun h1=> ?_);refine hstep 2 ay (fun h=>by unfold c6;rw[aI hok,aF ay,aI h]) (fun h2=> ?_);refine hstep 3 ay (fun h=>by unfold c6;rw[aI hok,aF ay,aF ay,aI h]) (fun h3=> ?_);refine C8 _ _ _ _ _ _ _ _ _ (ak cW (OI _ _ _ _ _ _ _ _ _ ?_))
 have key5:eR (u7 p) (p.aL.drop 0) ((0:Nat):Int)=Me p→aa C bF bN 4 4 (oY ((0:Nat):Int) (p.t.aE.map bO) (p.t.nodes.map aQ) (p.aL.map bQ) (p.cells.map bL) (p.au.map cg) p.next) (fun u st=>ax C bF bN u st fun r fs=>r=tII (c6 p)∧fs=[]):=by
  refine aZ p.aL (fun i=>eR (u7 p) (p.aL.drop i) (i:Int)=Me p→aa C bF bN 4 4 (oY i (p.t.aE.map bO) (p.t.nodes.map aQ) (p.aL.map bQ) (p.cells.map bL) (p.au.map cg) p.next) (fun u st=>ax C bF bN u st fun r fs=>r=tII (c6 p)∧fs=[])) ?_ ?_
  ·intro h0
   rw[eu] at h0;simp only[eR] at h0;exact Da _ _ _ _ _ _ _ _ (ak cW (ON _ _ _ _ _ _ _ _ _ ⟨by unfold c6;rw[aI hok,aF ay,aF ay,aF ay,aF ay],by trivial⟩))
  ·intro i x hi hx hd uC hn h0
   rw[hd] at h0;simp only[eR] at h0;refine Da _ _ _ _ _ _ _ _ (ah eI ?_);simp only[wQ,aH,hx,aY,dm];rw[aG ay];refine⟨_,SQ p hS x.id,?_⟩;have e:((aD p.t).all (JA x.id)&&(qS p.au x.id&&decide ((eA p.aL x.id).length≤1)))=u7 p x:=rfl;rw[e]
   cases h4:u7 p x with
   |true=>rw[aI h4] at h0;exact ah rfl (OM _ _ _ _ _ _ _ _ ⟨by unfold c6;rw[aI hok,aF ay,aF ay,aF ay,aI ay,←h0],by trivial⟩)
   |false=>rw[aF (by simp[h4])] at h0;exact ak rfl (hn h0)
 exact key5 rfl
theorem Oc (p:Pool) (hS:aJ p≤4194304):an C bg [cY p] (tII (c6 p)) []:=by
 have hP:=cC hS;have htl:=fh p.t;refine(Um _ _ _ _ _ _ _ ⟨_,e8 p hS,?_⟩).run
 cases hok:cZ p with
 |false=>exact ah rfl ⟨by unfold c6;rw[hok];rfl,by trivial⟩
 |true=>
 refine ak rfl ⟨_,j6 p.t ay,?_⟩
 have hstep: ∀i0 j:Int,0≤i0∧i0<3→rowAt [[iI 1],[iI 2],[iI 3]] i0=some [iI j]→(0≤mR p j→c6 p=(j,mR p j))→(mR p j<0→aa C bg av 4 0 (o6 (i0+1) (p.t.aE.map bO) (p.t.nodes.map aQ) (p.aL.map bQ) (p.cells.map bL) (p.au.map cg) p.next ((aD p.t).map bP)) (fun u st=>ax C bg av u st fun r fs=>r=tII (c6 p)∧fs=[]))→aa C bg av 4 0 (o6 i0 (p.t.aE.map bO) (p.t.nodes.map aQ) (p.aL.map bQ) (p.cells.map bL) (p.au.map cg) p.next ((aD p.t).map bP)) (fun u st=>ax C bg av u st fun r fs=>r=tII (c6 p)∧fs=[]):=by
  intro i0 j hj hr h1 h2;refine Dh _ _ _ _ _ _ _ _ _ (ah eI ⟨_,hr,_,hr,?_⟩)
  have keyI:eR (r7 p j) ((aD p.t).drop 0) ((0:Nat):Int)=mR p j→aa C bg qY 3 2 (o7 j i0 ((aD p.t).map bP) ((0:Nat):Int) (p.t.aE.map bO) (p.t.nodes.map aQ) (p.aL.map bQ) (p.cells.map bL) (p.au.map cg) p.next) (fun u st=>qy C bg av 4 0 qX u st (fun u st=>ax C bg av u st fun r fs=>r=tII (c6 p)∧fs=[])):=by
   refine aZ (aD p.t) (fun i=>eR (r7 p j) ((aD p.t).drop i) (i:Int)=mR p j→aa C bg qY 3 2 (o7 j i0 ((aD p.t).map bP) i (p.t.aE.map bO) (p.t.nodes.map aQ) (p.aL.map bQ) (p.cells.map bL) (p.au.map cg) p.next) (fun u st=>qy C bg av 4 0 qX u st (fun u st=>ax C bg av u st fun r fs=>r=tII (c6 p)∧fs=[]))) ?_ ?_
   ·intro h0
    rw[eu] at h0;simp only[eR] at h0;refine Di _ _ _ _ _ _ _ _ _ _ _ (ak cW (OY _ _ _ _ _ _ _ _ _ _ _ _ _ ?_));rw[aG ay];exact h2 ay
   ·intro i x hi hx hd uC hn h0
    rw[hd] at h0;simp only[eR] at h0;refine Di _ _ _ _ _ _ _ _ _ _ _ (ah eI ?_);simp only[lJ,aH,hx,aY,dm];refine⟨_,Qy p hS (Sd hok) j x,?_⟩;rw[aG ay]
    cases h4:r7 p j x with
    |true=>
     rw[aI h4] at h0;exact ah rfl (OX _ _ _ _ _ _ _ _ _ _ _ _ _ _ _ (OZ _ _ _ _ _ _ _ _ _ _ _ _ _ _ _ ⟨by rw[h1 ay,←h0],by trivial⟩))
    |false=>rw[aF (by simp[h4])] at h0;exact ak rfl (hn h0)
  exact keyI rfl
 refine hstep 0 1 ay (by unfold rowAt;rfl) (fun h=>by unfold c6;rw[aI hok,aI h]) (fun h1=> ?_);refine hstep 1 2 ay (by unfold rowAt;rfl) (fun h=>by unfold c6;rw[aI hok,aF ay,aI h]) (fun h2=> ?_);refine hstep 2 3 ay (by unfold rowAt;rfl) (fun h=>by unfold c6;rw[aI hok,aF ay,aF ay,aI h]) (fun h3=> ?_);refine Dh _ _ _ _ _ _ _ _ _ (ak cW (OW _ _ _ _ _ _ _ _ _ ?_))
 have key5:eR (u7 p) (p.aL.drop 0) ((0:Nat):Int)=Me p→aa C bg bN 4 4 (iY (p.aL.map bQ) ((0:Nat):Int) (p.t.aE.map bO) (p.t.nodes.map aQ) (p.cells.map bL) (p.au.map cg) p.next ((aD p.t).map bP)) (fun u st=>ax C bg bN u st fun r fs=>r=tII (c6 p)∧fs=[]):=by
  refine aZ p.aL (fun i=>eR (u7 p) (p.aL.drop i) (i:Int)=Me p→aa C bg bN 4 4 (iY (p.aL.map bQ) i (p.t.aE.map bO) (p.t.nodes.map aQ) (p.cells.map bL) (p.au.map cg) p.next ((aD p.t).map bP)) (fun u st=>ax C bg bN u st fun r fs=>r=tII (c6 p)∧fs=[])) ?_ ?_
  ·intro h0
   rw[eu] at h0;simp only[eR] at h0;exact Dj _ _ _ _ _ _ _ _ _ (ak cW (O1 _ _ _ _ _ _ _ _ _ _ _ ⟨by unfold c6;rw[aI hok,aF ay,aF ay,aF ay,aF ay],by trivial⟩))
  ·intro i x hi hx hd uC hn h0
   rw[hd] at h0;simp only[eR] at h0;refine Dj _ _ _ _ _ _ _ _ _ (ah eI ?_);simp only[wQ,aH,hx,aY,dm];rw[aG ay]
   have e:u7 p x=(!((aD p.t).any (hasB x.id))&&(qS p.au x.id&&decide ((eA p.aL x.id).length≤1))):=by unfold u7;rw[akk]
   have hO:u7 p x=true→ax C bg bN TX.ret (xm i (p.t.aE.map bO) (p.t.nodes.map aQ) (p.aL.map bQ) (p.cells.map bL) (p.au.map cg) p.next x.id x.fr ((aD p.t).map bP) ((eA p.aL x.id).map bO)) (fun r fs=>r=tII (c6 p)∧fs=[]):=fun h4=>by
    rw[aI h4] at h0;exact O0 _ _ _ _ _ _ _ _ _ _ _ _ ⟨by unfold c6;rw[aI hok,aF ay,aF ay,aF ay,aI ay,←h0],by trivial⟩
   have hN:u7 p x=false→aa C bg bN 4 4 (iY (p.aL.map bQ) ((i:Int)+1) (p.t.aE.map bO) (p.t.nodes.map aQ) (p.cells.map bL) (p.au.map cg) p.next ((aD p.t).map bP)) (fun u st=>ax C bg bN u st fun r fs=>r=tII (c6 p)∧fs=[]):=fun h4=>by
    rw[aF (by simp[h4])] at h0;exact hn h0
   refine⟨_,LH p x.id ay,?_⟩
   cases h5:qS p.au x.id with
   |false=>exact ak rfl (hN (by rw[e,h5];simp))
   |true=>
    refine ah rfl ⟨_,ve p.aL x.id ay,?_⟩
    by_cases h6:(eA p.aL x.id).length≤1
    ·refine ah (by simp[gj];omega) ⟨_,Qx (aD p.t) x.id ay,?_⟩
     cases h7:(aD p.t).any (hasB x.id) with
     |false=>exact ah rfl (hO (by rw[e,h5,h7];simp[h6]))
     |true=>exact ak rfl (hN (by rw[e,h7];simp))
    ·exact ak (by simp[gj];omega) (hN (by rw[e];simp[h6]))
 exact key5 rfl
theorem oR (l:List Age) (hl:l.length≤1073741824):an C fQ [gx l] (gx l) []:=by
 refine(Uq _ _ ?_).run;rw[show bR (l.map bQ)=true from z7 _,cO eI];exact⟨rfl,by trivial⟩
theorem w9 (n:List (List Key)) (hl:n.length≤1073741824) (hs: ∀s∈n,s.length≤1073741824):an C bA [g9 n] (g9 n) []:=by
 refine(Tp _ _ ?_).run
 skip
 have key:((0:Nat)=0→aa C bA ai 4 0 (sj (n.map cU)) (fun u st=>ax C bA ai u st fun r fs=>r=(g9 n)∧fs=[]))∧(0<(0:Nat)→aa C bA ai 4 0 (oT (n.map cU) ((0:Nat):Int) ((n.take 0).map cU)) (fun u st=>ax C bA ai u st fun r fs=>r=(g9 n)∧fs=[])):=by
  refine aZ n (fun i=>(i=0→aa C bA ai 4 0 (sj (n.map cU)) (fun u st=>ax C bA ai u st fun r fs=>r=(g9 n)∧fs=[]))∧(0<i→aa C bA ai 4 0 (oT (n.map cU) i ((n.take i).map cU)) (fun u st=>ax C bA ai u st fun r fs=>r=(g9 n)∧fs=[]))) ?_ ?_
  ·refine⟨fun h=> ?_,fun h=> ?_⟩
   ·have hnil:n=[]:=List.length_eq_zero_iff.1 h
    refine C0 _ _ (ak (by simp[h]) (Oy _ _ _ _ ⟨?_,by trivial⟩));simp[hnil]
   ·rw[vZ]
    exact C1 _ _ _ _ (ak cW (Oz _ _ _ _ _ _ ⟨rfl,by trivial⟩))
  ·intro i a hi ha hd uC hn
   have hmem:=gP ha;refine⟨fun h=> ?_,fun h=> ?_⟩
   ·subst h
    have hz:ff n 0=some a:=(aH n 0).trans ha;have hn2:=hn.2 ay;rw[uC] at hn2;refine C0 _ _ (ah eI ?_);simp only[xS,hz,aY,dm];refine⟨_,oQ a (by have:=hs a hmem;omega),ah (cO (by simp;try omega)) ?_⟩;rw[aG ay];exact hn2
   ·have hn2:=hn.2 ay
    rw[uC] at hn2;refine C1 _ _ _ _ (ah eI ?_);simp only[xS,aH,ha,aY,dm];refine⟨_,oQ a (by have:=hs a hmem;omega),ah (cO (by simp;try omega)) ?_⟩;rw[aG ay];rw[uv] at hn2;exact hn2
 exact key.1 rfl
theorem y6 (n:List (List Key)) (hl:n.length≤1073741824) (hs: ∀s∈n,s.length≤1073741824):an C cc [g9 n] (g9 n) []:=by
 refine(aap _ _ ?_).run
 skip
 have key:((0:Nat)=0→aa C cc ai 4 0 (vw (n.map cU)) (fun u st=>ax C cc ai u st fun r fs=>r=(g9 n)∧fs=[]))∧(0<(0:Nat)→aa C cc ai 4 0 (rC ((0:Nat):Int) (n.map cU) ((n.take 0).map cU)) (fun u st=>ax C cc ai u st fun r fs=>r=(g9 n)∧fs=[])):=by
  refine aZ n (fun i=>(i=0→aa C cc ai 4 0 (vw (n.map cU)) (fun u st=>ax C cc ai u st fun r fs=>r=(g9 n)∧fs=[]))∧(0<i→aa C cc ai 4 0 (rC i (n.map cU) ((n.take i).map cU)) (fun u st=>ax C cc ai u st fun r fs=>r=(g9 n)∧fs=[]))) ?_ ?_
  ·refine⟨fun h=> ?_,fun h=> ?_⟩
   ·have hnil:n=[]:=List.length_eq_zero_iff.1 h
    refine IM _ _ (ak (by simp[h]) (U0 _ _ _ ⟨?_,by trivial⟩));simp[hnil]
   ·rw[vZ]
    exact IN _ _ _ _ (ak cW (U1 _ _ _ _ _ ⟨rfl,by trivial⟩))
  ·intro i a hi ha hd uC hn
   have hmem:=gP ha;refine⟨fun h=> ?_,fun h=> ?_⟩
   ·subst h
    have hz:ff n 0=some a:=(aH n 0).trans ha;have hn2:=hn.2 ay;rw[uC] at hn2;refine IM _ _ (ah eI ?_);simp only[xS,hz,aY,dm];have hsa:=hs a hmem;refine ah (by rw[show bR (a.map bP)=true from m8 _,cO eI];rfl) (ah (cO (by simp;try omega)) ?_);rw[aG ay];exact hn2
   ·have hn2:=hn.2 ay
    rw[uC] at hn2;refine IN _ _ _ _ (ah eI ?_);simp only[xS,aH,ha,aY,dm];have hsa:=hs a hmem;refine ah (by rw[show bR (a.map bP)=true from m8 _,cO eI];rfl) (ah (cO (by simp;try omega)) ?_);rw[aG ay];rw[uv] at hn2;exact hn2
 exact key.1 rfl
theorem xb (t:Tree) (hl:t.aE.length≤1073741824∧t.nodes.length≤1073741824) (hs: ∀n∈t.nodes,n.length≤1073741824∧ ∀s∈n,s.length≤1073741824):an C bU [dW t] (dW t) []:=by
 refine(TQ _ _ _ ?_).run;refine⟨_,Ch t.aE hl.1,?_⟩
 have key:((0:Nat)=0→aa C bU ai 4 0 (sw (t.nodes.map aQ) (t.aE.map bO)) (fun u st=>ax C bU ai u st fun r fs=>r=(dW t)∧fs=[]))∧(0<(0:Nat)→aa C bU ai 4 0 (oZ (t.nodes.map aQ) ((0:Nat):Int) (t.aE.map bO) ((t.nodes.take 0).map aQ)) (fun u st=>ax C bU ai u st fun r fs=>r=(dW t)∧fs=[])):=by
  refine aZ t.nodes (fun i=>(i=0→aa C bU ai 4 0 (sw (t.nodes.map aQ) (t.aE.map bO)) (fun u st=>ax C bU ai u st fun r fs=>r=(dW t)∧fs=[]))∧(0<i→aa C bU ai 4 0 (oZ (t.nodes.map aQ) i (t.aE.map bO) ((t.nodes.take i).map aQ)) (fun u st=>ax C bU ai u st fun r fs=>r=(dW t)∧fs=[]))) ?_ ?_
  ·refine⟨fun h=> ?_,fun h=> ?_⟩
   ·have hnil:t.nodes=[]:=List.length_eq_zero_iff.1 h
    refine Dc _ _ _ (ak (by simp[h]) (OP _ _ _ _ _ ⟨?_,by trivial⟩));simp[hnil]
   ·rw[vZ]
    exact Dd _ _ _ _ _ (ak cW (OQ _ _ _ _ _ _ _ ⟨rfl,by trivial⟩))
  ·intro i a hi ha hd uC hn
   have hmem:=gP ha;refine⟨fun h=> ?_,fun h=> ?_⟩
   ·subst h
    have hz:ff t.nodes 0=some a:=(aH t.nodes 0).trans ha;have hn2:=hn.2 ay;rw[uC] at hn2;refine Dc _ _ _ (ah eI ?_);simp only[tM,hz,aY,dm];refine⟨_,w9 a (hs a hmem).1 (hs a hmem).2,ah (cO (by simp;try omega)) ?_⟩;rw[aG ay];exact hn2
   ·have hn2:=hn.2 ay
    rw[uC] at hn2;refine Dd _ _ _ _ _ (ah eI ?_);simp only[tM,aH,ha,aY,dm];refine⟨_,w9 a (hs a hmem).1 (hs a hmem).2,ah (cO (by simp;try omega)) ?_⟩;rw[aG ay];rw[uv] at hn2;exact hn2
 exact key.1 rfl
theorem y7 (t:Tree) (hl:t.aE.length≤1073741824∧t.nodes.length≤1073741824) (hs: ∀n∈t.nodes,n.length≤1073741824∧ ∀s∈n,s.length≤1073741824):an C dB [dW t] (dW t) []:=by
 refine(aaf _ _ _ ?_).run;refine ah (by rw[show bR (t.aE.map bO)=true from nS _,cO eI];rfl) ?_
 have key:((0:Nat)=0→aa C dB ai 4 0 (vv (t.aE.map bO) (t.nodes.map aQ)) (fun u st=>ax C dB ai u st fun r fs=>r=(dW t)∧fs=[]))∧(0<(0:Nat)→aa C dB ai 4 0 (rB ((0:Nat):Int) (t.aE.map bO) (t.nodes.map aQ) ((t.nodes.take 0).map aQ)) (fun u st=>ax C dB ai u st fun r fs=>r=(dW t)∧fs=[])):=by
  refine aZ t.nodes (fun i=>(i=0→aa C dB ai 4 0 (vv (t.aE.map bO) (t.nodes.map aQ)) (fun u st=>ax C dB ai u st fun r fs=>r=(dW t)∧fs=[]))∧(0<i→aa C dB ai 4 0 (rB i (t.aE.map bO) (t.nodes.map aQ) ((t.nodes.take i).map aQ)) (fun u st=>ax C dB ai u st fun r fs=>r=(dW t)∧fs=[]))) ?_ ?_
  ·refine⟨fun h=> ?_,fun h=> ?_⟩
   ·have hnil:t.nodes=[]:=List.length_eq_zero_iff.1 h
    refine IE _ _ _ (ak (by simp[h]) (UL _ _ _ _ ⟨?_,by trivial⟩));simp[hnil]
   ·rw[vZ]
    exact IF _ _ _ _ _ (ak cW (UM _ _ _ _ _ _ ⟨rfl,by trivial⟩))
  ·intro i a hi ha hd uC hn
   have hmem:=gP ha;refine⟨fun h=> ?_,fun h=> ?_⟩
   ·subst h
    have hz:ff t.nodes 0=some a:=(aH t.nodes 0).trans ha;have hn2:=hn.2 ay;rw[uC] at hn2;refine IE _ _ _ (ah eI ?_);simp only[tM,hz,aY,dm];refine⟨_,y6 a (hs a hmem).1 (hs a hmem).2,ah (cO (by simp;try omega)) ?_⟩;rw[aG ay];exact hn2
   ·have hn2:=hn.2 ay
    rw[uC] at hn2;refine IF _ _ _ _ _ (ah eI ?_);simp only[tM,aH,ha,aY,dm];refine⟨_,y6 a (hs a hmem).1 (hs a hmem).2,ah (cO (by simp;try omega)) ?_⟩;rw[aG ay];rw[uv] at hn2;exact hn2
 exact key.1 rfl
theorem wB {t:Tree} (h:cG t≤4194304):(t.aE.length≤1073741824∧t.nodes.length≤1073741824)∧ ∀n∈t.nodes,n.length≤1073741824∧ ∀s∈n,s.length≤1073741824:=by
 have e2:cG t=t.aE.length+(t.nodes.length+tot aP t.nodes):=rfl;refine⟨⟨by omega,by omega⟩,fun n hn=> ?_⟩;have h1:aP n≤tot aP t.nodes:=oA (w:=aP) hn;have h2:aP n=n.length+tot bY n:=rfl;refine⟨by omega,fun s hs=> ?_⟩;have h3:bY s≤tot bY n:=oA (w:=bY) hs;have h4:bY s=s.length:=rfl;omega
theorem cz (p:Pool) (hS:aJ p≤4194304):an C bq [cY p] (cY p) []:=by
 have hP:=cC hS;have hN:=wB hP.1;have hT:=y7 p.t hN.1 hN.2
 have hA:(bR (p.aL.map bQ)&&fits (Nat.add 0 (p.aL.map bQ).length) 16)=true:=by rw[z7,cO eI];rfl
 have hC:=yZ p.cells ay
 have hV:(bR (p.au.map cg)&&fits (Nat.add 0 (p.au.map cg).length) 40)=true:=by rw[wj,cO eI];rfl
 refine(W9 _ _ _ _ _ _ _ ?_).run
 repeat' first
  |exact rfl
  |refine⟨(cY p,[]),?_,?_,⟨rfl,by trivial⟩⟩
  |refine⟨(cY p,[]),?_,?_,by trivial⟩
  |refine⟨_,_,hT,?_⟩
  |refine ah hA ?_
  |refine⟨_,hC,?_⟩
  |refine ah hV ?_
theorem bJ (p:Pool) (hS:aJ p≤4194304):an C aN [cY p] (cY p) []:=by
 have hP:=cC hS;have hN:=wB hP.1;have hT:=xb p.t hN.1 hN.2;have hA:=oR p.aL ay;have hC:=vT p.cells ay
 have hV:(bR (p.au.map cg)&&fits (Nat.add 0 (p.au.map cg).length) 40)=true:=by rw[wj,cO eI];rfl
 refine(Ue _ _ _ _ _ _ _ ?_).run
 repeat' first
  |exact rfl
  |refine⟨(cY p,[]),?_,?_,⟨rfl,by trivial⟩⟩
  |refine⟨(cY p,[]),?_,?_,by trivial⟩
  |refine⟨_,_,hT,?_⟩
  |refine⟨_,hA,?_⟩
  |refine⟨_,hC,?_⟩
  |refine ah hV ?_
theorem Qz (l:List Key) (hl:l.length≤1073741824):an C aW [dL l] (g9 (newNode l)) []:=by
 refine(Ku _ _ ?_).run;unfold newNode
 by_cases h:l.length=0
 ·exact ah (by simp[h]) ⟨by rw[aI h];rfl,by trivial⟩
 ·refine ak (by rw[bX,lU,bD];exact e9 ay) ?_
  rw[show bR (l.map bP)=true from m8 _,cO eI];exact⟨by rw[aF h];rfl,by trivial⟩
theorem Od (n:List (List Key)) (hb:n.length≤1073741824) (hl:tot bY n≤1073741824):an C DQ [g9 n] (g9 (wX n)) []:=by
 have h1:=dn n;exact(T9 _ _ ⟨_,(ga n hb hl _).2 rfl,_,Qz (aU n) ay,⟨rfl,by trivial⟩⟩).run
theorem Oe (t:Tree) (i:Int) (hl:cG t≤4194304):an C DO [dW t,vI i] (dW (Ay t i)) []:=by
 have hN:=wB hl;have e2:cG t=t.aE.length+(t.nodes.length+tot aP t.nodes):=rfl;refine(U2 _ _ _ _ ⟨_,_,y7 t hN.1 hN.2,_,tj _ _ _,?_⟩).run;unfold Ay;rw[bX,show cN (Int.ofNat t.nodes.length) 1=(t.nodes.length:Int)-1 from de eI]
 by_cases h1:0≤i∧i<t.nodes.length
 ·obtain⟨n,hn⟩:=mg h1.1 h1.2
  have hz:aP n≤tot aP t.nodes:=oA (w:=aP) (Ek hn);have e1:aP n=n.length+tot bY n:=rfl;refine ah (by simp[iA];omega) ?_;simp only[tM,hn,aY,dm];refine⟨_,Od n ay ay,?_⟩;simp only[ab7]
  first|exact⟨rfl,by trivial⟩|exact⟨trivial,trivial⟩|trivial|simp
 ·rw[gD h1]
  exact ak (by simp[iA];omega) ⟨rfl,by trivial⟩
theorem Of (p:Pool) (i:Int) (hS:aJ p≤4194304):an C DM [cY p,vI i] (tPB (qa p i)) []:=by
 have hP:=cC hS;have e2:cG p.t=p.t.aE.length+(p.t.nodes.length+tot aP p.t.nodes):=rfl;refine(Up _ _ _ _ _ _ _ _ ⟨_,_,_,_,_,_,cz p hS,_,gL p hS,?_⟩).run;unfold qa
 cases h0:cZ p with
 |false=>exact ah rfl ⟨by simp,by trivial⟩
 |true=>
  refine ak rfl ⟨_,tj _ _ _,?_⟩;rw[bX,show cN (Int.ofNat p.t.nodes.length) 1=(p.t.nodes.length:Int)-1 from de eI]
  by_cases h1:0≤i∧i<p.t.nodes.length
  ·refine ak (by simp[iA];omega) ⟨_,_,Oe p.t i hP.1,?_⟩
   exact⟨by rw[aI ⟨rfl,h1⟩],by trivial⟩
  ·exact ah (by simp[iA];omega) ⟨by rw[aF (fun h=>h1 h.2)],by trivial⟩
theorem QA (l:List Key) (hl:l.length≤1073741824):an C dV [dL l] (g9 (newNode l)) []:=by
 refine(Ky _ _ ?_).run;unfold newNode
 by_cases h:l.length=0
 ·exact ah (by simp[h]) ⟨by rw[aI h];rfl,by trivial⟩
 ·refine ak (by rw[bX,lU,bD];exact e9 ay) ?_
  exact⟨_,oQ l ay,⟨by rw[aF h];rfl,by trivial⟩⟩
theorem Og (n:List (List Key)) (hb:n.length≤1073741824) (hl:tot bY n≤1073741824):an C DP [g9 n] (g9 (wX n)) []:=by
 have h1:=dn n;exact(Tq _ _ ⟨_,(ku n hb hl _).2 rfl,_,QA (aU n) ay,⟨rfl,by trivial⟩⟩).run
end Go.T.R
