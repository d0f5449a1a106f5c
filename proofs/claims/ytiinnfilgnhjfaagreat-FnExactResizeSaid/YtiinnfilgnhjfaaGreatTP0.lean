/- What the functions answer. -/
import Derived.Test.YtiinnfilgnhjfaaGreatTR1
set_option linter.unusedVariables false
set_option linter.unusedSimpArgs false
set_option maxRecDepth 100000
set_option maxHeartbeats 4000000
namespace Go.T.R
open Go Go.T
theorem toKey (v0:Int) (v1:Int) (v2:Int) (v3:Int) (v4:Int):aa C DE [.ag [iI v0,iI v1,iI v2,iI v3,iI v4]] (.ag [iI v0,iI v1,iI v2,iI v3,iI v4]) []:=(PK _ _ _ _ _ _ ⟨rfl,by first|rfl|trivial⟩).run
theorem Zs (v0:Int) (v1:Int) (v2:Int) (v3:Int) (v4:Int):aa C DF [.ag [iI v0,iI v1,iI v2,iI v3,iI v4],.ag [iI v0,iI v1,iI v2,iI v3,iI v4]] (vB true) []:=by
 refine(PT _ _ _ _ _ _ _ _ _ _ _ ?_).run
 simp
theorem Yx (l:List (Key)) (hl:l.length≤1099511627776):aa C kJ [cO l] (cO l) []:=by
 refine(No _ _ ?_).run
 simp only[List.length_map]
 refine ai (by simp;omega) ?_
 simp only[fZ,yu,Int.toNat_natCast]
 refine yy (e:=bN) (z:=[iI 0,iI 0,iI 0,iI 0,iI 0]) l (fun i rows=>ah C kJ aj 4 0 (pP (l.map bN) i rows) _) (fun a=>rfl) ?_ ?_
 ·exact AD _ _ _ _ (an (by simp) (Jp _ _ _ _ _ ⟨rfl,by first|rfl|trivial⟩))
 ·intro i rows a hi ha hr hn
  refine AD _ _ _ _ (ai (by simp;omega) ⟨_,_,_,_,_,cP ha,_,_,_,_,_,toKey _ _ _ _ _,_,_,_,_,_,hr,_,_,_,_,_,hr,?_⟩)
  rw[aJ (by omega)]
  exact hn
theorem Yy (l:List (Key)) (hl:l.length≤1099511627776):aa C kK [cO l,cO l] (vB true) []:=by
 refine(NL _ _ _ ?_).run
 refine an (by simp) ?_
 refine bD l (fun i=>ah C kK aj 4 0 (pW (l.map bN) (l.map bN) i) _) ?_ ?_
 ·exact AW _ _ _ _ (an (by simp) (JT _ _ _ _ _ ⟨rfl,by first|rfl|trivial⟩))
 ·intro i a hi ha _ _ hn
  refine AW _ _ _ _ (ai (by simp;omega) ⟨_,_,_,_,_,cP ha,_,_,_,_,_,cP ha,_,Zs _ _ _ _ _,an (by simp) ?_⟩)
  rw[aJ (by omega)]
  exact hn
theorem Zu (v0:Int) (v1:Int):aa C Dz [.ag [iI v0,iI v1]] (.ag [iI v0,iI v1]) []:=(PU _ _ _ ⟨rfl,by first|rfl|trivial⟩).run
theorem Zv (v0:Int) (v1:Int):aa C DB [.ag [iI v0,iI v1],.ag [iI v0,iI v1]] (vB true) []:=by
 refine(PC _ _ _ _ _ ?_).run
 simp
theorem Yz (l:List (Age)) (hl:l.length≤1099511627776):aa C kz [jo l] (jo l) []:=by
 refine(Nf _ _ ?_).run
 simp only[List.length_map]
 refine ai (by simp;omega) ?_
 simp only[fZ,yu,Int.toNat_natCast]
 refine yy (e:=dM) (z:=[iI 0,iI 0]) l (fun i rows=>ah C kz aj 4 0 (pM (l.map dM) i rows) _) (fun a=>rfl) ?_ ?_
 ·exact Au _ _ _ _ (an (by simp) (I7 _ _ _ _ _ ⟨rfl,by first|rfl|trivial⟩))
 ·intro i rows a hi ha hr hn
  refine Au _ _ _ _ (ai (by simp;omega) ⟨_,_,cP ha,_,_,Zu _ _,_,_,hr,_,_,hr,?_⟩)
  rw[aJ (by omega)]
  exact hn
theorem YA (l:List (Age)) (hl:l.length≤1099511627776):aa C kD [jo l,jo l] (vB true) []:=by
 refine(Ns _ _ _ ?_).run
 refine an (by simp) ?_
 refine bD l (fun i=>ah C kD aj 4 0 (pQ (l.map dM) (l.map dM) i) _) ?_ ?_
 ·exact AF _ _ _ _ (an (by simp) (Js _ _ _ _ _ ⟨rfl,by first|rfl|trivial⟩))
 ·intro i a hi ha _ _ hn
  refine AF _ _ _ _ (ai (by simp;omega) ⟨_,_,cP ha,_,_,cP ha,_,Zv _ _,an (by simp) ?_⟩)
  rw[aJ (by omega)]
  exact hn
theorem toCell (v0:Int) (v1:Bool) (v2:Int):aa C BO [.ag [iI v0,iB v1,iI v2]] (.ag [iI v0,iB v1,iI v2]) []:=(MH _ _ _ _ ⟨rfl,by first|rfl|trivial⟩).run
theorem YB (v0:Int) (v1:Bool) (v2:Int):aa C BP [.ag [iI v0,iB v1,iI v2],.ag [iI v0,iB v1,iI v2]] (vB true) []:=by
 refine(MW _ _ _ _ _ _ _ ?_).run
 simp
theorem Xg (l:List (Cell)) (hl:l.length≤1099511627776):aa C jt [gY l] (gY l) []:=by
 refine(L5 _ _ ?_).run
 simp only[List.length_map]
 refine ai (by simp;omega) ?_
 simp only[fZ,yu,Int.toNat_natCast]
 refine yy (e:=cK) (z:=[iI 0,iB false,iI 0]) l (fun i rows=>ah C jt aj 4 0 (oD (l.map cK) i rows) _) (fun a=>rfl) ?_ ?_
 ·exact xR _ _ _ _ (an (by simp) (GZ _ _ _ _ _ ⟨rfl,by first|rfl|trivial⟩))
 ·intro i rows a hi ha hr hn
  refine xR _ _ _ _ (ai (by simp;omega) ⟨_,_,_,cP ha,_,_,_,toCell _ _ _,_,_,_,hr,_,_,_,hr,?_⟩)
  rw[aJ (by omega)]
  exact hn
theorem Xh (l:List (Cell)) (hl:l.length≤1099511627776):aa C ju [gY l,gY l] (vB true) []:=by
 refine(Ln _ _ _ ?_).run
 refine an (by simp) ?_
 refine bD l (fun i=>ah C ju aj 4 0 (ot (l.map cK) (l.map cK) i) _) ?_ ?_
 ·exact xB _ _ _ _ (an (by simp) (Gm _ _ _ _ _ ⟨rfl,by first|rfl|trivial⟩))
 ·intro i a hi ha _ _ hn
  refine xB _ _ _ _ (ai (by simp;omega) ⟨_,_,_,cP ha,_,_,_,cP ha,_,YB _ _ _,an (by simp) ?_⟩)
  rw[aJ (by omega)]
  exact hn
theorem Zw (v0:ByteArray) (v1:Int) (v2:Int) (v3:Bool):aa C DA [.ag [iS v0,iI v1,iI v2,iB v3]] (.ag [iS v0,iI v1,iI v2,iB v3]) []:=(PJ _ _ _ _ _ ⟨rfl,by first|rfl|trivial⟩).run
theorem Zx (v0:ByteArray) (v1:Int) (v2:Int) (v3:Bool):aa C DC [.ag [iS v0,iI v1,iI v2,iB v3],.ag [iS v0,iI v1,iI v2,iB v3]] (vB true) []:=by
 refine(PM _ _ _ _ _ _ _ _ _ ?_).run
 simp
theorem YC (l:List (Vol)) (hl:l.length≤1099511627776):aa C kC [yK l] (yK l) []:=by
 refine(MC _ _ ?_).run
 simp only[List.length_map]
 refine ai (by simp;omega) ?_
 simp only[fZ,yu,Int.toNat_natCast]
 refine yy (e:=dx) (z:=[iS Zi,iI 0,iI 0,iB false]) l (fun i rows=>ah C kC aj 4 0 (pE (l.map dx) i rows) _) (fun a=>rfl) ?_ ?_
 ·exact z8 _ _ _ _ (an (by simp) (Ip _ _ _ _ _ ⟨rfl,by first|rfl|trivial⟩))
 ·intro i rows a hi ha hr hn
  refine z8 _ _ _ _ (ai (by simp;omega) ⟨_,_,_,_,cP ha,_,_,_,_,Zw _ _ _ _,_,_,_,_,hr,_,_,_,_,hr,?_⟩)
  rw[aJ (by omega)]
  exact hn
theorem YD (l:List (Vol)) (hl:l.length≤1099511627776):aa C kE [yK l,yK l] (vB true) []:=by
 refine(MT _ _ _ ?_).run
 refine an (by simp) ?_
 refine bD l (fun i=>ah C kE aj 4 0 (pI (l.map dx) (l.map dx) i) _) ?_ ?_
 ·exact Ah _ _ _ _ (an (by simp) (IJ _ _ _ _ _ ⟨rfl,by first|rfl|trivial⟩))
 ·intro i a hi ha _ _ hn
  refine Ah _ _ _ _ (ai (by simp;omega) ⟨_,_,_,_,cP ha,_,_,_,_,cP ha,_,Zx _ _ _ _,an (by simp) ?_⟩)
  rw[aJ (by omega)]
  exact hn
theorem YE (l:List (Int)) (hl:l.length≤1099511627776):aa C kG [ki l] (ki l) []:=by
 refine(MV _ _ ?_).run
 simp only[List.length_map]
 refine ai (by simp;omega) ?_
 simp only[fZ,yu,Int.toNat_natCast]
 refine yy (e:=bL) (z:=[iI 0]) l (fun i rows=>ah C kG aj 4 0 (pJ (l.map bL) i rows) _) (fun a=>rfl) ?_ ?_
 ·exact Aj _ _ _ _ (an (by simp) (IS _ _ _ _ _ ⟨rfl,by first|rfl|trivial⟩))
 ·intro i rows a hi ha hr hn
  refine Aj _ _ _ _ (ai (by simp;omega) ⟨_,cP ha,_,hr,_,hr,?_⟩)
  rw[aJ (by omega)]
  exact hn
theorem YF (l:List (Int)) (hl:l.length≤1099511627776):aa C kH [ki l,ki l] (vB true) []:=by
 refine(Nh _ _ _ ?_).run
 refine an (by simp) ?_
 refine bD l (fun i=>ah C kH aj 4 0 (pN (l.map bL) (l.map bL) i) _) ?_ ?_
 ·exact Av _ _ _ _ (an (by simp) (Jd _ _ _ _ _ ⟨rfl,by first|rfl|trivial⟩))
 ·intro i a hi ha _ _ hn
  refine Av _ _ _ _ (ai (by simp;omega) ⟨_,cP ha,_,cP ha,an (by simp) ?_⟩)
  rw[aJ (by omega)]
  exact hn
theorem Xi (l:List (List Key)) (hl:l.length≤1099511627776) (hs: ∀s∈l,s.length≤1099511627776):aa C jx [EC l] (EC l) []:=by
 refine(LM _ _ ?_).run
 simp only[List.length_map]
 refine ai (by simp;omega) ?_
 simp only[fZ,yu,Int.toNat_natCast]
 refine yy (e:=cc) (z:=[TC.sub 5 []]) l (fun i rows=>ah C jx aj 4 0 (oy (l.map cc) i rows) _) (fun a=>rfl) ?_ ?_
 ·exact xM _ _ _ _ (an (by simp) (GM _ _ _ _ _ ⟨rfl,by first|rfl|trivial⟩))
 ·intro i rows a hi ha hr hn
  refine xM _ _ _ _ (ai (by simp;omega) ⟨_,cP ha,_,Yx _ (hs _ (List.mem_of_getElem? ha)),_,hr,_,hr,?_⟩)
  rw[aJ (by omega)]
  exact hn
def ES (n:List (List Key)):Prop:=n.length≤1099511627776∧ ∀s∈n,s.length≤1099511627776
def YG (l:List (List (List Key))):Prop:=l.length≤1099511627776∧ ∀n∈l,ES n
def Ow (t:Tree):Prop:=t.lows.length≤1099511627776∧YG t.nodes
theorem YH (n:List (List Key)) (h:ES n):aa C BS [fW n] (fW n) []:=(ML _ _ ⟨_,Xi n h.1 h.2,rfl,rfl⟩).run
theorem Xj (l:List (List (List Key))) (hl:l.length≤1099511627776) (hs: ∀n∈l,ES n):aa C jv [tM l] (tM l) []:=by
 refine(LR _ _ ?_).run
 simp only[List.length_map]
 refine ai (by simp;omega) ?_
 simp only[fZ,yu,Int.toNat_natCast]
 refine yy (e:=aW) (z:=[TC.sub 1 []]) l (fun i rows=>ah C jv aj 4 0 (oA (l.map aW) i rows) _) (fun a=>rfl) ?_ ?_
 ·exact xO _ _ _ _ (an (by simp) (GO _ _ _ _ _ ⟨rfl,by first|rfl|trivial⟩))
 ·intro i rows a hi ha hr hn
  refine xO _ _ _ _ (ai (by simp;omega) ⟨_,cP ha,_,YH _ (hs _ (List.mem_of_getElem? ha)),_,hr,_,hr,?_⟩)
  rw[aJ (by omega)]
  exact hn
theorem toTree (t:Tree) (h:Ow t):aa C BJ [dn t] (dn t) []:=(MS _ _ _ ⟨_,YE _ h.1,_,Xj _ h.2.1 h.2.2,rfl,rfl⟩).run
theorem Xk (l:List (List Key)) (hl:l.length≤1099511627776) (hs: ∀s∈l,s.length≤1099511627776):aa C jy [EC l,EC l] (vB true) []:=by
 refine(L0 _ _ _ ?_).run
 refine an (by simp) ?_
 refine bD l (fun i=>ah C jy aj 4 0 (oC (l.map cc) (l.map cc) i) _) ?_ ?_
 ·exact xQ _ _ _ _ (an (by simp) (GY _ _ _ _ _ ⟨rfl,by first|rfl|trivial⟩))
 ·intro i a hi ha _ _ hn
  refine xQ _ _ _ _ (ai (by simp;omega) ⟨_,cP ha,_,cP ha,_,Yy _ (hs _ (List.mem_of_getElem? ha)),an (by simp) ?_⟩)
  rw[aJ (by omega)]
  exact hn
theorem YI (n:List (List Key)) (h:ES n):aa C BT [fW n,fW n] (vB true) []:=(M5 _ _ _ ⟨_,Xk n h.1 h.2,by simp⟩).run
theorem Xl (l:List (List (List Key))) (hl:l.length≤1099511627776) (hs: ∀n∈l,ES n):aa C jw [tM l,tM l] (vB true) []:=by
 refine(L6 _ _ _ ?_).run
 refine an (by simp) ?_
 refine bD l (fun i=>ah C jw aj 4 0 (oE (l.map aW) (l.map aW) i) _) ?_ ?_
 ·exact xS _ _ _ _ (an (by simp) (G1 _ _ _ _ _ ⟨rfl,by first|rfl|trivial⟩))
 ·intro i a hi ha _ _ hn
  refine xS _ _ _ _ (ai (by simp;omega) ⟨_,cP ha,_,cP ha,_,YI _ (hs _ (List.mem_of_getElem? ha)),an (by simp) ?_⟩)
  rw[aJ (by omega)]
  exact hn
theorem YJ (t:Tree) (h:Ow t):aa C BK [dn t,dn t] (vB true) []:=(Ng _ _ _ _ _ ⟨_,YF _ h.1,an rfl ⟨_,Xl _ h.2.1 h.2.2,by simp⟩⟩).run
structure Rl (p:Pool):Prop where
 t:Ow p.t
 ages:p.ages.length≤1099511627776
 cells:p.cells.length≤1099511627776
 vols:p.vols.length≤1099511627776
theorem Pv (p:Pool) (h:Rl p):aa C qi [fX p] (fX p) []:=(MP _ _ _ _ _ _ _ ⟨_,_,toTree p.t h.t,_,Yz _ h.ages,_,Xg _ h.cells,_,YC _ h.vols,rfl,rfl⟩).run
theorem Pw (p:Pool) (h:Rl p):aa C qj [fX p,fX p] (vB true) []:=(Nq _ _ _ _ _ _ _ _ _ _ _ _ _ ⟨_,YJ p.t h.t,an rfl ⟨_,YA _ h.ages,an rfl ⟨_,Xh _ h.cells,an rfl ⟨_,YD _ h.vols,an rfl (by simp)⟩⟩⟩⟩).run
theorem YK (l:List (Int)) (left:Int) (h0:0≤left∧left≤1048576) (hl:l.length≤140737488355328):aa C BN [ki l,vI left] (vI (lX left l.length)) []:=by
 refine(MF _ _ _ ?_).run
 simp only[List.length_map,fZ]
 rw[dg (by omega)]
 unfold lX
 simp only[eE,bF]
 by_cases h:left<(l.length:Int)
 ·rw[if_pos (by omega),if_pos h];exact⟨rfl,by first|rfl|trivial⟩
 ·rw[if_neg (by omega),if_neg h];exact⟨rfl,by first|rfl|trivial⟩
theorem YL (l:List (Key)) (left:Int) (h0:0≤left∧left≤1048576) (hl:l.length≤140737488355328):aa C BU [cO l,vI left] (vI (lX left l.length)) []:=by
 refine(Nd _ _ _ ?_).run
 simp only[List.length_map,fZ]
 rw[dg (by omega)]
 unfold lX
 simp only[eE,bF]
 by_cases h:left<(l.length:Int)
 ·rw[if_pos (by omega),if_pos h];exact⟨rfl,by first|rfl|trivial⟩
 ·rw[if_neg (by omega),if_neg h];exact⟨rfl,by first|rfl|trivial⟩
theorem YM (l:List (Age)) (left:Int) (h0:0≤left∧left≤1048576) (hl:l.length≤140737488355328):aa C BI [jo l,vI left] (vI (lX left l.length)) []:=by
 refine(MR _ _ _ ?_).run
 simp only[List.length_map,fZ]
 rw[dg (by omega)]
 unfold lX
 simp only[eE,bF]
 by_cases h:left<(l.length:Int)
 ·rw[if_pos (by omega),if_pos h];exact⟨rfl,by first|rfl|trivial⟩
 ·rw[if_neg (by omega),if_neg h];exact⟨rfl,by first|rfl|trivial⟩
theorem Xm (l:List (Cell)) (left:Int) (h0:0≤left∧left≤1048576) (hl:l.length≤140737488355328):aa C yA [gY l,vI left] (vI (lX left l.length)) []:=by
 refine(LP _ _ _ ?_).run
 simp only[List.length_map,fZ]
 rw[dg (by omega)]
 unfold lX
 simp only[eE,bF]
 by_cases h:left<(l.length:Int)
 ·rw[if_pos (by omega),if_pos h];exact⟨rfl,by first|rfl|trivial⟩
 ·rw[if_neg (by omega),if_neg h];exact⟨rfl,by first|rfl|trivial⟩
theorem Xn (l:List (List Key)) (left:Int) (h0:0≤left∧left≤1048576) (hl:l.length≤140737488355328) (hs: ∀s∈l,s.length≤140737488355328):aa C fP [EC l,vI left] (vI (lX left (l.length+tot bH l))) []:=by
 refine(Ly _ _ _ ?_).run
 simp only[List.length_map,fZ]
 rw[dg (by omega)]
 simp only[eE,bF]
 by_cases h:left<(l.length:Int)
 ·rw[if_pos (by omega)]
  refine⟨?_,by first|rfl|trivial⟩
  unfold lX
  rw[if_pos (by omega)]
 ·rw[if_neg (by omega)]
  have key: ∀cur:Int,0≤cur∧cur≤1048576→lX cur (tot bH (l.drop 0))=lX left (l.length+tot bH l)→ah C fP aH 4 0 (lG (l.map cc) cur ((0:Nat):Int)) (fun x st=>aF C fP aH x st fun r fs=>r=vI (lX left (l.length+tot bH l))∧fs=[]):=by
   refine bD l (fun i=> ∀cur:Int,0≤cur∧cur≤1048576→lX cur (tot bH (l.drop i))=lX left (l.length+tot bH l)→ah C fP aH 4 0 (lG (l.map cc) cur i) _) ?_ ?_
   ·intro cur hc he
    refine xG _ _ _ _ (an (by simp) (GC _ _ _ _ _ ⟨?_,by first|rfl|trivial⟩))
    rw[←he,List.drop_length]
    unfold lX tot
    rw[if_neg (by omega)]
    simp
   ·intro i a hi ha hd _ hn cur hc he
    rw[hd] at he
    simp only[tot] at he
    refine xG _ _ _ _ (ai (by simp;omega) ⟨_,cP ha,_,YL a cur hc (hs a (List.mem_of_getElem? ha)),?_⟩)
    by_cases hw:cur<(bH a:Int)
    ·refine ai (by simp[lX,bH] at hw ⊢;omega) (GB _ ⟨?_,by first|rfl|trivial⟩)
     rw[←he]
     unfold lX
     rw[if_pos (by omega)]
    ·have hl2:lX cur (bH a)=cur-bH a:=if_neg hw
     refine an (by simp[lX,bH] at hw ⊢;omega) ?_
     rw[aJ (by omega)]
     have:=hn (cur-bH a) (by omega) (by rw[←he];unfold lX;split<;>split<;>omega)
     rw[←hl2] at this
     exact this
  refine key (left-l.length) (by omega) ?_
  simp only[List.drop_zero]
  unfold lX
  split<;>split<;>omega
theorem Sw (n:List (List Key)) (left:Int) (h0:0≤left∧left≤1048576) (hl:n.length≤140737488355328) (hs: ∀s∈n,s.length≤140737488355328):aa C BR [fW n,vI left] (vI (lX left (aQ n))) []:=by
 refine(Nl _ _ _ ⟨_,Xn n left h0 hl hs,?_⟩).run
 show aD _ _ _
 unfold aQ
 simp only[eE,bF]
 split
 ·refine⟨?_,by first|rfl|trivial⟩
  unfold lX at*
  split<;>simp_all<;>omega
 ·simp
theorem Xo (l:List (List (List Key))) (left:Int) (h0:0≤left∧left≤1048576) (hl:l.length≤140737488355328) (hs: ∀n∈l,n.length≤140737488355328∧ ∀s∈n,s.length≤140737488355328):aa C fO [tM l,vI left] (vI (lX left (l.length+tot aQ l))) []:=by
 refine(LH _ _ _ ?_).run
 simp only[List.length_map,fZ]
 rw[dg (by omega)]
 simp only[eE,bF]
 by_cases h:left<(l.length:Int)
 ·rw[if_pos (by omega)]
  refine⟨?_,by first|rfl|trivial⟩
  unfold lX
  rw[if_pos (by omega)]
 ·rw[if_neg (by omega)]
  have key: ∀cur:Int,0≤cur∧cur≤1048576→lX cur (tot aQ (l.drop 0))=lX left (l.length+tot aQ l)→ah C fO aH 4 0 (lI (l.map aW) cur ((0:Nat):Int)) (fun x st=>aF C fO aH x st fun r fs=>r=vI (lX left (l.length+tot aQ l))∧fs=[]):=by
   refine bD l (fun i=> ∀cur:Int,0≤cur∧cur≤1048576→lX cur (tot aQ (l.drop i))=lX left (l.length+tot aQ l)→ah C fO aH 4 0 (lI (l.map aW) cur i) _) ?_ ?_
   ·intro cur hc he
    refine xI _ _ _ _ (an (by simp) (GG _ _ _ _ _ ⟨?_,by first|rfl|trivial⟩))
    rw[←he,List.drop_length]
    unfold lX tot
    rw[if_neg (by omega)]
    simp
   ·intro i a hi ha hd _ hn cur hc he
    rw[hd] at he
    simp only[tot] at he
    refine xI _ _ _ _ (ai (by simp;omega) ⟨_,cP ha,_,Sw a cur hc (hs a (List.mem_of_getElem? ha)).1 (hs a (List.mem_of_getElem? ha)).2,?_⟩)
    by_cases hw:cur<(aQ a:Int)
    ·refine ai (by simp[lX,aQ] at hw ⊢;omega) (GF _ ⟨?_,by first|rfl|trivial⟩)
     rw[←he]
     unfold lX
     rw[if_pos (by omega)]
    ·have hl2:lX cur (aQ a)=cur-aQ a:=if_neg hw
     refine an (by simp[lX,aQ] at hw ⊢;omega) ?_
     rw[aJ (by omega)]
     have:=hn (cur-aQ a) (by omega) (by rw[←he];unfold lX;split<;>split<;>omega)
     rw[←hl2] at this
     exact this
  refine key (left-l.length) (by omega) ?_
  simp only[List.drop_zero]
  unfold lX
  split<;>split<;>omega
theorem J8 {a:Int} {n m:Nat} (h: ¬lX a n<0) (h0:0≤a):lX (lX a n) m=lX a (n+m):=by unfold lX at*;split<;>split<;>split<;>simp_all<;>omega
theorem Px {a:Int} {n:Nat} (h: ¬lX a n<0) (h0:0≤a∧a≤1048576):0≤lX a n∧lX a n≤1048576:=by unfold lX at*;split<;>simp_all<;>omega
theorem J9 {a:Int} {n m:Nat} (h:lX a n<0) (h0:0≤a):lX a (n+m)= -1:=by unfold lX at*;split<;>simp_all<;>omega
structure V2 (t:Tree):Prop where
 lows:t.lows.length≤140737488355328
 nodes:t.nodes.length≤140737488355328
 node: ∀n∈t.nodes,n.length≤140737488355328∧ ∀s∈n,s.length≤140737488355328
theorem Sx (t:Tree) (left:Int) (h0:0≤left∧left≤1048576) (h:V2 t):aa C BH [dn t,vI left] (vI (lX left (c6 t))) []:=by
 refine(MB _ _ _ _ ⟨_,YK _ left h0 h.lows,?_⟩).run
 unfold c6 qw
 refine nN (fun hb=> ?_) fun hb=>⟨_,Xo _ _ (Px (by simpa using hb) h0) h.nodes h.node,?_⟩
 ·rw[J9 (by simpa using hb) h0.1];exact⟨rfl,by first|rfl|trivial⟩
 ·have hb: ¬lX left t.lows.length<0:=by simpa using hb
  rw[J8 hb h0.1]
  refine nN (fun hc=> ?_) fun hc=>⟨rfl,by first|rfl|trivial⟩
  refine⟨?_,by first|rfl|trivial⟩
  have hc:lX left (t.lows.length+(t.nodes.length+tot aQ t.nodes))<0:=by simpa using hc
  unfold lX at*
  split<;>simp_all<;>omega
theorem Uc (s:ByteArray) (a z:Int) (f:Bool) (left:Int) (h0:0≤left∧left≤1048576) (hl:s.size≤140737488355328):aa C Dy [.ag [iS s,iI a,iI z,iB f],vI left] (vI (lX left s.size)) []:=by
 refine(PL _ _ _ _ _ _ ?_).run
 simp only[FV,fZ]
 rw[dg (by omega)]
 unfold lX
 simp only[eE,bF]
 by_cases h:left<(s.size:Int)
 ·rw[if_pos (by omega),if_pos h];exact⟨rfl,by first|rfl|trivial⟩
 ·rw[if_neg (by omega),if_neg h];exact⟨rfl,by first|rfl|trivial⟩
theorem YO (l:List (Vol)) (left:Int) (h0:0≤left∧left≤1048576) (hl:l.length≤140737488355328) (hs: ∀v∈l,v.name.size≤140737488355328):aa C gM [yK l,vI left] (vI (lX left (l.length+tot oW l))) []:=by
 refine(Nr _ _ _ ?_).run
 simp only[List.length_map,fZ]
 rw[dg (by omega)]
 simp only[eE,bF]
 by_cases h:left<(l.length:Int)
 ·rw[if_pos (by omega)]
  refine⟨?_,by first|rfl|trivial⟩
  unfold lX
  rw[if_pos (by omega)]
 ·rw[if_neg (by omega)]
  have key: ∀cur:Int,0≤cur∧cur≤1048576→lX cur (tot oW (l.drop 0))=lX left (l.length+tot oW l)→ah C gM aH 4 0 (mJ (l.map dx) cur ((0:Nat):Int)) (fun x st=>aF C gM aH x st fun r fs=>r=vI (lX left (l.length+tot oW l))∧fs=[]):=by
   refine bD l (fun i=> ∀cur:Int,0≤cur∧cur≤1048576→lX cur (tot oW (l.drop i))=lX left (l.length+tot oW l)→ah C gM aH 4 0 (mJ (l.map dx) cur i) _) ?_ ?_
   ·intro cur hc he
    refine AE _ _ _ _ (an (by simp) (Jr _ _ _ _ _ ⟨?_,by first|rfl|trivial⟩))
    rw[←he,List.drop_length]
    unfold lX tot
    rw[if_neg (by omega)]
    simp
   ·intro i a hi ha hd _ hn cur hc he
    rw[hd] at he
    simp only[tot] at he
    refine AE _ _ _ _ (ai (by simp;omega) ⟨_,_,_,_,cP ha,_,Uc _ _ _ _ cur hc (hs a (List.mem_of_getElem? ha)),?_⟩)
    by_cases hw:cur<(oW a:Int)
    ·refine ai (by simp[lX,oW] at hw ⊢;omega) (Jq _ ⟨?_,by first|rfl|trivial⟩)
     rw[←he]
     unfold lX
     rw[if_pos (by omega)]
    ·have hl2:lX cur (oW a)=cur-oW a:=if_neg hw
     refine an (by simp[lX,oW] at hw ⊢;omega) ?_
     rw[aJ (by omega)]
     have:=hn (cur-oW a) (by omega) (by rw[←he];unfold lX;split<;>split<;>omega)
     rw[←hl2] at this
     exact this
  refine key (left-l.length) (by omega) ?_
  simp only[List.drop_zero]
  unfold lX
  split<;>split<;>omega
structure Tp (p:Pool):Prop where
 t:V2 p.t
 ages:p.ages.length≤140737488355328
 cells:p.cells.length≤140737488355328
 vols:p.vols.length≤140737488355328
 vol: ∀v∈p.vols,v.name.size≤140737488355328
 siz: ∀v∈p.vols,v.size≤9223372036854775807
theorem Sy (p:Pool) (left:Int) (h0:0≤left∧left≤1048576) (h:Tp p):aa C BG [fX p,vI left] (vI (lX left (cq p))) []:=by
 refine(Np _ _ _ _ _ _ _ _ ⟨_,Sx p.t left h0 h.t,?_⟩).run
 unfold cq Ds
 refine nN (fun hb=> ?_) fun hb=>⟨_,YM _ _ (Px (by simpa using hb) h0) h.ages,?_⟩
 ·rw[Nat.add_assoc,Nat.add_assoc,J9 (by simpa using hb) h0.1];exact⟨rfl,by first|rfl|trivial⟩
 rw[J8 (by simpa using hb) h0.1]
 refine nN (fun hb=> ?_) fun hb=>⟨_,Xm _ _ (Px (by simpa using hb) h0) h.cells,?_⟩
 ·rw[Nat.add_assoc,J9 (by simpa using hb) h0.1];exact⟨rfl,by first|rfl|trivial⟩
 rw[J8 (by simpa using hb) h0.1]
 refine nN (fun hb=> ?_) fun hb=>⟨_,YO _ _ (Px (by simpa using hb) h0) h.vols h.vol,?_⟩
 ·rw[J9 (by simpa using hb) h0.1];exact⟨rfl,by first|rfl|trivial⟩
 rw[J8 (by simpa using hb) h0.1]
 refine nN (fun hc=> ?_) fun hc=>⟨rfl,by first|rfl|trivial⟩
 refine⟨?_,by first|rfl|trivial⟩
 have hc:lX left (c6 p.t+p.ages.length+p.cells.length+(p.vols.length+tot oW p.vols))<0:=by simpa using hc
 unfold lX at*
 split<;>simp_all<;>omega
theorem qb (a b c:Int):aa C cG [vI a,vI b,vI c] (vB (iK a b c)) []:=by
 refine(Nu _ _ _ _ ?_).run
 simp only[fm,bF,iK]
 split<;>simp_all<;>omega
theorem tQ (a b c:Int):aa C eo [vI a,vI b,vI c] (vB (iK a b c)) []:=by
 refine(Rt _ _ _ _ ?_).run
 simp only[fm,bF,iK]
 split<;>simp_all<;>omega
@[simp] theorem rQ (a b c:Int) (q:Bool):aa C cG [vI a,vI b,vI c] (vB q) []↔q=iK a b c:=q8 (qb a b c)
@[simp] theorem BV (a b c:Int) (q:Bool):aa C eo [vI a,vI b,vI c] (vB q) []↔q=iK a b c:=q8 (tQ a b c)
theorem Lc (b a k c g:Int):aa C tP [.ag [iI b,iI a,iI k,iI c,iI g]] (vB (gx ⟨b,a,k,c,g⟩)) []:=by
 refine(PW _ _ _ _ _ _ ?_).run
 simp only[rQ,exists_eq_left,gx,aP,bJ,bF]
 cases iK b 0 15<;>cases iK a 1 60<;>cases iK k 0 2<;>by_cases h:k=1<;>by_cases h1:c=0<;>by_cases h2:g=0<;>cases iK c 0 23<;>simp_all
theorem Ld (b a k c g:Int):aa C tO [.ag [iI b,iI a,iI k,iI c,iI g]] (vB (gx ⟨b,a,k,c,g⟩)) []:=by
 refine(PE _ _ _ _ _ _ ?_).run
 simp only[BV,exists_eq_left,gx,aP,bJ,bF]
 cases iK b 0 15<;>cases iK a 1 60<;>cases iK k 0 2<;>by_cases h:k=1<;>by_cases h1:c=0<;>by_cases h2:g=0<;>cases iK c 0 23<;>simp_all
@[simp] theorem ET (b a k c g:Int) (q:Bool):aa C tP [.ag [iI b,iI a,iI k,iI c,iI g]] (vB q) []↔q=gx ⟨b,a,k,c,g⟩:=q8 (Lc b a k c g)
@[simp] theorem EU (b a k c g:Int) (q:Bool):aa C tO [.ag [iI b,iI a,iI k,iI c,iI g]] (vB q) []↔q=gx ⟨b,a,k,c,g⟩:=q8 (Ld b a k c g)
@[simp] theorem BW (b a k c g b' a' k' c' g':Int) (q:Bool):aa C sW [.ag [iI b,iI a,iI k,iI c,iI g],.ag [iI b',iI a',iI k',iI c',iI g']] (vB q) []↔q=dK ⟨b,a,k,c,g⟩ ⟨b',a',k',c',g'⟩:=q8 (by
  refine(LN _ _ _ _ _ _ _ _ _ _ _ ?_).run
  simp only[eE,aP,bF,dK]
  by_cases h1:b<b'<;>by_cases h2:b=b'<;>simp_all)
@[simp] theorem BX (b a k c g b' a' k' c' g':Int) (q:Bool):aa C sU [.ag [iI b,iI a,iI k,iI c,iI g],.ag [iI b',iI a',iI k',iI c',iI g']] (vB q) []↔q=dK ⟨b,a,k,c,g⟩ ⟨b',a',k',c',g'⟩:=q8 (by
  refine(Lx _ _ _ _ _ _ _ _ _ _ _ ?_).run
  simp only[eE,aP,bJ,bF,dK]
  by_cases h2:b=b'<;>simp_all)
@[simp] theorem HI (b a k c g b' a' k' c' g':Int) (q:Bool):aa C oZ [.ag [iI b,iI a,iI k,iI c,iI g],.ag [iI b',iI a',iI k',iI c',iI g']] (vB q) []↔q=lE ⟨b,a,k,c,g⟩ ⟨b',a',k',c',g'⟩:=q8 (by
  refine(Jo _ _ _ _ _ _ _ _ _ _ _ ?_).run
  simp only[eE,aP,bJ,bF,lE]
  by_cases h2:b=b'<;>simp_all)
@[simp] theorem HJ (b a k c g b' a' k' c' g':Int) (q:Bool):aa C oY [.ag [iI b,iI a,iI k,iI c,iI g],.ag [iI b',iI a',iI k',iI c',iI g']] (vB q) []↔q=lE ⟨b,a,k,c,g⟩ ⟨b',a',k',c',g'⟩:=q8 (by
  refine(I1 _ _ _ _ _ _ _ _ _ _ _ ?_).run
  simp only[eE,aP,bJ,bF,lE]
  by_cases h2:b=b'<;>simp_all)
theorem mA (l:List Key) (x:Key) (hl:l.length≤1073741824):aa C bg [cO l,AY x] (cO (fe l x)) []:=by
 refine(M0 _ _ _ _ _ _ _ ?_).run
 have key: ∀(put:Bool) (acc:List Key),acc.length+(l.drop 0).length≤l.length+(if put then 1 else 0)→acc++e9 x put (l.drop 0)=fe l x→ah C bg aH 4 0 (e7 (l.map bN) put ((0:Nat):Int) x.b x.a x.k x.c x.g (acc.map bN)) (fun u st=>aF C bg aH u st fun r fs=>r=cO (fe l x)∧fs=[]):=by
  refine bD l (fun i=> ∀(put:Bool) (acc:List Key),acc.length+(l.drop i).length≤l.length+(if put then 1 else 0)→acc++e9 x put (l.drop i)=fe l x→ah C bg aH 4 0 (e7 (l.map bN) put i x.b x.a x.k x.c x.g (acc.map bN)) _) ?_ ?_
  ·intro put acc hb he
   refine Am _ _ _ _ _ _ _ _ _ _ (an (by simp) (IY _ _ _ _ _ _ _ _ _ _ _ ?_))
   simp only[uT,dh,lZ,Bool.true_and,bJ,cu,List.length_map]
   have hb2:acc.length≤l.length+1:=by simp at hb;split at hb<;>omega
   rw[cY (by omega)]
   rw[List.drop_length] at he
   cases put<;>simp[e9] at he ⊢ <;>rw[←he]<;>simp
  ·intro i a hi ha hd _ hn put acc hb he
   rw[hd] at hb he
   simp only[List.length_cons] at hb
   have hb':acc.length+(List.drop (i+1) l).length+1≤l.length+1:=by split at hb<;>omega
   refine Am _ _ _ _ _ _ _ _ _ _ (ai (by simp;omega) ?_)
   simp only[jS,aL,ha,Option.some.injEq,exists_eq_left',BX,HJ,exists_eq_left,bJ,dh,uT,lZ,Bool.true_and,cu,List.length_map,List.length_append,List.length_singleton]
   simp (disch:=omega) only[cY,aJ,lC]
   simp only[e9] at he
   cases put<;>cases hk:dK a x<;>cases hs:lE a x<;>simp only[lC,mw]<;>simp[hk,hs] at he hb<;>exact hn _ _ (by simp at hb ⊢;omega) (by simpa using he)
 exact key false [] (by simp) rfl
@[simp] theorem Mo (l:List Key) (hl:l.length≤1073741824) (b a k c g:Int) (q:RR):aa C bg [.c (.sub 5 (l.map bN)),.ag [iI b,iI a,iI k,iI c,iI g]] (.c (.sub 5 q)) []↔q=(fe l ⟨b,a,k,c,g⟩).map bN:=QZ (mA l ⟨b,a,k,c,g⟩ hl)
theorem pz (l:List Key) (x:Key) (hl:l.length≤1073741824):aa C cH [cO l,AY x] (cO (fe l x)) []:=by
 refine(NI _ _ _ _ _ _ _ ?_).run
 have key: ∀(put:Bool) (acc:List Key),acc.length+(l.drop 0).length≤l.length+(if put then 1 else 0)→acc++e9 x put (l.drop 0)=fe l x→ah C cH aH 4 0 (e8 put (l.map bN) ((0:Nat):Int) x.b x.a x.k x.c x.g (acc.map bN)) (fun u st=>aF C cH aH u st fun r fs=>r=cO (fe l x)∧fs=[]):=by
  refine bD l (fun i=> ∀(put:Bool) (acc:List Key),acc.length+(l.drop i).length≤l.length+(if put then 1 else 0)→acc++e9 x put (l.drop i)=fe l x→ah C cH aH 4 0 (e8 put (l.map bN) i x.b x.a x.k x.c x.g (acc.map bN)) _) ?_ ?_
  ·intro put acc hb he
   refine AT _ _ _ _ _ _ _ _ _ _ (an (by simp) (JP _ _ _ _ _ _ _ _ _ _ _ _ ?_))
   simp only[uT,dh,lZ,Bool.true_and,bJ,cu,List.length_map]
   have hb2:acc.length≤l.length+1:=by simp at hb;split at hb<;>omega
   rw[cY (by omega)]
   rw[List.drop_length] at he
   cases put<;>simp[e9] at he ⊢ <;>rw[←he]<;>simp
  ·intro i a hi ha hd _ hn put acc hb he
   rw[hd] at hb he
   simp only[List.length_cons] at hb
   have hb':acc.length+(List.drop (i+1) l).length+1≤l.length+1:=by split at hb<;>omega
   refine AT _ _ _ _ _ _ _ _ _ _ (ai (by simp;omega) ?_)
   simp only[jS,aL,ha,Option.some.injEq,exists_eq_left',BW,HI,exists_eq_left,bJ,dh,uT,lZ,Bool.true_and,cu,List.length_map,List.length_append,List.length_singleton]
   simp (disch:=omega) only[cY,aJ,lC]
   simp only[e9] at he
   cases put<;>cases hk:dK a x<;>cases hs:lE a x<;>simp only[lC,mw]<;>simp[hk,hs] at he hb<;>exact hn _ _ (by simp at hb ⊢;omega) (by simpa using he)
 exact key false [] (by simp) rfl
@[simp] theorem Mq (l:List Key) (hl:l.length≤1073741824) (b a k c g:Int) (q:RR):aa C cH [.c (.sub 5 (l.map bN)),.ag [iI b,iI a,iI k,iI c,iI g]] (.c (.sub 5 q)) []↔q=(fe l ⟨b,a,k,c,g⟩).map bN:=QZ (pz l ⟨b,a,k,c,g⟩ hl)
theorem DG (old new:List Key) (hl:old.length+new.length≤1073741824):aa C dV [cO old,cO new] (cO (cJ old new)) []:=by
 refine(GX _ _ _ ?_).run
 rw[jV,cY (by simp;omega)]
 refine ai rfl ?_
 have key: ∀(acc:List Key),acc.length+(new.drop 0).length≤old.length+new.length→cJ acc (new.drop 0)=cJ old new→ah C dV aj 4 0 (jN (new.map bN) ((0:Nat):Int) (acc.map bN)) (fun u st=>aF C dV aj u st fun r fs=>r=(cO (cJ old new))∧fs=[]):=by
  refine bD new (fun i=> ∀(acc:List Key),acc.length+(new.drop i).length≤old.length+new.length→cJ acc (new.drop i)=cJ old new→ah C dV aj 4 0 (jN (new.map bN) i (acc.map bN)) (fun u st=>aF C dV aj u st fun r fs=>r=(cO (cJ old new))∧fs=[])) ?_ ?_
  ·intro acc h0 h1
   refine uz _ _ _ _ (an (by simp) (D5 _ _ _ _ _ ?_))
   rw[List.drop_length] at h1
   rw[←h1]
   exact⟨rfl,by first|rfl|trivial⟩
  ·intro i a hi ha hd ht hn acc h0 h1
   refine uz _ _ _ _ (ai (by simp;omega) ?_)
   rw[hd] at h0 h1
   simp only[List.length_cons] at h0
   simp only[jS,Mo acc (by omega),aL,ha,Option.some.injEq,exists_eq_left',exists_eq_left,bJ,dX,fD,dh,dZ,c8,ee,ef,fE,cu,natAdd,List.length_map,List.length_append,List.length_singleton,Bool.true_and,Bool.and_true]
   rw[aJ (by omega)]
   have h2:=nQ acc a
   exact hn _ (by omega) (by rw[←h1];rfl)
 exact key old (by simp) rfl
theorem FY (old new:List Key) (hl:old.length+new.length≤1073741824) (q:RR):aa C dV [cO old,cO new] (.c (.sub 5 q)) []↔q=(cJ old new).map bN:=QZ (DG old new hl)
theorem wD (l:List Key) (hl:l.length≤1073741824):aa C bV [cO l] (cO (m7 l)) []:=by
 refine(Rs _ _ ?_).run
 have key: ∀(acc:List Key),acc.length+(l.drop 0).length≤l.length→acc++m7 (l.drop 0)=m7 l→ah C bV aj 4 0 (mV (l.map bN) ((0:Nat):Int) (acc.map bN)) (fun u st=>aF C bV aj u st fun r fs=>r=(cO (m7 l))∧fs=[]):=by
  refine bD l (fun i=> ∀(acc:List Key),acc.length+(l.drop i).length≤l.length→acc++m7 (l.drop i)=m7 l→ah C bV aj 4 0 (mV (l.map bN) i (acc.map bN)) (fun u st=>aF C bV aj u st fun r fs=>r=(cO (m7 l))∧fs=[])) ?_ ?_
  ·intro acc h0 h1
   refine C9 _ _ _ _ (an (by simp) (MJ _ _ _ _ _ ?_))
   rw[List.drop_length] at h1
   simp[m7] at h1
   simp[m7,h1]
  ·intro i a hi ha hd ht hn acc h0 h1
   refine C9 _ _ _ _ (ai (by simp;omega) ?_)
   rw[hd] at h0 h1
   simp only[List.length_cons] at h0
   simp only[jS,uT,lZ,aP,bF,aL,ha,Option.some.injEq,exists_eq_left',exists_eq_left,bJ,dX,fD,dh,dZ,c8,ee,ef,fE,cu,natAdd,List.length_map,List.length_append,List.length_singleton,Bool.true_and,Bool.and_true]
   simp (disch:=omega) only[cY,aJ,lC]
   by_cases hk:a.k=0
   ·rw[if_pos hk]
    exact hn _ (by omega) (by rw[←h1];simp[m7,hk])
   ·rw[if_neg hk]
    exact hn (acc++[a]) (by simp only[List.length_append,List.length_singleton];omega) (by rw[←h1];simp[m7,hk])
 exact key [] (by simp) rfl
theorem u6 (n:List (List Key)) (hb:n.length≤1073741824) (hl:tot bH n≤1073741824):aa C aI [fW n] (cO (aR n)) []:=by
 refine(Jg _ _ ?_).run
 have key: ∀(acc:List Key),acc.length+tot bH (n.drop 0)≤tot bH n→(n.drop 0).foldl cJ acc=tj n→ah C aI aj 4 0 (kR ((0:Nat):Int) (n.map cc) (acc.map bN)) (fun u st=>aF C aI aj u st fun r fs=>r=(cO (aR n))∧fs=[]):=by
  refine bD n (fun i=> ∀(acc:List Key),acc.length+tot bH (n.drop i)≤tot bH n→(n.drop i).foldl cJ acc=tj n→ah C aI aj 4 0 (kR i (n.map cc) (acc.map bN)) (fun u st=>aF C aI aj u st fun r fs=>r=(cO (aR n))∧fs=[])) ?_ ?_
  ·intro acc h0 h1
   refine vV _ _ _ _ (an (by simp) (Fj _ _ _ _ _ ?_))
   rw[List.drop_length] at h0 h1
   simp only[List.foldl_nil] at h1
   refine⟨_,wD acc (by omega),?_⟩
   rw[h1]
   exact⟨rfl,by first|rfl|trivial⟩
  ·intro i a hi ha hd ht hn acc h0 h1
   refine vV _ _ _ _ (ai (by simp;omega) ?_)
   rw[hd] at h0 h1
   simp only[tot,bH] at h0
   simp only[q7,FY acc a (by omega),aL,ha,Option.some.injEq,exists_eq_left',exists_eq_left,bJ,dX,fD,dh,dZ,c8,ee,ef,fE,cu,natAdd,List.length_map,List.length_append,List.length_singleton,Bool.true_and,Bool.and_true]
   rw[aJ (by omega)]
   have h2:=rB a acc
   exact hn _ (by omega) (by rw[←h1];rfl)
 exact key [] (by simp) rfl
theorem eA (n:List (List Key)) (hb:n.length≤1073741824) (hl:tot bH n≤1073741824) (q:RR):aa C aI [.ag [.sub 1 (n.map cc)]] (.c (.sub 5 q)) []↔q=(aR n).map bN:=QZ (u6 n hb hl)
theorem qB (t:Tree) (hl:c6 t≤1073741824):aa C eg [dn t] (cO (bu t)) []:=by
 refine(Jc _ _ _ ?_).run
 have key: ∀(acc:List Key),acc.length+tot aQ (t.nodes.drop 0)≤tot aQ t.nodes→acc++(t.nodes.drop 0).flatMap aR=bu t→ah C eg aj 4 0 (kQ ((0:Nat):Int) (t.lows.map bL) (t.nodes.map aW) (acc.map bN)) (fun u st=>aF C eg aj u st fun r fs=>r=(cO (bu t))∧fs=[]):=by
  refine bD t.nodes (fun i=> ∀(acc:List Key),acc.length+tot aQ (t.nodes.drop i)≤tot aQ t.nodes→acc++(t.nodes.drop i).flatMap aR=bu t→ah C eg aj 4 0 (kQ i (t.lows.map bL) (t.nodes.map aW) (acc.map bN)) (fun u st=>aF C eg aj u st fun r fs=>r=(cO (bu t))∧fs=[])) ?_ ?_
  ·intro acc h0 h1
   refine vU _ _ _ _ _ (an (by simp) (Fi _ _ _ _ _ _ ?_))
   rw[List.drop_length] at h1
   simp at h1
   simp[h1]
  ·intro i a hi ha hd ht hn acc h0 h1
   refine vU _ _ _ _ _ (ai (by have:=hi;unfold c6 qw at hl;simp;omega) ?_)
   have hz:a.length+tot bH a≤tot aQ t.nodes:=kk (w:=aQ) ha
   rw[hd] at h0 h1
   simp only[tot,aQ] at h0
   unfold c6 qw at hl
   have h2:=cV a
   simp only[Tk,qv,eA a (by omega) (by omega),jV,aL,ha,Option.some.injEq,exists_eq_left',exists_eq_left,bJ,dX,fD,dh,dZ,c8,ee,ef,fE,cu,natAdd,List.length_map,List.length_append,List.length_singleton,Bool.true_and,Bool.and_true]
   rw[cY (by omega),aJ (by omega)]
   refine ai rfl ?_
   rw[←List.map_append]
   exact hn _ (by simp;omega) (by rw[←h1];simp)
 exact key [] (by simp) rfl
theorem HK (t:Tree) (b:Int) (hl:c6 t≤1073741824):aa C gr [dn t,vI b] (cO (fo t b)) []:=by
 refine(NK _ _ _ _ ?_).run
 refine⟨_,qB t hl,?_⟩
 have key: ∀(acc:List Key),acc.length+((bu t).drop 0).length≤(bu t).length→acc++((bu t).drop 0).filter (fun k=>decide (k.b=b))=fo t b→ah C gr aH 4 0 (j8 b ((0:Nat):Int) (acc.map bN) ((bu t).map bN)) (fun u st=>aF C gr aH u st fun r fs=>r=(cO (fo t b))∧fs=[]):=by
  refine bD (bu t) (fun i=> ∀(acc:List Key),acc.length+((bu t).drop i).length≤(bu t).length→acc++((bu t).drop i).filter (fun k=>decide (k.b=b))=fo t b→ah C gr aH 4 0 (j8 b i (acc.map bN) ((bu t).map bN)) (fun u st=>aF C gr aH u st fun r fs=>r=(cO (fo t b))∧fs=[])) ?_ ?_
  ·intro acc h0 h1
   refine AV _ _ _ _ _ (an (by simp) (JS _ _ _ _ _ _ ?_))
   rw[List.drop_length] at h1
   simp at h1
   simp[h1]
  ·intro i a hi ha hd ht hn acc h0 h1
   refine AV _ _ _ _ _ (ai (by simp;omega) ?_)
   rw[hd] at h0 h1
   simp only[List.length_cons] at h0
   have hz:=ko t
   simp only[jS,uT,lZ,aP,bF,aL,ha,Option.some.injEq,exists_eq_left',exists_eq_left,bJ,dX,fD,dh,dZ,c8,ee,ef,fE,cu,natAdd,List.length_map,List.length_append,List.length_singleton,Bool.true_and,Bool.and_true]
   simp (disch:=omega) only[cY,aJ,lC]
   by_cases hk:a.b=b
   ·rw[if_pos hk]
    exact hn (acc++[a]) (by simp only[List.length_append,List.length_singleton];omega) (by rw[←h1];simp[hk])
   ·rw[if_neg hk]
    exact hn _ (by omega) (by rw[←h1];simp[hk])
 exact key [] (by simp) rfl
theorem m8 (l:List Key) (hl:l.length≤2147483648):aa C mU [cO l] (cO l) []:=by
 refine(IC _ _ ?_).run
 rw[jV,cY (by simp;omega)]
 exact⟨rfl,by first|rfl|trivial⟩
theorem DH (old new:List Key) (hl:old.length+new.length≤1073741824):aa C dW [cO old,cO new] (cO (cJ old new)) []:=by
 refine(GA _ _ _ ?_).run
 refine⟨_,m8 old (by omega),?_⟩
 have key: ∀(acc:List Key),acc.length+(new.drop 0).length≤old.length+new.length→cJ acc (new.drop 0)=cJ old new→ah C dW aj 4 0 (jM (new.map bN) ((0:Nat):Int) (acc.map bN)) (fun u st=>aF C dW aj u st fun r fs=>r=(cO (cJ old new))∧fs=[]):=by
  refine bD new (fun i=> ∀(acc:List Key),acc.length+(new.drop i).length≤old.length+new.length→cJ acc (new.drop i)=cJ old new→ah C dW aj 4 0 (jM (new.map bN) i (acc.map bN)) (fun u st=>aF C dW aj u st fun r fs=>r=(cO (cJ old new))∧fs=[])) ?_ ?_
  ·intro acc h0 h1
   refine uu _ _ _ _ (an (by simp) (D0 _ _ _ _ _ _ ?_))
   rw[List.drop_length] at h1
   rw[←h1]
   exact⟨rfl,by first|rfl|trivial⟩
  ·intro i a hi ha hd ht hn acc h0 h1
   refine uu _ _ _ _ (ai (by simp;omega) ?_)
   rw[hd] at h0 h1
   simp only[List.length_cons] at h0
   simp only[jS,Mq acc (by omega),aL,ha,Option.some.injEq,exists_eq_left',exists_eq_left,bJ,dX,fD,dh,dZ,c8,ee,ef,fE,cu,natAdd,List.length_map,List.length_append,List.length_singleton,Bool.true_and,Bool.and_true]
   rw[aJ (by omega)]
   have h2:=nQ acc a
   exact hn _ (by omega) (by rw[←h1];rfl)
 exact key old (by simp) rfl
theorem FZ (old new:List Key) (hl:old.length+new.length≤1073741824) (q:RR):aa C dW [cO old,cO new] (.c (.sub 5 q)) []↔q=(cJ old new).map bN:=QZ (DH old new hl)
theorem C1 (l:List Key) (hl:l.length≤1073741824):aa C iU [cO l] (cO (m7 l)) []:=by
 refine(Ru _ _ ?_).run
 have key: ∀(acc:List Key),acc.length+(l.drop 0).length≤l.length→acc++m7 (l.drop 0)=m7 l→ah C iU aj 4 0 (mW (l.map bN) ((0:Nat):Int) (acc.map bN)) (fun u st=>aF C iU aj u st fun r fs=>r=(cO (m7 l))∧fs=[]):=by
  refine bD l (fun i=> ∀(acc:List Key),acc.length+(l.drop i).length≤l.length→acc++m7 (l.drop i)=m7 l→ah C iU aj 4 0 (mW (l.map bN) i (acc.map bN)) (fun u st=>aF C iU aj u st fun r fs=>r=(cO (m7 l))∧fs=[])) ?_ ?_
  ·intro acc h0 h1
   refine Da _ _ _ _ (an (by simp) (M9 _ _ _ _ _ _ ?_))
   rw[List.drop_length] at h1
   simp[m7] at h1
   simp[m7,h1]
  ·intro i a hi ha hd ht hn acc h0 h1
   refine Da _ _ _ _ (ai (by simp;omega) ?_)
   rw[hd] at h0 h1
   simp only[List.length_cons] at h0
   simp only[jS,uT,lZ,aP,bF,aL,ha,Option.some.injEq,exists_eq_left',exists_eq_left,bJ,dX,fD,dh,dZ,c8,ee,ef,fE,cu,natAdd,List.length_map,List.length_append,List.length_singleton,Bool.true_and,Bool.and_true]
   simp (disch:=omega) only[cY,aJ,lC]
   by_cases hk:a.k=0
   ·rw[if_pos hk]
    exact hn _ (by omega) (by rw[←h1];simp[m7,hk])
   ·rw[if_neg hk]
    exact hn (acc++[a]) (by simp only[List.length_append,List.length_singleton];omega) (by rw[←h1];simp[m7,hk])
 exact key [] (by simp) rfl
theorem EV (n:List (List Key)) (hb:n.length≤1073741824) (hl:tot bH n≤1073741824):aa C cn [fW n] (cO (aR n)) []:=by
 refine(Jh _ _ ?_).run
 have key: ∀(acc:List Key),acc.length+tot bH (n.drop 0)≤tot bH n→(n.drop 0).foldl cJ acc=tj n→ah C cn aj 4 0 (kT (n.map cc) ((0:Nat):Int) (acc.map bN)) (fun u st=>aF C cn aj u st fun r fs=>r=(cO (aR n))∧fs=[]):=by
  refine bD n (fun i=> ∀(acc:List Key),acc.length+tot bH (n.drop i)≤tot bH n→(n.drop i).foldl cJ acc=tj n→ah C cn aj 4 0 (kT (n.map cc) i (acc.map bN)) (fun u st=>aF C cn aj u st fun r fs=>r=(cO (aR n))∧fs=[])) ?_ ?_
  ·intro acc h0 h1
   refine vW _ _ _ _ (an (by simp) (Fk _ _ _ _ _ _ ?_))
   rw[List.drop_length] at h0 h1
   simp only[List.foldl_nil] at h1
   refine⟨_,C1 acc (by omega),?_⟩
   rw[h1]
   exact⟨rfl,by first|rfl|trivial⟩
  ·intro i a hi ha hd ht hn acc h0 h1
   refine vW _ _ _ _ (ai (by simp;omega) ?_)
   rw[hd] at h0 h1
   simp only[tot,bH] at h0
   simp only[q7,FZ acc a (by omega),aL,ha,Option.some.injEq,exists_eq_left',exists_eq_left,bJ,dX,fD,dh,dZ,c8,ee,ef,fE,cu,natAdd,List.length_map,List.length_append,List.length_singleton,Bool.true_and,Bool.and_true]
   rw[aJ (by omega)]
   have h2:=rB a acc
   exact hn _ (by omega) (by rw[←h1];rfl)
 exact key [] (by simp) rfl
theorem je (n:List (List Key)) (hb:n.length≤1073741824) (hl:tot bH n≤1073741824) (q:RR):aa C cn [.ag [.sub 1 (n.map cc)]] (.c (.sub 5 q)) []↔q=(aR n).map bN:=QZ (EV n hb hl)
theorem u7 (t:Tree) (hl:c6 t≤1073741824):aa C eC [dn t] (cO (bu t)) []:=by
 refine(IQ _ _ _ ?_).run
 have key: ∀(acc:List Key),acc.length+tot aQ (t.nodes.drop 0)≤tot aQ t.nodes→acc++(t.nodes.drop 0).flatMap aR=bu t→ah C eC aj 4 0 (kO (t.nodes.map aW) ((0:Nat):Int) (acc.map bN)) (fun u st=>aF C eC aj u st fun r fs=>r=(cO (bu t))∧fs=[]):=by
  refine bD t.nodes (fun i=> ∀(acc:List Key),acc.length+tot aQ (t.nodes.drop i)≤tot aQ t.nodes→acc++(t.nodes.drop i).flatMap aR=bu t→ah C eC aj 4 0 (kO (t.nodes.map aW) i (acc.map bN)) (fun u st=>aF C eC aj u st fun r fs=>r=(cO (bu t))∧fs=[])) ?_ ?_
  ·intro acc h0 h1
   refine vN _ _ _ _ (an (by simp) (E9 _ _ _ _ _ _ ?_))
   rw[List.drop_length] at h1
   simp at h1
   simp[h1]
  ·intro i a hi ha hd ht hn acc h0 h1
   refine vN _ _ _ _ (ai (by have:=hi;unfold c6 qw at hl;simp;omega) ?_)
   have hz:a.length+tot bH a≤tot aQ t.nodes:=kk (w:=aQ) ha
   rw[hd] at h0 h1
   simp only[tot,aQ] at h0
   unfold c6 qw at hl
   have h2:=cV a
   simp only[Tk,qv,je a (by omega) (by omega),jV,aL,ha,Option.some.injEq,exists_eq_left',exists_eq_left,bJ,dX,fD,dh,dZ,c8,ee,ef,fE,cu,natAdd,List.length_map,List.length_append,List.length_singleton,Bool.true_and,Bool.and_true]
   rw[cY (by omega),aJ (by omega)]
   refine ai rfl ?_
   rw[←List.map_append]
   exact hn _ (by simp;omega) (by rw[←h1];simp)
 exact key [] (by simp) rfl
theorem HL (t:Tree) (b:Int) (hl:c6 t≤1073741824):aa C gu [dn t,vI b] (cO (fo t b)) []:=by
 refine(Nc _ _ _ _ ?_).run
 refine⟨_,u7 t hl,?_⟩
 have key: ∀(acc:List Key),acc.length+((bu t).drop 0).length≤(bu t).length→acc++((bu t).drop 0).filter (fun k=>decide (k.b=b))=fo t b→ah C gu aj 4 0 (jY b ((bu t).map bN) ((0:Nat):Int) (acc.map bN)) (fun u st=>aF C gu aj u st fun r fs=>r=(cO (fo t b))∧fs=[]):=by
  refine bD (bu t) (fun i=> ∀(acc:List Key),acc.length+((bu t).drop i).length≤(bu t).length→acc++((bu t).drop i).filter (fun k=>decide (k.b=b))=fo t b→ah C gu aj 4 0 (jY b ((bu t).map bN) i (acc.map bN)) (fun u st=>aF C gu aj u st fun r fs=>r=(cO (fo t b))∧fs=[])) ?_ ?_
  ·intro acc h0 h1
   refine At _ _ _ _ _ (an (by simp) (I6 _ _ _ _ _ _ _ ?_))
   rw[List.drop_length] at h1
   simp at h1
   simp[h1]
  ·intro i a hi ha hd ht hn acc h0 h1
   refine At _ _ _ _ _ (ai (by simp;omega) ?_)
   rw[hd] at h0 h1
   simp only[List.length_cons] at h0
   have hz:=ko t
   simp only[jS,uT,lZ,aP,bF,aL,ha,Option.some.injEq,exists_eq_left',exists_eq_left,bJ,dX,fD,dh,dZ,c8,ee,ef,fE,cu,natAdd,List.length_map,List.length_append,List.length_singleton,Bool.true_and,Bool.and_true]
   simp (disch:=omega) only[cY,aJ,lC]
   by_cases hk:a.b=b
   ·rw[if_pos hk]
    exact hn (acc++[a]) (by simp only[List.length_append,List.length_singleton];omega) (by rw[←h1];simp[hk])
   ·rw[if_neg hk]
    exact hn _ (by omega) (by rw[←h1];simp[hk])
 exact key [] (by simp) rfl
theorem tT (l:List Age) (id:Int) (hl:l.length≤1073741824):aa C dJ [jo l,vI id] (vI (g6 l id)) []:=by
 refine(PF _ _ _ ?_).run
 have key:gJ (fun a:Age=>decide (a.id=id)) (l.drop 0) ((0:Nat):Int)=gJ (fun a:Age=>decide (a.id=id)) l 0→ah C dJ ak 4 0 (nR (l.map dM) id ((0:Nat):Int)) (fun u st=>aF C dJ ak u st fun r fs=>r=vI (g6 l id)∧fs=[]):=by
  refine bD l (fun i=>gJ (fun a:Age=>decide (a.id=id)) (l.drop i) (i:Int)=gJ (fun a:Age=>decide (a.id=id)) l 0→ah C dJ ak 4 0 (nR (l.map dM) id i) _) ?_ ?_
  ·intro h0
   refine Cj _ _ _ _ (an (by simp) (Lw _ _ _ _ _ ?_))
   rw[List.drop_length] at h0
   simp only[gJ] at h0
   change _=vI (gJ (fun a:Age=>decide (a.id=id)) l 0)∧_
   rw[←h0]
   exact⟨rfl,by first|rfl|trivial⟩
  ·intro i a hi ha hd htk hn h0
   refine Cj _ _ _ _ (ai (by simp;omega) ?_)
   rw[hd] at h0
   simp only[gJ] at h0
   simp only[rZ,aP,bF,aL,ha,Option.some.injEq,exists_eq_left',exists_eq_left,bJ,dX,fD,dh,dZ,c8,ee,ef,fE,cu,natAdd,List.length_map,List.length_append,List.length_singleton,Bool.true_and,Bool.and_true]
   rw[aJ (by omega)]
   split at h0
   ·rename_i hp
    have hp:=of_decide_eq_true hp
    first|rw[if_pos hp]|rw[if_pos hp.symm]
    refine Lv _ _ ?_
    rw[h0]
    exact⟨rfl,by first|rfl|trivial⟩
   ·rename_i hp
    have hp: ¬_:=fun h=>hp (decide_eq_true h)
    first|rw[if_neg hp]|rw[if_neg (fun h=>hp h.symm)]
    exact hn h0
 exact key rfl
@[simp] theorem Le (a b id:Int) (q:Bool):aa C sV [.ag [iI a,iI b],.bx [iI id]] (vB q) []↔q=decide (a=id):=q8 (by
  refine(L4 _ _ _ _ ?_).run
  simp)
theorem Mr (l:List Age) (id:Int) (hl:l.length≤1073741824):aa C cw [jo l,.fn sV [[iI id]]] (vI (g6 l id)) []:=by
 refine(o6 _ _ _ ?_).run
 have key:gJ (fun a:Age=>decide (a.id=id)) (l.drop 0) ((0:Nat):Int)=gJ (fun a:Age=>decide (a.id=id)) l 0→ah C cw ak 4 0 (cX (l.map dM) ((0:Nat):Int) id) (fun u st=>aF C cw ak u st fun r fs=>r=vI (g6 l id)∧fs=[]):=by
  refine bD l (fun i=>gJ (fun a:Age=>decide (a.id=id)) (l.drop i) (i:Int)=gJ (fun a:Age=>decide (a.id=id)) l 0→ah C cw ak 4 0 (cX (l.map dM) i id) _) ?_ ?_
  ·intro h0
   refine jc _ _ _ _ (an (by simp) (oJ _ _ _ _ _ _ ?_))
   rw[List.drop_length] at h0
   simp only[gJ] at h0
   change _=vI (gJ (fun a:Age=>decide (a.id=id)) l 0)∧_
   rw[←h0]
   exact⟨rfl,by first|rfl|trivial⟩
  ·intro i a hi ha hd htk hn h0
   refine jc _ _ _ _ (ai (by simp;omega) ?_)
   rw[hd] at h0
   simp only[gJ] at h0
   simp only[rZ,aP,Le,bF,aL,ha,Option.some.injEq,exists_eq_left',exists_eq_left,bJ,dX,fD,dh,dZ,c8,ee,ef,fE,cu,natAdd,List.length_map,List.length_append,List.length_singleton,Bool.true_and,Bool.and_true]
   rw[aJ (by omega)]
   split at h0
   ·rename_i hp
    have hp:=of_decide_eq_true hp
    first|rw[if_pos hp]|rw[if_pos hp.symm]
    refine oI _ _ _ ?_
    rw[h0]
    exact⟨rfl,by first|rfl|trivial⟩
   ·rename_i hp
    have hp: ¬_:=fun h=>hp (decide_eq_true h)
    first|rw[if_neg hp]|rw[if_neg (fun h=>hp h.symm)]
    exact hn h0
 exact key rfl
theorem BY (l:List Age) (id:Int) (hl:l.length≤1073741824):aa C jd [jo l,vI id] (vI (g6 l id)) []:=(PN _ _ _ ⟨_,Mr l id hl,rfl,by first|rfl|trivial⟩).run
theorem yD (l:List Age) (id:Int) (hl:l.length≤1073741824) (q:Int):aa C dJ [jo l,vI id] (vI q) []↔q=g6 l id:=VO (tT l id hl)
theorem yE (l:List Age) (id:Int) (hl:l.length≤1073741824) (q:Int):aa C jd [jo l,vI id] (vI q) []↔q=g6 l id:=VO (BY l id hl)
theorem HM (l:List Age) (id:Int) (hl:l.length≤1073741824):aa C iM [jo l,vI id] (ki (pathOf l id)) []:=by
 refine(NJ _ _ _ ⟨_,tT l id hl,?_⟩).run
 have key: ∀(n:Nat) (id':Int) (acc:List Int),acc.length+n=l.length+1→acc++Bx l n id'=pathOf l id→ah C iM qc 4 0 (pV (l.map dM) (g6 l id') (acc.map bL)) (fun u st=>aF C iM qc u st fun r fs=>r=ki (pathOf l id)∧fs=[]):=by
  intro n
  induction n with
  |zero=>
   intro id' acc h0 h1
   simp only[Bx,List.append_nil] at h1
   refine sq _ _ _ _ (nN (fun _=> ?_) fun _=>AU _ _ _ _ (by rw[h1];exact⟨rfl,by first|rfl|trivial⟩))
   exact an (by simp;omega) (JQ _ _ _ _ _ (by rw[h1];exact⟨rfl,by first|rfl|trivial⟩))
  |succ n ih=>
   intro id' acc h0 h1
   simp only[Bx] at h1
   by_cases h:g6 l id'<0
   ·rw[if_pos h,List.append_nil] at h1
    exact sq _ _ _ _ (an (by simp;omega) (AU _ _ _ _ (by rw[h1];exact⟨rfl,by first|rfl|trivial⟩)))
   ·rw[if_neg h] at h1
    obtain⟨a,ha,he⟩:=Ok l id' h
    rw[ha] at h1
    refine sq _ _ _ _ (ai (by simp;omega) (ai (by simp;omega) ?_))
    simp only[rZ,ha,Option.some.injEq,exists_eq_left',Pg,Bool.true_and,cu,List.length_map]
    rw[cY (by omega)]
    refine ai rfl ⟨_,tT l a.fr hl,?_⟩
    rw[J6]
    exact ih a.fr (acc++[a.id]) (by simp;omega) (by rw[←h1,he];simp)
 exact key (l.length+1) id [] (by simp) rfl
theorem HN (l:List Age) (id:Int) (hl:l.length≤1073741824):aa C iN [jo l,vI id] (ki (pathOf l id)) []:=by
 refine(Nb _ _ _ ?_).run
 have key: ∀(n:Nat) (id':Int) (acc:List Int) (k:Nat),k+n=l.length+1→acc.length=k→acc++Bx l n id'=pathOf l id→ah C iN aj 4 0 (pL (l.map dM) id' k (acc.map bL)) (fun u st=>aF C iN aj u st fun r fs=>r=ki (pathOf l id)∧fs=[]):=by
  intro n
  induction n with
  |zero=>
   intro id' acc k h0 h2 h1
   simp only[Bx,List.append_nil] at h1
   refine As _ _ _ _ _ (an ?_ (I5 _ _ _ _ _ _ _ (by rw[h1];exact⟨rfl,by first|rfl|trivial⟩)))
   rw[aJ (by simp;omega)];simp;omega
  |succ n ih=>
   intro id' acc k h0 h2 h1
   simp only[Bx] at h1
   refine As _ _ _ _ _ (ai (by rw[aJ (by simp;omega)];simp;omega) ⟨_,BY l id' hl,?_⟩)
   by_cases h:g6 l id'<0
   ·rw[if_pos h,List.append_nil] at h1
    exact ai (by simp;omega) (I3 _ _ _ _ _ _ _ _ (by rw[h1];exact⟨rfl,by first|rfl|trivial⟩))
   ·rw[if_neg h] at h1
    obtain⟨a,ha,he⟩:=Ok l id' h
    rw[ha] at h1
    refine an (by simp;omega) ?_
    simp only[rZ,ha,Option.some.injEq,exists_eq_left',Pg,Bool.true_and,cu,List.length_map]
    rw[cY (by omega)]
    refine ai rfl ?_
    rw[J6,aJ (by omega)]
    exact ih a.fr (acc++[id']) (k+1) (by omega) (by simp;omega) (by rw[←h1];simp)
 exact key (l.length+1) id [] 0 (by simp) rfl rfl
theorem Lf (l:List Int) (n:Int) (hl:l.length≤1073741824):aa C hJ [ki l,vI n] (vB (EF l n)) []:=by
 refine(PG _ _ _ ?_).run
 have key:(l.drop 0).any (fun a:Int=>decide (a=n))=l.any (fun a:Int=>decide (a=n))→ah C hJ ak 4 0 (nS (l.map bL) n ((0:Nat):Int)) (fun u st=>aF C hJ ak u st fun r fs=>r=vB (EF l n)∧fs=[]):=by
  refine bD l (fun i=>(l.drop i).any (fun a:Int=>decide (a=n))=l.any (fun a:Int=>decide (a=n))→ah C hJ ak 4 0 (nS (l.map bL) n i) _) ?_ ?_
  ·intro h0
   refine Ck _ _ _ _ (an (by simp) (LC _ _ _ _ _ ?_))
   rw[List.drop_length] at h0
   simp only[List.any_nil] at h0
   show _=vB (EF l n)∧_
   first|unfold EF|unfold XK|skip
   rw[←h0]
   exact⟨rfl,by first|rfl|trivial⟩
  ·intro i a hi ha hd htk hn h0
   refine Ck _ _ _ _ (ai (by simp;omega) ?_)
   rw[hd] at h0
   simp only[List.any_cons] at h0
   simp only[rY,aP,bF,aL,ha,Option.some.injEq,exists_eq_left',exists_eq_left,bJ,dX,fD,dh,dZ,c8,ee,ef,fE,cu,natAdd,List.length_map,List.length_append,List.length_singleton,Bool.true_and,Bool.and_true]
   rw[aJ (by omega)]
   split
   ·rename_i hp
    refine LB _ ?_
    have e:l.any (fun a:Int=>decide (a=n))=true:=by rw[←h0];simp[hp]
    first|unfold EF|unfold XK|skip
    rw[e]
    exact⟨rfl,by first|rfl|trivial⟩
   ·rename_i hp
    exact hn (by simpa [hp] using h0)
 exact key rfl
theorem Rm (l:List Int) (n:Int) (hl:l.length≤1073741824):aa C dy [ki l,vI n] (vI (gJ (fun a:Int=>decide (a=n)) l 0)) []:=by
 refine(D6 _ _ _ ?_).run
 have key:gJ (fun a:Int=>decide (a=n)) (l.drop 0) ((0:Nat):Int)=gJ (fun a:Int=>decide (a=n)) l 0→ah C dy ak 4 0 (iO (l.map bL) n ((0:Nat):Int)) (fun u st=>aF C dy ak u st fun r fs=>r=vI (gJ (fun a:Int=>decide (a=n)) l 0)∧fs=[]):=by
  refine bD l (fun i=>gJ (fun a:Int=>decide (a=n)) (l.drop i) (i:Int)=gJ (fun a:Int=>decide (a=n)) l 0→ah C dy ak 4 0 (iO (l.map bL) n i) _) ?_ ?_
  ·intro h0
   refine rT _ _ _ _ (an (by simp) (Ct _ _ _ _ _ _ ?_))
   rw[List.drop_length] at h0
   simp only[gJ] at h0
   change _=vI (gJ (fun a:Int=>decide (a=n)) l 0)∧_
   rw[←h0]
   exact⟨rfl,by first|rfl|trivial⟩
  ·intro i a hi ha hd htk hn h0
   refine rT _ _ _ _ (ai (by simp;omega) ?_)
   rw[hd] at h0
   simp only[gJ] at h0
   simp only[rY,aP,bF,aL,ha,Option.some.injEq,exists_eq_left',exists_eq_left,bJ,dX,fD,dh,dZ,c8,ee,ef,fE,cu,natAdd,List.length_map,List.length_append,List.length_singleton,Bool.true_and,Bool.and_true]
   rw[aJ (by omega)]
   split at h0
   ·rename_i hp
    have hp:=of_decide_eq_true hp
    first|rw[if_pos hp]|rw[if_pos hp.symm]
    refine Cs _ _ ?_
    rw[h0]
    exact⟨rfl,by first|rfl|trivial⟩
   ·rename_i hp
    have hp: ¬_:=fun h=>hp (decide_eq_true h)
    first|rw[if_neg hp]|rw[if_neg (fun h=>hp h.symm)]
    exact hn h0
 exact key rfl
theorem Py (l:List Int) (n:Int) (hl:l.length≤1073741824):aa C lq [ki l,vI n] (vB (EF l n)) []:=by
 refine(A5 _ _ _ ⟨_,Rm l n hl,?_⟩).run
 rw[fm,KX _ _ _ (by omega)]
 exact⟨rfl,by first|rfl|trivial⟩
theorem HO (t:Tree) (b:Int) (path:List Int) (hl:c6 t≤1073741824) (hp:path.length≤1073741824):aa C eX [dn t,vI b,ki path] (Om (near (fo t b) path)) []:=by
 refine(MO _ _ _ _ _ ?_).run
 refine⟨_,HK t b hl,?_⟩
 have key: ∀(pr:Key×Bool),((fo t b).drop 0).foldl (EG path) pr=near (fo t b) path→ah C eX mB 4 0 (gT (path.map bL) pr.2 ((0:Nat):Int) pr.1.b pr.1.a pr.1.k pr.1.c pr.1.g ((fo t b).map bN)) (fun u st=>aF C eX mB u st fun r fs=>r=(Om (near (fo t b) path))∧fs=[]):=by
  refine bD (fo t b) (fun i=> ∀(pr:Key×Bool),((fo t b).drop i).foldl (EG path) pr=near (fo t b) path→ah C eX mB 4 0 (gT (path.map bL) pr.2 i pr.1.b pr.1.a pr.1.k pr.1.c pr.1.g ((fo t b).map bN)) (fun u st=>aF C eX mB u st fun r fs=>r=(Om (near (fo t b) path))∧fs=[])) ?_ ?_
  ·intro pr h0
   refine Af _ _ _ _ _ _ _ _ _ _ (an (by simp) (ID _ _ _ _ _ _ _ _ _ _ _ ?_))
   rw[List.drop_length] at h0
   simp only[List.foldl_nil] at h0
   rw[h0]
   exact⟨rfl,by first|rfl|trivial⟩
  ·intro i a hi ha hd ht hn pr h0
   have hk:=KW t b
   have hz:=ko t
   refine Af _ _ _ _ _ _ _ _ _ _ (ai (by simp;omega) ?_)
   rw[hd] at h0
   simp only[List.foldl_cons] at h0
   obtain⟨bk,bf⟩:=pr
   have hh: ∀q,aa C hJ [ki path,vI a.a] (vB q) []↔q=EF path a.a:=fun q=>q8 (Lf path a.a hp)
   simp only[jS,hh,eE,bF,aL,ha,Option.some.injEq,exists_eq_left',exists_eq_left,bJ,dX,fD,dh,dZ,c8,ee,ef,fE,cu,natAdd,List.length_map,List.length_append,List.length_singleton,Bool.true_and,Bool.and_true]
   rw[aJ (by omega)]
   have e:EG path (bk,bf) a=if EF path a.a&&(!bf||decide (bk.a<a.a)) then(a,true) else(bk,bf):=rfl
   rw[e] at h0
   cases h1:EF path a.a<;>cases bf<;>by_cases h2:bk.a<a.a<;>simp[h1,h2] at h0 ⊢ <;>first|exact hn (a,true) h0|exact hn (bk,false) h0|exact hn (bk,true) h0
 exact key (dY,false) rfl
theorem HP (t:Tree) (b:Int) (path:List Int) (hl:c6 t≤1073741824) (hp:path.length≤1073741824):aa C eY [dn t,vI b,ki path] (Om (near (fo t b) path)) []:=by
 refine(Nn _ _ _ _ _ ?_).run
 refine⟨_,HL t b hl,?_⟩
 have key: ∀(pr:Key×Bool),((fo t b).drop 0).foldl (EG path) pr=near (fo t b) path→ah C eY aj 4 0 (gU (path.map bL) pr.2 ((fo t b).map bN) ((0:Nat):Int) pr.1.b pr.1.a pr.1.k pr.1.c pr.1.g) (fun u st=>aF C eY aj u st fun r fs=>r=(Om (near (fo t b) path))∧fs=[]):=by
  refine bD (fo t b) (fun i=> ∀(pr:Key×Bool),((fo t b).drop i).foldl (EG path) pr=near (fo t b) path→ah C eY aj 4 0 (gU (path.map bL) pr.2 ((fo t b).map bN) i pr.1.b pr.1.a pr.1.k pr.1.c pr.1.g) (fun u st=>aF C eY aj u st fun r fs=>r=(Om (near (fo t b) path))∧fs=[])) ?_ ?_
  ·intro pr h0
   refine AB _ _ _ _ _ _ _ _ _ _ (an (by simp) (Jn _ _ _ _ _ _ _ _ _ _ _ _ ?_))
   rw[List.drop_length] at h0
   simp only[List.foldl_nil] at h0
   rw[h0]
   exact⟨rfl,by first|rfl|trivial⟩
  ·intro i a hi ha hd ht hn pr h0
   have hk:=KW t b
   have hz:=ko t
   refine AB _ _ _ _ _ _ _ _ _ _ (ai (by simp;omega) ?_)
   rw[hd] at h0
   simp only[List.foldl_cons] at h0
   obtain⟨bk,bf⟩:=pr
   have hh: ∀q,aa C lq [ki path,vI a.a] (vB q) []↔q=EF path a.a:=fun q=>q8 (Py path a.a hp)
   simp only[jS,hh,eE,bF,aL,ha,Option.some.injEq,exists_eq_left',exists_eq_left,bJ,dX,fD,dh,dZ,c8,ee,ef,fE,cu,natAdd,List.length_map,List.length_append,List.length_singleton,Bool.true_and,Bool.and_true]
   rw[aJ (by omega)]
   have e:EG path (bk,bf) a=if EF path a.a&&(!bf||decide (bk.a<a.a)) then(a,true) else(bk,bf):=rfl
   rw[e] at h0
   cases h1:EF path a.a<;>cases bf<;>by_cases h2:bk.a<a.a<;>simp[h1,h2] at h0 ⊢ <;>first|exact hn (a,true) h0|exact hn (bk,false) h0|exact hn (bk,true) h0
 exact key (dY,false) rfl
@[simp] theorem Ms (a:Int) (q:Bool):aa C BL [vI a] (vB q) []↔q=ED a:=q8 ((Nv _ _ ⟨_,tQ _ _ _,rfl,by first|rfl|trivial⟩).run)
theorem HQ (l:List Cell) (i gen:Int) (hl:l.length≤1073741824):aa C rN [gY l,vI i,vI gen] (Z8 (cellAt l i gen)) []:=by
 refine(M6 _ _ _ _ ?_).run
 simp only[BV,exists_eq_left,List.length_map,Int.ofNat_eq_natCast,bJ,pk]
 rw[dg (by omega)]
 by_cases h:0≤i∧i<l.length
 ·obtain⟨a,ha⟩:=td h.1 h.2
  have e:iK i 0 ((l.length:Int)-1)=true:=decide_eq_true (by omega)
  simp only[e,lC,ha,Option.some.injEq,exists_eq_left',aP,bF,cellAt]
  cases h1:a.u<;>by_cases h2:a.g=gen<;>simp[h1,h2]
 ·have e:iK i 0 ((l.length:Int)-1)=false:=decide_eq_false (by omega)
  have hn:gX l i=none:=oc h
  simp[e,cellAt,hn]
theorem Mt (l:List Cell) (hl:l.length≤1073741824) (i gen:Int) (n:Int) (q:Bool):aa C rN [gY l,vI i,vI gen] (.tu [(0,[iI n]),(0,[iB q])]) []↔n=(cellAt l i gen).1∧q=(cellAt l i gen).2:=XJ (HQ l i gen hl)
theorem DI (l:List Cell) (hl:l.length≤1073741824):aa C dS [gY l] (vI (bQ l)) []:=by
 refine(GV _ _ ?_).run
 have key: ∀(n:Nat),n+(l.drop 0).length≤l.length→n+bQ (l.drop 0)=bQ l→ah C dS aj 4 0 (ij (l.map cK) n ((0:Nat):Int)) (fun u st=>aF C dS aj u st fun r fs=>r=(vI (bQ l))∧fs=[]):=by
  refine bD l (fun i=> ∀(n:Nat),n+(l.drop i).length≤l.length→n+bQ (l.drop i)=bQ l→ah C dS aj 4 0 (ij (l.map cK) n i) (fun u st=>aF C dS aj u st fun r fs=>r=(vI (bQ l))∧fs=[])) ?_ ?_
  ·intro n h0 h1
   refine ux _ _ _ _ (an (by simp) (D3 _ _ _ _ _ ?_))
   rw[List.drop_length] at h1
   simp[bQ] at h1
   simp[h1,bQ]
  ·intro i a hi ha hd ht hn n h0 h1
   refine ux _ _ _ _ (ai (by simp;omega) ?_)
   rw[hd] at h0 h1
   simp only[List.length_cons] at h0
   simp only[pk,aL,ha,Option.some.injEq,exists_eq_left',exists_eq_left,bJ,dX,fD,dh,dZ,c8,ee,ef,fE,cu,natAdd,List.length_map,List.length_append,List.length_singleton,Bool.true_and,Bool.and_true]
   rw[aJ (by omega),aJ (by omega)]
   cases hu:a.u
   ·exact hn n (by omega) (by rw[←h1];simp[bQ,hu])
   ·exact hn (n+1) (by omega) (by rw[←h1];simp[bQ,hu];omega)
 exact key 0 (by simp) (by simp)
theorem F0 (l:List Cell) (hl:l.length≤1073741824):aa C dj [gY l] (vB ((l.all hD&&decide (l.length=24)))) []:=by
 refine(L7 _ _ ?_).run
 have key:((l.drop 0).all hD&&decide (l.length=24))=(l.all hD&&decide (l.length=24))→ah C dj ak 4 0 (ir (l.map cK) ((0:Nat):Int)) (fun u st=>aF C dj ak u st fun r fs=>r=vB ((l.all hD&&decide (l.length=24)))∧fs=[]):=by
  refine bD l (fun i=>((l.drop i).all hD&&decide (l.length=24))=(l.all hD&&decide (l.length=24))→ah C dj ak 4 0 (ir (l.map cK) i) (fun u st=>aF C dj ak u st fun r fs=>r=vB ((l.all hD&&decide (l.length=24)))∧fs=[])) ?_ ?_
  ·intro h0
   refine xT _ _ _ (an (by simp) (G3 _ _ _ _ ?_))
   rw[List.drop_length] at h0
   simp only[List.all_nil,Bool.true_and] at h0
   rw[←h0]
   simp[aP]
   try omega
  ·intro i a hi ha hd htk hn h0
   have gO:hD a=false→(l.all hD&&decide (l.length=24))=false:=fun e=>by rw[←h0,hd];simp[e]
   have gN:hD a=true→ah C dj ak 4 0 (ir (l.map cK) ((i:Int)+1)) (fun u st=>aF C dj ak u st fun r fs=>r=vB ((l.all hD&&decide (l.length=24)))∧fs=[]):=fun e=>hn (by rw[←h0,hd];simp[e])
   refine xT _ _ _ (ai (by simp;omega) ?_)
   simp only[pk,BV,Ms,aP,aL,ha,Option.some.injEq,exists_eq_left',exists_eq_left,bJ,dX,fD,dh,dZ,c8,ee,ef,fE,cu,natAdd,List.length_map,List.length_append,List.length_singleton,Bool.true_and,Bool.and_true]
   rw[aJ (by omega)]
   cases h1:iK a.g 0 999<;>cases h2:ED a.n<;>cases h3:a.u<;>by_cases h4:a.n=0<;>simp only[h1,h2,h3,h4,lC,mw,decide_true,decide_false,not_true_eq_false,not_false_eq_true,Bool.not_true,Bool.not_false]<;>first|exact gN (by unfold hD;rw[h1,h2,h3];simp[h4])|exact G2 _ (by rw[gO (by unfold hD;rw[h1,h2,h3];simp[h4])];exact⟨rfl,by first|rfl|trivial⟩)
 exact key rfl
theorem BZ (l:List Cell) (hl:l.length≤1073741824) (q:Bool):aa C dj [gY l] (vB q) []↔q=eI l:=q8 (F0 l hl)
@[simp] theorem Mu (a:Int) (q:Bool):aa C BM [vI a] (vB q) []↔q=ED a:=q8 ((ME _ _ ⟨_,qb _ _ _,rfl,by first|rfl|trivial⟩).run)
theorem HR (l:List Cell) (i gen:Int) (hl:l.length≤1073741824):aa C rO [gY l,vI i,vI gen] (Z8 (cellAt l i gen)) []:=by
 refine(M7 _ _ _ _ ?_).run
 simp only[rQ,exists_eq_left,List.length_map,Int.ofNat_eq_natCast,bJ,pk]
 rw[dg (by omega)]
 by_cases h:0≤i∧i<l.length
 ·obtain⟨a,ha⟩:=td h.1 h.2
  have e:iK i 0 ((l.length:Int)-1)=true:=decide_eq_true (by omega)
  simp only[e,lC,ha,Option.some.injEq,exists_eq_left',aP,bF,cellAt]
  cases h1:a.u<;>by_cases h2:a.g=gen<;>simp[h1,h2]
 ·have e:iK i 0 ((l.length:Int)-1)=false:=decide_eq_false (by omega)
  have hn:gX l i=none:=oc h
  simp[e,cellAt,hn]
theorem Mv (l:List Cell) (hl:l.length≤1073741824) (i gen:Int) (n:Int) (q:Bool):aa C rO [gY l,vI i,vI gen] (.tu [(0,[iI n]),(0,[iB q])]) []↔n=(cellAt l i gen).1∧q=(cellAt l i gen).2:=XJ (HR l i gen hl)
theorem DJ (l:List Cell) (hl:l.length≤1073741824):aa C dU [gY l] (vI (bQ l)) []:=by
 refine(GW _ _ ?_).run
 have key: ∀(n:Nat),n+(l.drop 0).length≤l.length→n+bQ (l.drop 0)=bQ l→ah C dU aj 4 0 (iq n (l.map cK) ((0:Nat):Int)) (fun u st=>aF C dU aj u st fun r fs=>r=(vI (bQ l))∧fs=[]):=by
  refine bD l (fun i=> ∀(n:Nat),n+(l.drop i).length≤l.length→n+bQ (l.drop i)=bQ l→ah C dU aj 4 0 (iq n (l.map cK) i) (fun u st=>aF C dU aj u st fun r fs=>r=(vI (bQ l))∧fs=[])) ?_ ?_
  ·intro n h0 h1
   refine uy _ _ _ _ (an (by simp) (D4 _ _ _ _ _ _ ?_))
   rw[List.drop_length] at h1
   simp[bQ] at h1
   simp[h1,bQ]
  ·intro i a hi ha hd ht hn n h0 h1
   refine uy _ _ _ _ (ai (by simp;omega) ?_)
   rw[hd] at h0 h1
   simp only[List.length_cons] at h0
   simp only[pk,aL,ha,Option.some.injEq,exists_eq_left',exists_eq_left,bJ,dX,fD,dh,dZ,c8,ee,ef,fE,cu,natAdd,List.length_map,List.length_append,List.length_singleton,Bool.true_and,Bool.and_true]
   rw[aJ (by omega),aJ (by omega)]
   cases hu:a.u
   ·exact hn n (by omega) (by rw[←h1];simp[bQ,hu])
   ·exact hn (n+1) (by omega) (by rw[←h1];simp[bQ,hu];omega)
 exact key 0 (by simp) (by simp)
theorem F1 (l:List Cell) (hl:l.length≤1073741824):aa C dm [gY l] (vB ((l.all hD&&decide (l.length=24)))) []:=by
 refine(LU _ _ ?_).run
 have key:((l.drop 0).all hD&&decide (l.length=24))=(l.all hD&&decide (l.length=24))→ah C dm ak 4 0 (ig (l.map cK) ((0:Nat):Int)) (fun u st=>aF C dm ak u st fun r fs=>r=vB ((l.all hD&&decide (l.length=24)))∧fs=[]):=by
  refine bD l (fun i=>((l.drop i).all hD&&decide (l.length=24))=(l.all hD&&decide (l.length=24))→ah C dm ak 4 0 (ig (l.map cK) i) (fun u st=>aF C dm ak u st fun r fs=>r=vB ((l.all hD&&decide (l.length=24)))∧fs=[])) ?_ ?_
  ·intro h0
   refine xP _ _ _ (an (by simp) (GR _ _ _ _ _ ?_))
   rw[List.drop_length] at h0
   simp only[List.all_nil,Bool.true_and] at h0
   rw[←h0]
   simp[aP]
   try omega
  ·intro i a hi ha hd htk hn h0
   have gO:hD a=false→(l.all hD&&decide (l.length=24))=false:=fun e=>by rw[←h0,hd];simp[e]
   have gN:hD a=true→ah C dm ak 4 0 (ig (l.map cK) ((i:Int)+1)) (fun u st=>aF C dm ak u st fun r fs=>r=vB ((l.all hD&&decide (l.length=24)))∧fs=[]):=fun e=>hn (by rw[←h0,hd];simp[e])
   refine xP _ _ _ (ai (by simp;omega) ?_)
   simp only[pk,rQ,Mu,aP,aL,ha,Option.some.injEq,exists_eq_left',exists_eq_left,bJ,dX,fD,dh,dZ,c8,ee,ef,fE,cu,natAdd,List.length_map,List.length_append,List.length_singleton,Bool.true_and,Bool.and_true]
   rw[aJ (by omega)]
   cases h1:iK a.g 0 999<;>cases h2:ED a.n<;>cases h3:a.u<;>by_cases h4:a.n=0<;>simp only[h1,h2,h3,h4,lC,mw,decide_true,decide_false,not_true_eq_false,not_false_eq_true,Bool.not_true,Bool.not_false]<;>first|exact gN (by unfold hD;rw[h1,h2,h3];simp[h4])|exact GQ _ _ _ _ (by rw[gO (by unfold hD;rw[h1,h2,h3];simp[h4])];exact⟨rfl,by first|rfl|trivial⟩)
 exact key rfl
theorem B0 (l:List Cell) (hl:l.length≤1073741824) (q:Bool):aa C dm [gY l] (vB q) []↔q=eI l:=q8 (F1 l hl)
theorem HS (s:ByteArray) (hl:s.size≤140737488355328):aa C dN [vS s] (vB ((cN s.size (dR s)&&iK s.size 1 6))) []:=by
 refine(Nx _ _ ?_).run
 have key:((List.range' 0 (s.size-0)).all (dR s)&&iK s.size 1 6)=(cN s.size (dR s)&&iK s.size 1 6)→ah C dN ak 4 0 (jl s ((0:Nat):Int)) (fun u st=>aF C dN ak u st fun r fs=>r=vB ((cN s.size (dR s)&&iK s.size 1 6))∧fs=[]):=by
  refine nP (s.size) (fun i=>((List.range' i (s.size-i)).all (dR s)&&iK s.size 1 6)=(cN s.size (dR s)&&iK s.size 1 6)→ah C dN ak 4 0 (jl s i) (fun u st=>aF C dN ak u st fun r fs=>r=vB ((cN s.size (dR s)&&iK s.size 1 6))∧fs=[])) ?_ ?_
  ·intro h0
   refine AJ _ _ _ (an (by simp) (JC _ _ _ _ ?_))
   rw[Nat.sub_self] at h0
   simp only[List.range'_zero,List.all_nil,Bool.true_and] at h0
   rw[←h0]
   simp only[BV,exists_eq_left,FV,Int.ofNat_eq_natCast]
   simp
  ·intro i hi hn h0
   rw[jI hi,List.all_cons] at h0
   have gO:(dR s) i=false→(cN s.size (dR s)&&iK s.size 1 6)=false:=fun e=>by rw[←h0,e];rfl
   have gN:(dR s) i=true→ah C dN ak 4 0 (jl s ((i:Int)+1)) (fun u st=>aF C dN ak u st fun r fs=>r=vB ((cN s.size (dR s)&&iK s.size 1 6))∧fs=[]):=fun e=>hn (by rw[←h0,e];rfl)
   refine AJ _ _ _ (ai (by simp;omega) ?_)
   obtain⟨n,hb,hn0,hn1⟩:=Oi hi
   have hw:sr .i64 n=n:=Q1 (by omega)
   simp only[hb,Option.some.injEq,exists_eq_left',BV,exists_eq_left,hw,bJ]
   rw[aJ (by omega)]
   have e:dR s i=(iK n 97 122||iK n 48 57):=by unfold dR;rw[hb];rfl
   rw[e] at gO gN
   cases h1:iK n 97 122<;>cases h2:iK n 48 57<;>simp only[lC,mw]<;>first|exact gN (by rw[h1,h2];rfl)|exact JB _ (by rw[gO (by rw[h1,h2];rfl)];exact⟨rfl,by first|rfl|trivial⟩)
 exact key rfl
theorem C2 (s:ByteArray) (hl:s.size≤140737488355328) (q:Bool):aa C dN [vS s] (vB q) []↔q=q9 s:=q8 (HS s hl)
theorem XM (l:List Age): ∀(id:Int),id=0→jq l id=[]:=fun id h=>if_pos h
theorem HT (l:List Age) (id:Int) (hl:l.length≤1073741824):aa C eT [jo l,vI id] (ki (jq l id)) []:=by
 refine(Nk _ _ _ ?_).run
 have key: ∀(acc:List Int),acc.length+(l.drop 0).length≤l.length→acc++jq (l.drop 0) id=jq l id→ah C eT aj 4 0 (jk (l.map dM) id ((0:Nat):Int) (acc.map bL)) (fun u st=>aF C eT aj u st fun r fs=>r=(ki (jq l id))∧fs=[]):=by
  refine bD l (fun i=> ∀(acc:List Int),acc.length+(l.drop i).length≤l.length→acc++jq (l.drop i) id=jq l id→ah C eT aj 4 0 (jk (l.map dM) id i (acc.map bL)) (fun u st=>aF C eT aj u st fun r fs=>r=(ki (jq l id))∧fs=[])) ?_ ?_
  ·intro acc h0 h1
   refine Az _ _ _ _ _ (an (by simp) (Jj _ _ _ _ _ _ ?_))
   rw[List.drop_length] at h1
   simp[jq] at h1
   simp[jq,h1]
  ·intro i a hi ha hd ht hn acc h0 h1
   refine Az _ _ _ _ _ (ai (by simp;omega) ?_)
   rw[hd] at h0 h1
   simp only[List.length_cons] at h0
   simp only[rZ,J6,Pg,aP,bF,aL,ha,Option.some.injEq,exists_eq_left',exists_eq_left,bJ,dX,fD,dh,dZ,c8,ee,ef,fE,cu,natAdd,List.length_map,List.length_append,List.length_singleton,Bool.true_and,Bool.and_true]
   simp (disch:=omega) only[cY,aJ,lC]
   by_cases hz:id=0
   ·rw[XM _ _ hz] at h1
    have e: ∀(A B:Prop),(if a.fr=id then(if id=0 then A else B) else A)=if a.fr=id then A else A:=fun A B=>by rw[if_pos hz]
    rw[e,ite_self]
    exact hn _ (by omega) (by rw[XM _ _ hz,←h1])
   by_cases hk:a.fr=id
   ·rw[if_pos hk,if_neg hz]
    exact hn (acc++[a.id]) (by simp only[List.length_append,List.length_singleton];omega) (by rw[←h1];simp[jq,hk,hz])
   ·rw[if_neg hk]
    exact hn _ (by omega) (by rw[←h1];simp[jq,hk,hz])
 exact key [] (by simp) rfl
theorem F2 (l:List Key) (hl:l.length≤1073741824):aa C gE [cO l] (vB (cN l.length (gL l dK))) []:=by
 refine(LO _ _ ?_).run
 have key: ∀(k i:Nat),i+k=l.length→1≤i→(List.range' i k).all (gL l dK)=cN l.length (gL l dK)→ah C gE ak 4 0 (oz (l.map bN) i) (fun u st=>aF C gE ak u st fun r fs=>r=vB (cN l.length (gL l dK))∧fs=[]):=by
  intro k
  induction k with
  |zero=>
   intro i h h1 h0
   refine ry _ _ _ (an (by simp;omega) (xN _ _ _ _ ?_))
   simp only[List.range'_zero,List.all_nil] at h0
   rw[←h0];exact⟨rfl,by first|rfl|trivial⟩
  |succ k ih=>
   intro i h h1 h0
   obtain⟨j,rfl⟩: ∃j,i=j+1:=⟨i-1,by omega⟩
   have hj:l[j]?=some l[j]:=List.getElem?_eq_getElem (by omega)
   have hj1:l[j+1]?=some l[j+1]:=List.getElem?_eq_getElem (by omega)
   have e:gL l dK (j+1)=dK l[j] l[j+1]:=by simp only[gL,hj,hj1]
   rw[List.range'_succ,List.all_cons,e] at h0
   refine ry _ _ _ (ai (by simp;omega) ?_)
   rw[dg (by omega),show((j+1:Nat):Int)-1=(j:Int) by omega]
   simp only[jS,aL,hj,hj1,Option.some.injEq,exists_eq_left',BX,exists_eq_left,dh,bJ]
   rw[aJ (by omega)]
   cases hb:dK l[j] l[j+1] with
   |true=>
    rw[hb,Bool.true_and] at h0
    exact ai rfl (ih (j+1+1) (by omega) (by omega) h0)
   |false=>
    rw[hb,Bool.false_and] at h0
    refine an rfl (GN _ ?_)
    rw[←h0];exact⟨rfl,by first|rfl|trivial⟩
 cases hz:l.length with
 |zero=>
  have:l=[]:=List.eq_nil_of_length_eq_zero hz
  subst this
  exact ry _ _ _ (an (by simp) (xN _ _ _ _ ⟨rfl,by first|rfl|trivial⟩))
 |succ n=>
  rw[hz] at key
  exact key n 1 (by omega) (by omega) (by unfold cN;rw[List.range'_succ,List.all_cons];rfl)
theorem Lg (l:List Key) (hl:l.length≤1073741824):aa C eG [cO l] (vB ((l.all gx&&(cN l.length (gL l dK)&&decide (l.length≤60))))) []:=by
 refine(PX _ _ ?_).run
 have key:((l.drop 0).all gx&&(cN l.length (gL l dK)&&decide (l.length≤60)))=(l.all gx&&(cN l.length (gL l dK)&&decide (l.length≤60)))→ah C eG ak 4 0 (lN (l.map bN) ((0:Nat):Int)) (fun u st=>aF C eG ak u st fun r fs=>r=vB ((l.all gx&&(cN l.length (gL l dK)&&decide (l.length≤60))))∧fs=[]):=by
  refine bD l (fun i=>((l.drop i).all gx&&(cN l.length (gL l dK)&&decide (l.length≤60)))=(l.all gx&&(cN l.length (gL l dK)&&decide (l.length≤60)))→ah C eG ak 4 0 (lN (l.map bN) i) (fun u st=>aF C eG ak u st fun r fs=>r=vB ((l.all gx&&(cN l.length (gL l dK)&&decide (l.length≤60))))∧fs=[])) ?_ ?_
  ·intro h0
   refine Cu _ _ _ (an (by simp) (L9 _ _ _ _ ?_))
   rw[List.drop_length] at h0
   simp only[List.all_nil,Bool.true_and] at h0
   rw[←h0]
   refine⟨_,F2 l hl,?_⟩
   simp only[fm,List.length_map,Int.ofNat_eq_natCast]
   cases cN l.length (gL l dK)<;>simp
   omega
  ·intro i a hi ha hd htk hn h0
   have gO:gx a=false→(l.all gx&&(cN l.length (gL l dK)&&decide (l.length≤60)))=false:=fun e=>by rw[←h0,hd];simp[e]
   have gN:gx a=true→ah C eG ak 4 0 (lN (l.map bN) ((i:Int)+1)) (fun u st=>aF C eG ak u st fun r fs=>r=vB ((l.all gx&&(cN l.length (gL l dK)&&decide (l.length≤60))))∧fs=[]):=fun e=>hn (by rw[←h0,hd];simp[e])
   refine Cu _ _ _ (ai (by simp;omega) ?_)
   simp only[jS,EU,aL,ha,Option.some.injEq,exists_eq_left',exists_eq_left,bJ,dX,fD,dh,dZ,c8,ee,ef,fE,cu,natAdd,List.length_map,List.length_append,List.length_singleton,Bool.true_and,Bool.and_true]
   rw[aJ (by omega)]
   cases h1:gx a<;>simp only[lC,mw]<;>first|exact gN (by assumption)|exact L8 _ (by rw[gO (by assumption)];exact⟨rfl,by first|rfl|trivial⟩)
 exact key rfl
theorem HU (l:List Key) (hl:l.length≤1073741824):aa C eG [cO l] (vB (Bw l)) []:=by
 have:=Lg l hl
 rw[KV]
 exact this
theorem Pz (l:List Key) (hl:l.length≤1073741824) (q:Bool):aa C eG [cO l] (vB q) []↔q=Bw l:=q8 (HU l hl)
theorem HV (s:ByteArray) (hl:s.size≤140737488355328):aa C dO [vS s] (vB ((cN s.size (dR s)&&iK s.size 1 6))) []:=by
 refine(Ny _ _ ?_).run
 have key:((List.range' 0 (s.size-0)).all (dR s)&&iK s.size 1 6)=(cN s.size (dR s)&&iK s.size 1 6)→ah C dO ak 4 0 (jm s ((0:Nat):Int)) (fun u st=>aF C dO ak u st fun r fs=>r=vB ((cN s.size (dR s)&&iK s.size 1 6))∧fs=[]):=by
  refine nP (s.size) (fun i=>((List.range' i (s.size-i)).all (dR s)&&iK s.size 1 6)=(cN s.size (dR s)&&iK s.size 1 6)→ah C dO ak 4 0 (jm s i) (fun u st=>aF C dO ak u st fun r fs=>r=vB ((cN s.size (dR s)&&iK s.size 1 6))∧fs=[])) ?_ ?_
  ·intro h0
   refine AK _ _ _ (an (by simp) (JE _ _ _ _ ?_))
   rw[Nat.sub_self] at h0
   simp only[List.range'_zero,List.all_nil,Bool.true_and] at h0
   rw[←h0]
   simp only[rQ,exists_eq_left,FV,Int.ofNat_eq_natCast]
   simp
  ·intro i hi hn h0
   rw[jI hi,List.all_cons] at h0
   have gO:(dR s) i=false→(cN s.size (dR s)&&iK s.size 1 6)=false:=fun e=>by rw[←h0,e];rfl
   have gN:(dR s) i=true→ah C dO ak 4 0 (jm s ((i:Int)+1)) (fun u st=>aF C dO ak u st fun r fs=>r=vB ((cN s.size (dR s)&&iK s.size 1 6))∧fs=[]):=fun e=>hn (by rw[←h0,e];rfl)
   refine AK _ _ _ (ai (by simp;omega) ?_)
   obtain⟨n,hb,hn0,hn1⟩:=Oi hi
   have hw:sr .i64 n=n:=Q1 (by omega)
   simp only[hb,Option.some.injEq,exists_eq_left',rQ,exists_eq_left,hw,bJ]
   rw[aJ (by omega)]
   have e:dR s i=(iK n 97 122||iK n 48 57):=by unfold dR;rw[hb];rfl
   rw[e] at gO gN
   cases h1:iK n 97 122<;>cases h2:iK n 48 57<;>simp only[lC,mw]<;>first|exact gN (by rw[h1,h2];rfl)|exact JD _ (by rw[gO (by rw[h1,h2];rfl)];exact⟨rfl,by first|rfl|trivial⟩)
 exact key rfl
theorem C3 (s:ByteArray) (hl:s.size≤140737488355328) (q:Bool):aa C dO [vS s] (vB q) []↔q=q9 s:=q8 (HV s hl)
theorem HW (l:List Age) (id:Int) (hl:l.length≤1073741824):aa C eU [jo l,vI id] (ki (jq l id)) []:=by
 refine(ND _ _ _ ?_).run
 unfold jq
 by_cases hz:id=0
 ·refine ai (by simp[hz]) ?_
  rw[if_pos hz]
  exact⟨rfl,by first|rfl|trivial⟩
 refine an (by simp[hz]) ?_
 rw[if_neg hz]
 have key: ∀(acc:List Int),acc.length+(l.drop 0).length≤l.length→acc++((l.drop 0).filter fun a=>decide (a.fr=id)).map (·.id)=(l.filter fun a=>decide (a.fr=id)).map (·.id)→ah C eU aH 4 0 (j6 id (l.map dM) ((0:Nat):Int) (acc.map bL)) (fun u st=>aF C eU aH u st fun r fs=>r=ki ((l.filter fun a=>decide (a.fr=id)).map (·.id))∧fs=[]):=by
  refine bD l (fun i=> ∀(acc:List Int),acc.length+(l.drop i).length≤l.length→acc++((l.drop i).filter fun a=>decide (a.fr=id)).map (·.id)=(l.filter fun a=>decide (a.fr=id)).map (·.id)→ah C eU aH 4 0 (j6 id (l.map dM) i (acc.map bL)) (fun u st=>aF C eU aH u st fun r fs=>r=ki ((l.filter fun a=>decide (a.fr=id)).map (·.id))∧fs=[])) ?_ ?_
  ·intro acc h0 h1
   refine AM _ _ _ _ _ (an (by simp) (JJ _ _ _ _ _ _ _ ?_))
   rw[List.drop_length] at h1
   simp only[List.filter_nil,List.map_nil,List.append_nil] at h1
   rw[h1]
   exact⟨rfl,by first|rfl|trivial⟩
  ·intro i a hi ha hd ht hn acc h0 h1
   refine AM _ _ _ _ _ (ai (by simp;omega) ?_)
   rw[hd] at h0 h1
   simp only[List.length_cons] at h0
   simp only[rZ,J6,Pg,aP,bF,aL,ha,Option.some.injEq,exists_eq_left',exists_eq_left,bJ,dX,fD,dh,dZ,c8,ee,ef,fE,cu,natAdd,List.length_map,List.length_append,List.length_singleton,Bool.true_and,Bool.and_true]
   simp (disch:=omega) only[cY,aJ,lC]
   by_cases hk:a.fr=id
   ·rw[if_pos hk]
    exact hn (acc++[a.id]) (by simp only[List.length_append,List.length_singleton];omega) (by rw[←h1];simp[hk])
   ·rw[if_neg hk]
    exact hn _ (by omega) (by rw[←h1];simp[hk])
 exact key [] (by simp) rfl
theorem HX (l:List Key) (hl:l.length≤1073741824):aa C eF [cO l] (vB ((cN l.length (ld l)&&decide (l.length≤60)))) []:=by
 refine(PS _ _ ?_).run
 have key:((List.range' 0 (l.length-0)).all (ld l)&&decide (l.length≤60))=(cN l.length (ld l)&&decide (l.length≤60))→ah C eF ak 4 0 (jO (l.map bN) ((0:Nat):Int)) (fun u st=>aF C eF ak u st fun r fs=>r=vB ((cN l.length (ld l)&&decide (l.length≤60)))∧fs=[]):=by
  refine nP (l.length) (fun i=>((List.range' i (l.length-i)).all (ld l)&&decide (l.length≤60))=(cN l.length (ld l)&&decide (l.length≤60))→ah C eF ak 4 0 (jO (l.map bN) i) (fun u st=>aF C eF ak u st fun r fs=>r=vB ((cN l.length (ld l)&&decide (l.length≤60)))∧fs=[])) ?_ ?_
  ·intro h0
   refine Cq _ _ _ (an (by simp) (L3 _ _ _ _ _ ?_))
   rw[Nat.sub_self] at h0
   simp only[List.range'_zero,List.all_nil,Bool.true_and] at h0
   rw[←h0]
   simp[fm]
   omega
  ·intro i hi hn h0
   rw[jI hi,List.all_cons] at h0
   have gO:(ld l) i=false→(cN l.length (ld l)&&decide (l.length≤60))=false:=fun e=>by rw[←h0,e];rfl
   have gN:(ld l) i=true→ah C eF ak 4 0 (jO (l.map bN) ((i:Int)+1)) (fun u st=>aF C eF ak u st fun r fs=>r=vB ((cN l.length (ld l)&&decide (l.length≤60)))∧fs=[]):=fun e=>hn (by rw[←h0,e];rfl)
   refine Cq _ _ _ (ai (by simp;omega) ?_)
   have ha:l[i]?=some l[i]:=List.getElem?_eq_getElem hi
   simp only[jS,ET,BW,aL,ha,Option.some.injEq,exists_eq_left',exists_eq_left,bJ,dX,fD,dh,dZ,c8,ee,ef,fE,cu,natAdd,List.length_map,List.length_append,List.length_singleton,Bool.true_and,Bool.and_true]
   rw[aJ (by omega)]
   cases i with
   |zero=>
    have e:ld l 0=gx l[0]:=by simp[ld,Uu,gL,hi]
    simp only[e] at gO gN
    cases h1:gx l[0]<;>simp only[h1,lC,mw,eE,bF,Int.natCast_zero,Int.lt_irrefl,if_false]<;>first|exact gN h1|exact Cr _ _ _ _ _ _ (by rw[gO h1];exact⟨rfl,by first|rfl|trivial⟩)
   |succ k=>
    have hk:l[k]?=some l[k]:=List.getElem?_eq_getElem (by omega)
    have e:ld l (k+1)=(gx l[k+1]&&dK l[k] l[k+1]):=by simp only[ld,Uu,gL,hk,ha]
    simp only[e] at gO gN
    rw[dg (by omega),show((k+1:Nat):Int)-1=(k:Int) by omega]
    simp only[aL,hk,Option.some.injEq,exists_eq_left',dh,eE,bF]
    rw[if_pos (by omega)]
    cases h1:gx l[k+1]<;>cases h2:dK l[k] l[k+1]<;>simp only[lC,mw]<;>first|exact gN (by rw[h1,h2];rfl)|exact Cr _ _ _ _ _ _ (by rw[gO (by rw[h1,h2];rfl)];exact⟨rfl,by first|rfl|trivial⟩)
 exact key rfl
theorem PA (l:List Key) (hl:l.length≤1073741824) (q:Bool):aa C eF [cO l] (vB q) []↔q=Bw l:=q8 (HX l hl)
theorem DK (t:Tree) (l:List Age) (b id:Int) (hl:c6 t≤1073741824) (ha:l.length≤1073741823):aa C qz [dn t,jo l,vI b,vI id] (Om (qh t l b id)) []:=by
 refine(GS _ _ _ _ _ _ ?_).run
 have hp:=KY l id
 refine⟨_,HM l id (by omega),?_⟩
 simp only[List.length_map,Int.ofNat_eq_natCast,aP,bF,ct]
 unfold qh
 by_cases h:(pathOf l id).length=0
 ·rw[if_pos (by omega),List.eq_nil_of_length_eq_zero h]
  simp[VQ,dY]
 ·rw[if_neg (by omega)]
  refine ai (by simp;omega) ⟨_,_,_,_,_,_,HO t b _ hl (by simp;omega),?_⟩
  have e:List.drop (Int.toNat 1) (List.take (Int.toNat ((pathOf l id).length:Int)) (pathOf l id))=(pathOf l id).drop 1:=by rw[Int.toNat_natCast,List.take_length];rfl
  rw[e]
  exact⟨rfl,by first|rfl|trivial⟩
theorem DL (t:Tree) (l:List Age) (b id:Int) (hl:c6 t≤1073741824) (ha:l.length≤1073741823):aa C qA [dn t,jo l,vI b,vI id] (Om (qh t l b id)) []:=by
 refine(G5 _ _ _ _ _ _ ?_).run
 have hp:=KY l id
 refine⟨_,HN l id (by omega),?_⟩
 simp only[List.length_map,Int.ofNat_eq_natCast,ct,WX]
 unfold qh
 have e: ∀m:Int,((m=1∧1≤(pathOf l id).length)∨(m=0∧(pathOf l id).length=0))→List.drop m.toNat (List.take (Int.toNat ((pathOf l id).length:Int)) (pathOf l id))=(pathOf l id).drop 1:=fun m hm=>by
  rw[Int.toNat_natCast,List.take_length]
  rcases hm with⟨rfl,_⟩|⟨rfl,h⟩
  ·rfl
  ·rw[List.eq_nil_of_length_eq_zero h];rfl
 have hm:(if((pathOf l id).length:Int)<1 then((pathOf l id).length:Int) else 1)=1∧1≤(pathOf l id).length∨((if((pathOf l id).length:Int)<1 then((pathOf l id).length:Int) else 1)=0∧(pathOf l id).length=0):=by split<;>omega
 revert hm
 generalize (if((pathOf l id).length:Int)<1 then((pathOf l id).length:Int) else 1)=m
 intro hm
 rw[e m hm]
 refine ai (by simp;omega) ⟨_,_,_,_,_,_,HP t b _ hl (by simp;omega),?_⟩
 exact⟨rfl,by first|rfl|trivial⟩
theorem tU (p:Pool) (s:ByteArray) (hl:p.vols.length≤1073741824):aa C eR [fX p,vS s] (vI (eP p.vols s)) []:=by
 refine(PI _ _ _ _ _ _ _ _ ?_).run
 have key:gJ (fun v:Vol=>decide (v.name=s)) (p.vols.drop 0) ((0:Nat):Int)=gJ (fun v:Vol=>decide (v.name=s)) p.vols 0→ah C eR ak 4 0 (nT s ((0:Nat):Int) (p.t.lows.map bL) (p.t.nodes.map aW) (p.ages.map dM) (p.cells.map cK) (p.vols.map dx) p.next) (fun u st=>aF C eR ak u st fun r fs=>r=vI (eP p.vols s)∧fs=[]):=by
  refine bD p.vols (fun i=>gJ (fun v:Vol=>decide (v.name=s)) (p.vols.drop i) (i:Int)=gJ (fun v:Vol=>decide (v.name=s)) p.vols 0→ah C eR ak 4 0 (nT s i (p.t.lows.map bL) (p.t.nodes.map aW) (p.ages.map dM) (p.cells.map cK) (p.vols.map dx) p.next) _) ?_ ?_
  ·intro h0
   refine Cm _ _ _ _ _ _ _ _ _ (an (by simp) (LG _ _ _ _ _ _ _ _ _ _ ?_))
   rw[List.drop_length] at h0
   simp only[gJ] at h0
   change _=vI (gJ (fun v:Vol=>decide (v.name=s)) p.vols 0)∧_
   rw[←h0]
   exact⟨rfl,by first|rfl|trivial⟩
  ·intro i a hi ha hd htk hn h0
   refine Cm _ _ _ _ _ _ _ _ _ (ai (by simp;omega) ?_)
   rw[hd] at h0
   simp only[gJ] at h0
   simp only[Bt,FT,bF,aL,ha,Option.some.injEq,exists_eq_left',exists_eq_left,bJ,dX,fD,dh,dZ,c8,ee,ef,fE,cu,natAdd,List.length_map,List.length_append,List.length_singleton,Bool.true_and,Bool.and_true]
   rw[aJ (by omega)]
   split at h0
   ·rename_i hp
    have hp:=of_decide_eq_true hp
    first|rw[if_pos hp]|rw[if_pos hp.symm]
    refine LF _ _ _ _ _ _ _ _ ?_
    rw[h0]
    exact⟨rfl,by first|rfl|trivial⟩
   ·rename_i hp
    have hp: ¬_:=fun h=>hp (decide_eq_true h)
    first|rw[if_neg hp]|rw[if_neg (fun h=>hp h.symm)]
    exact hn h0
 exact key rfl
@[simp] theorem Lh (n:ByteArray) (a z:Int) (f:Bool) (s:ByteArray) (q:Bool):aa C sR [.ag [iS n,iI a,iI z,iB f],.bx [iS s]] (vB q) []↔q=decide (n=s):=q8 (by
  refine(LD _ _ _ _ _ _ ?_).run
  simp)
theorem Mw (l:List Vol) (s:ByteArray) (hl:l.length≤1073741824):aa C aV [yK l,.fn sR [[iS s]]] (vI (eP l s)) []:=by
 refine(o5 _ _ _ ?_).run
 have key:gJ (fun v:Vol=>decide (v.name=s)) (l.drop 0) ((0:Nat):Int)=gJ (fun v:Vol=>decide (v.name=s)) l 0→ah C aV ak 4 0 (cW (l.map dx) ((0:Nat):Int) s) (fun u st=>aF C aV ak u st fun r fs=>r=vI (eP l s)∧fs=[]):=by
  refine bD l (fun i=>gJ (fun v:Vol=>decide (v.name=s)) (l.drop i) (i:Int)=gJ (fun v:Vol=>decide (v.name=s)) l 0→ah C aV ak 4 0 (cW (l.map dx) i s) _) ?_ ?_
  ·intro h0
   refine jb _ _ _ _ (an (by simp) (oH _ _ _ _ _ _ ?_))
   rw[List.drop_length] at h0
   simp only[gJ] at h0
   change _=vI (gJ (fun v:Vol=>decide (v.name=s)) l 0)∧_
   rw[←h0]
   exact⟨rfl,by first|rfl|trivial⟩
  ·intro i a hi ha hd htk hn h0
   refine jb _ _ _ _ (ai (by simp;omega) ?_)
   rw[hd] at h0
   simp only[gJ] at h0
   simp only[Bt,aP,Lh,bF,aL,ha,Option.some.injEq,exists_eq_left',exists_eq_left,bJ,dX,fD,dh,dZ,c8,ee,ef,fE,cu,natAdd,List.length_map,List.length_append,List.length_singleton,Bool.true_and,Bool.and_true]
   rw[aJ (by omega)]
   split at h0
   ·rename_i hp
    have hp:=of_decide_eq_true hp
    first|rw[if_pos hp]|rw[if_pos hp.symm]
    refine oG _ _ _ ?_
    rw[h0]
    exact⟨rfl,by first|rfl|trivial⟩
   ·rename_i hp
    have hp: ¬_:=fun h=>hp (decide_eq_true h)
    first|rw[if_neg hp]|rw[if_neg (fun h=>hp h.symm)]
    exact hn h0
 exact key rfl
theorem B1 (p:Pool) (s:ByteArray) (hl:p.vols.length≤1073741824):aa C DD [fX p,vS s] (vI (eP p.vols s)) []:=(PD _ _ _ _ _ _ _ _ ⟨_,Mw p.vols s hl,rfl,by first|rfl|trivial⟩).run
@[simp] theorem HY (n:ByteArray) (a z:Int) (f:Bool) (s:ByteArray) (a' z':Int) (f':Bool) (q:Bool):aa C mT [.ag [iS n,iI a,iI z,iB f],.bx [iS s,iI a',iI z',iB f']] (vB q) []↔q=decide (a=a'):=q8 (by
  refine(JU _ _ _ _ _ _ _ _ _ ?_).run
  simp)
theorem AZ (l:List Vol) (s:ByteArray) (a' z':Int) (f':Bool) (hl:l.length≤1073741824):aa C aV [yK l,.fn mT [[iS s,iI a',iI z',iB f']]] (vI (gJ (fun v:Vol=>decide (v.age=a')) l 0)) []:=by
 refine(oQ _ _ _ _ _ _ ?_).run
 have key:gJ (fun v:Vol=>decide (v.age=a')) (l.drop 0) ((0:Nat):Int)=gJ (fun v:Vol=>decide (v.age=a')) l 0→ah C aV ak 4 0 (cT (l.map dx) ((0:Nat):Int) s a' z' f') (fun u st=>aF C aV ak u st fun r fs=>r=vI (gJ (fun v:Vol=>decide (v.age=a')) l 0)∧fs=[]):=by
  refine bD l (fun i=>gJ (fun v:Vol=>decide (v.age=a')) (l.drop i) (i:Int)=gJ (fun v:Vol=>decide (v.age=a')) l 0→ah C aV ak 4 0 (cT (l.map dx) i s a' z' f') _) ?_ ?_
  ·intro h0
   refine iR _ _ _ _ _ _ _ (an (by simp) (nV _ _ _ _ _ _ _ _ _ ?_))
   rw[List.drop_length] at h0
   simp only[gJ] at h0
   change _=vI (gJ (fun v:Vol=>decide (v.age=a')) l 0)∧_
   rw[←h0]
   exact⟨rfl,by first|rfl|trivial⟩
  ·intro i a hi ha hd htk hn h0
   refine iR _ _ _ _ _ _ _ (ai (by simp;omega) ?_)
   rw[hd] at h0
   simp only[gJ] at h0
   simp only[Bt,aP,HY,bF,aL,ha,Option.some.injEq,exists_eq_left',exists_eq_left,bJ,dX,fD,dh,dZ,c8,ee,ef,fE,cu,natAdd,List.length_map,List.length_append,List.length_singleton,Bool.true_and,Bool.and_true]
   rw[aJ (by omega)]
   split at h0
   ·rename_i hp
    have hp:=of_decide_eq_true hp
    first|rw[if_pos hp]|rw[if_pos hp.symm]
    refine nU _ _ _ _ _ _ ?_
    rw[h0]
    exact⟨rfl,by first|rfl|trivial⟩
   ·rename_i hp
    have hp: ¬_:=fun h=>hp (decide_eq_true h)
    first|rw[if_neg hp]|rw[if_neg (fun h=>hp h.symm)]
    exact hn h0
 exact key rfl
theorem A4 (l:List Vol) (s:ByteArray) (a' z':Int) (f':Bool) (hl:l.length≤1073741824):aa C gn [yK l,.fn mT [[iS s,iI a',iI z',iB f']]] (vB (l.any (fun v:Vol=>decide (v.age=a')))) []:=by
 refine(nC _ _ _ _ _ _ ⟨_,AZ l s a' z' f' hl,?_⟩).run
 rw[fm,KX _ _ _ (by omega)]
 exact⟨rfl,by first|rfl|trivial⟩
theorem F3 (n:List (List Key)) (hb:n.length≤1073741824) (hl:tot bH n≤1073741824):aa C fQ [fW n] (vI (cm n)) []:=by
 refine(LA _ _ ?_).run
 have key: ∀(c:Nat),c+tot bH (n.drop 0)=cm n→ah C fQ aj 4 0 (lH c ((0:Nat):Int) (n.map cc)) (fun u st=>aF C fQ aj u st fun r fs=>r=(vI (cm n))∧fs=[]):=by
  refine bD n (fun i=> ∀(c:Nat),c+tot bH (n.drop i)=cm n→ah C fQ aj 4 0 (lH c i (n.map cc)) (fun u st=>aF C fQ aj u st fun r fs=>r=(vI (cm n))∧fs=[])) ?_ ?_
  ·intro c h0
   refine xH _ _ _ _ (an (by simp) (GD _ _ _ _ _ ?_))
   rw[List.drop_length] at h0
   simp only[tot,Nat.add_zero] at h0
   rw[h0]
   exact⟨rfl,by first|rfl|trivial⟩
  ·intro i a hi ha hd ht hn c h0
   refine xH _ _ _ _ (ai (by simp;omega) ?_)
   rw[hd] at h0
   have e5:tot bH (a::n.drop (i+1))=a.length+tot bH (n.drop (i+1)):=rfl
   rw[e5] at h0
   unfold cm at h0
   simp only[q7,aL,ha,Option.some.injEq,exists_eq_left',exists_eq_left,bJ,dX,fD,dh,dZ,c8,ee,ef,fE,cu,natAdd,List.length_map,List.length_append,List.length_singleton,Bool.true_and,Bool.and_true]
   rw[aJ (by simp only[Int.ofNat_eq_natCast];omega),aJ (by omega)]
   exact hn (c+a.length) (by unfold cm;omega)
 exact key 0 (by simp[cm])
theorem F4 (n:List (List Key)) (hs:tot bH n≤1073741824) (hl:n.length≤1073741824):aa C bM [fW n] (vB ((n.all cZ&&(decide (n.length≤3)&&decide (cm n≤8))))) []:=by
 refine(NG _ _ ?_).run
 have key:((n.drop 0).all cZ&&(decide (n.length≤3)&&decide (cm n≤8)))=(n.all cZ&&(decide (n.length≤3)&&decide (cm n≤8)))→ah C bM ak 4 0 (j7 ((0:Nat):Int) (n.map cc)) (fun u st=>aF C bM ak u st fun r fs=>r=vB ((n.all cZ&&(decide (n.length≤3)&&decide (cm n≤8))))∧fs=[]):=by
  refine bD n (fun i=>((n.drop i).all cZ&&(decide (n.length≤3)&&decide (cm n≤8)))=(n.all cZ&&(decide (n.length≤3)&&decide (cm n≤8)))→ah C bM ak 4 0 (j7 i (n.map cc)) (fun u st=>aF C bM ak u st fun r fs=>r=vB ((n.all cZ&&(decide (n.length≤3)&&decide (cm n≤8))))∧fs=[])) ?_ ?_
  ·intro h0
   refine AP _ _ _ (an (by simp) (JN _ _ _ _ ?_))
   rw[List.drop_length] at h0
   simp only[List.all_nil,Bool.true_and] at h0
   rw[←h0]
   simp only[fm,List.length_map,Int.ofNat_eq_natCast,bF]
   by_cases h3:n.length≤3
   ·rw[if_pos (by omega)]
    refine⟨_,F3 n hl hs,?_⟩
    simp[h3]
    omega
   ·rw[if_neg (by omega)]
    simp[h3]
  ·intro i a hi ha hd htk hn h0
   have gO:cZ a=false→(n.all cZ&&(decide (n.length≤3)&&decide (cm n≤8)))=false:=fun e=>by rw[←h0,hd];simp[e]
   have gN:cZ a=true→ah C bM ak 4 0 (j7 ((i:Int)+1) (n.map cc)) (fun u st=>aF C bM ak u st fun r fs=>r=vB ((n.all cZ&&(decide (n.length≤3)&&decide (cm n≤8))))∧fs=[]):=fun e=>hn (by rw[←h0,hd];simp[e])
   refine AP _ _ _ (ai (by simp;omega) ?_)
   have hz:a.length≤tot bH n:=kk (w:=bH) ha
   have hh: ∀q,aa C eG [cO a] (vB q) []↔q=Bw a:=fun q=>Pz a (by omega) q
   simp only[q7,hh,aP,Int.ofNat_eq_natCast,bF,aL,ha,Option.some.injEq,exists_eq_left',exists_eq_left,bJ,dX,fD,dh,dZ,c8,ee,ef,fE,cu,natAdd,List.length_map,List.length_append,List.length_singleton,Bool.true_and,Bool.and_true]
   rw[aJ (by omega)]
   cases h1:Bw a<;>by_cases h2:a.length=0<;>simp only[lC,mw]<;>first|(rw[if_pos (by omega)];exact AQ _ _ (by rw[gO (by simp[cZ,h1,h2])];exact⟨rfl,by first|rfl|trivial⟩))|(rw[if_neg (by omega)];exact gN (by simp[cZ,h1,h2]))|exact AQ _ _ (by rw[gO (by simp[cZ,h1,h2])];exact⟨rfl,by first|rfl|trivial⟩)
 exact key rfl
theorem r7 (n:List (List Key)) (hb:n.length≤1073741824) (hl:tot bH n≤1073741824):aa C bM [fW n] (vB (ff n)) []:=by
 have:=F4 n hl hb
 rw[On]
 exact this
theorem HZ (l:List Age) (hl:l.length≤1073741824):aa C dA [jo l] (vB ((cN l.length (eu l)&&decide (l.length≤16)))) []:=by
 refine(Ni _ _ ?_).run
 have key:((List.range' 0 (l.length-0)).all (eu l)&&decide (l.length≤16))=(cN l.length (eu l)&&decide (l.length≤16))→ah C dA ak 4 0 (fU (l.map dM) ((0:Nat):Int)) (fun u st=>aF C dA ak u st fun r fs=>r=vB ((cN l.length (eu l)&&decide (l.length≤16)))∧fs=[]):=by
  refine nP (l.length) (fun i=>((List.range' i (l.length-i)).all (eu l)&&decide (l.length≤16))=(cN l.length (eu l)&&decide (l.length≤16))→ah C dA ak 4 0 (fU (l.map dM) i) (fun u st=>aF C dA ak u st fun r fs=>r=vB ((cN l.length (eu l)&&decide (l.length≤16)))∧fs=[])) ?_ ?_
  ·intro h0
   refine Aw _ _ _ (an (by simp) (Je _ _ _ _ ?_))
   rw[Nat.sub_self] at h0
   simp only[List.range'_zero,List.all_nil,Bool.true_and] at h0
   rw[←h0]
   simp[fm]
   omega
  ·intro i hi hn h0
   rw[jI hi,List.all_cons] at h0
   have gO:(eu l) i=false→(cN l.length (eu l)&&decide (l.length≤16))=false:=fun e=>by rw[←h0,e];rfl
   have gN:(eu l) i=true→ah C dA ak 4 0 (fU (l.map dM) ((i:Int)+1)) (fun u st=>aF C dA ak u st fun r fs=>r=vB ((cN l.length (eu l)&&decide (l.length≤16)))∧fs=[]):=fun e=>hn (by rw[←h0,e];rfl)
   refine Aw _ _ _ (ai (by simp;omega) ?_)
   have ha:l[i]?=some l[i]:=List.getElem?_eq_getElem hi
   have hh: ∀q,aa C dJ [jo (l.take i),vI l[i].fr] (vI q) []↔q=g6 (l.take i) l[i].fr:=fun q=>yD (l.take i) l[i].fr (by simp;omega) q
   have hcut:ax (l.map dM) 0 (i:Int)=(l.take i).map dM:=by rw[ct,Int.toNat_natCast];rfl
   have hin:cD 0 (i:Int) (l.length:Int)=true:=by simp;omega
   simp only[rZ,BV,hcut,aL,ha,Option.some.injEq,exists_eq_left',exists_eq_left,bJ,dX,fD,dh,dZ,c8,ee,ef,fE,cu,natAdd,List.length_map,List.length_append,List.length_singleton,Bool.true_and,Bool.and_true]
   simp only[ha,hin,hh,exists_eq_left,Option.some.injEq,exists_eq_left',lC,aP,fm,eE,bF,Int.ofNat_eq_natCast,List.length_map]
   rw[aJ (by omega)]
   cases i with
   |zero=>
    have e:eu l 0=(iK l[0].id 1 60&&(decide (l[0].fr=0)|| !decide (g6 (l.take 0) l[0].fr<0))):=by simp[eu,Uu,gL,hi]
    rw[e] at gO gN
    have hz: ¬((0:Int)<((0:Nat):Int)):=by omega
    simp only[if_neg hz]
    cases h1:iK l[0].id 1 60 with
    |false=>simp only[mw];exact mN _ (by rw[gO (by rw[h1];simp)];exact⟨rfl,by first|rfl|trivial⟩)
    |true=>
     simp only[lC]
     by_cases h2:l[0].fr=0
     ·rw[if_pos h2];exact gN (by rw[h1,decide_eq_true h2];simp)
     ·rw[if_neg h2]
      by_cases h3:g6 (l.take 0) l[0].fr<0
      ·rw[if_pos h3];exact mN _ (by rw[gO (by rw[decide_eq_false h2,decide_eq_true h3];simp)];exact⟨rfl,by first|rfl|trivial⟩)
      ·rw[if_neg h3];exact gN (by rw[h1,decide_eq_false h3];simp)
   |succ k=>
    have hk:l[k]?=some l[k]:=List.getElem?_eq_getElem (by omega)
    have e:eu l (k+1)=(iK l[k+1].id 1 60&&(decide (l[k].id<l[k+1].id)&&(decide (l[k+1].fr=0)|| !decide (g6 (l.take (k+1)) l[k+1].fr<0)))):=by simp only[eu,Uu,gL,hk,ha]
    rw[e] at gO gN
    rw[dg (by omega),show((k+1:Nat):Int)-1=(k:Int) by omega]
    simp only[aL,hk,Option.some.injEq,exists_eq_left']
    rw[if_pos (by omega)]
    cases h1:iK l[k+1].id 1 60 with
    |false=>simp only[mw];exact mN _ (by rw[gO (by rw[h1];simp)];exact⟨rfl,by first|rfl|trivial⟩)
    |true=>
     simp only[lC]
     by_cases h4:l[k].id<l[k+1].id
     ·rw[if_neg (by omega)]
      by_cases h2:l[k+1].fr=0
      ·rw[if_pos h2];exact gN (by rw[h1,decide_eq_true h4,decide_eq_true h2];simp)
      ·rw[if_neg h2]
       by_cases h3:g6 (l.take (k+1)) l[k+1].fr<0
       ·rw[if_pos h3];exact mN _ (by rw[gO (by rw[decide_eq_false h2,decide_eq_true h3];simp)];exact⟨rfl,by first|rfl|trivial⟩)
       ·rw[if_neg h3];exact gN (by rw[h1,decide_eq_true h4,decide_eq_false h3];simp)
     ·rw[if_pos (by omega)];exact mN _ (by rw[gO (by rw[decide_eq_false h4];simp)];exact⟨rfl,by first|rfl|trivial⟩)
 exact key rfl
theorem Mx (l:List Age) (hl:l.length≤1073741824) (q:Bool):aa C dA [jo l] (vB q) []↔q=lY l:=q8 (HZ l hl)
theorem F5 (n:List (List Key)) (hb:n.length≤1073741824) (hl:tot bH n≤1073741824):aa C bn [fW n] (vB (n.all cZ&&(decide (n.length≤3)&&decide (cm n≤8)))) []:=by
 refine(MN _ _ ?_).run
 have key: ∀(c:Nat),c+tot bH (n.drop 0)=cm n→((n.drop 0).all cZ&&(decide (n.length≤3)&&decide (cm n≤8)))=(n.all cZ&&(decide (n.length≤3)&&decide (cm n≤8)))→ah C bn aj 4 0 (mC c (n.map cc) ((0:Nat):Int)) (fun u st=>aF C bn aj u st fun r fs=>r=(vB (n.all cZ&&(decide (n.length≤3)&&decide (cm n≤8))))∧fs=[]):=by
  refine bD n (fun i=> ∀(c:Nat),c+tot bH (n.drop i)=cm n→((n.drop i).all cZ&&(decide (n.length≤3)&&decide (cm n≤8)))=(n.all cZ&&(decide (n.length≤3)&&decide (cm n≤8)))→ah C bn aj 4 0 (mC c (n.map cc) i) (fun u st=>aF C bn aj u st fun r fs=>r=(vB (n.all cZ&&(decide (n.length≤3)&&decide (cm n≤8))))∧fs=[])) ?_ ?_
  ·intro c h0 h1
   refine Ae _ _ _ _ (an (by simp) (IA _ _ _ _ _ _ ?_))
   rw[List.drop_length] at h0 h1
   simp only[tot,Nat.add_zero] at h0
   simp only[List.all_nil,Bool.true_and] at h1
   rw[←h1]
   simp only[fm,List.length_map,Int.ofNat_eq_natCast,bF]
   by_cases h3:n.length≤3
   ·rw[if_pos (by omega)]
    simp[h3]
    omega
   ·rw[if_neg (by omega)]
    simp[h3]
  ·intro i a hi ha hd ht hn c h0 h1
   refine Ae _ _ _ _ (ai (by simp;omega) ?_)
   have hz:a.length≤tot bH n:=kk (w:=bH) ha
   have hh: ∀q,aa C eF [cO a] (vB q) []↔q=Bw a:=fun q=>PA a (by omega) q
   rw[hd] at h0 h1
   have e5:tot bH (a::n.drop (i+1))=a.length+tot bH (n.drop (i+1)):=rfl
   rw[e5] at h0
   unfold cm at h0
   have hO:cZ a=false→aF C bn aj TX.ret (pH (n.map cc)) (fun r fs=>r=vB (n.all cZ&&(decide (n.length≤3)&&decide (cm n≤8)))∧fs=[]):=fun e=>Iz _ _ (by rw[←h1];simp only[List.all_cons,e];exact⟨rfl,by first|rfl|trivial⟩)
   simp only[q7,hh,aP,Int.ofNat_eq_natCast,bF,aL,ha,Option.some.injEq,exists_eq_left',exists_eq_left,bJ,dX,fD,dh,dZ,c8,ee,ef,fE,cu,natAdd,List.length_map,List.length_append,List.length_singleton,Bool.true_and,Bool.and_true]
   rw[aJ (by omega),aJ (by omega)]
   cases h2:Bw a<;>by_cases h3:a.length=0<;>simp only[lC,mw]
   ·exact hO (by simp[cZ,h2])
   ·exact hO (by simp[cZ,h2])
   ·rw[if_pos (by omega)];exact hO (by simp[cZ,h3])
   ·rw[if_neg (by omega)]
    exact hn (c+a.length) (by unfold cm;omega) (by rw[←h1];simp[cZ,h2,h3])
 exact key 0 (by simp[cm]) rfl
theorem r8 (n:List (List Key)) (hb:n.length≤1073741824) (hl:tot bH n≤1073741824):aa C bn [fW n] (vB (ff n)) []:=by
 have:=F5 n hb hl
 rw[On]
 exact this
theorem My (n:List (List Key)) (hb:n.length≤1073741824) (hl:tot bH n≤1073741824) (q:Bool):aa C bn [.ag [.sub 1 (n.map cc)]] (vB q) []↔q=ff n:=q8 (r8 n hb hl)
theorem H6 (l:List Age) (hl:l.length≤1073741824):aa C dB [jo l] (vB ((cN l.length (eu l)&&decide (l.length≤16)))) []:=by
 refine(MZ _ _ ?_).run
 have key:((List.range' 0 (l.length-0)).all (eu l)&&decide (l.length≤16))=(cN l.length (eu l)&&decide (l.length≤16))→ah C dB ak 4 0 (fT (l.map dM) ((0:Nat):Int)) (fun u st=>aF C dB ak u st fun r fs=>r=vB ((cN l.length (eu l)&&decide (l.length≤16)))∧fs=[]):=by
  refine nP (l.length) (fun i=>((List.range' i (l.length-i)).all (eu l)&&decide (l.length≤16))=(cN l.length (eu l)&&decide (l.length≤16))→ah C dB ak 4 0 (fT (l.map dM) i) (fun u st=>aF C dB ak u st fun r fs=>r=vB ((cN l.length (eu l)&&decide (l.length≤16)))∧fs=[])) ?_ ?_
  ·intro h0
   refine Al _ _ _ (an (by simp) (IW _ _ _ _ _ ?_))
   rw[Nat.sub_self] at h0
   simp only[List.range'_zero,List.all_nil,Bool.true_and] at h0
   rw[←h0]
   simp[fm]
   omega
  ·intro i hi hn h0
   rw[jI hi,List.all_cons] at h0
   have gO:(eu l) i=false→(cN l.length (eu l)&&decide (l.length≤16))=false:=fun e=>by rw[←h0,e];rfl
   have gN:(eu l) i=true→ah C dB ak 4 0 (fT (l.map dM) ((i:Int)+1)) (fun u st=>aF C dB ak u st fun r fs=>r=vB ((cN l.length (eu l)&&decide (l.length≤16)))∧fs=[]):=fun e=>hn (by rw[←h0,e];rfl)
   refine Al _ _ _ (ai (by simp;omega) ?_)
   have ha:l[i]?=some l[i]:=List.getElem?_eq_getElem hi
   have hh: ∀q,aa C jd [jo (l.take i),vI l[i].fr] (vI q) []↔q=g6 (l.take i) l[i].fr:=fun q=>yE (l.take i) l[i].fr (by simp;omega) q
   have hcut:ax (l.map dM) 0 (i:Int)=(l.take i).map dM:=by rw[ct,Int.toNat_natCast];rfl
   have hin:cD 0 (i:Int) (l.length:Int)=true:=by simp;omega
   simp only[rZ,rQ,hcut,aL,ha,Option.some.injEq,exists_eq_left',exists_eq_left,bJ,dX,fD,dh,dZ,c8,ee,ef,fE,cu,natAdd,List.length_map,List.length_append,List.length_singleton,Bool.true_and,Bool.and_true]
   simp only[ha,hin,hh,exists_eq_left,Option.some.injEq,exists_eq_left',lC,aP,fm,eE,bF,Int.ofNat_eq_natCast,List.length_map]
   rw[aJ (by omega)]
   cases i with
   |zero=>
    have e:eu l 0=(iK l[0].id 1 60&&(decide (l[0].fr=0)|| !decide (g6 (l.take 0) l[0].fr<0))):=by simp[eu,Uu,gL,hi]
    rw[e] at gO gN
    have hz: ¬((0:Int)<((0:Nat):Int)):=by omega
    simp only[if_neg hz]
    cases h1:iK l[0].id 1 60 with
    |false=>simp only[mw];exact mM _ _ _ (by rw[gO (by rw[h1];simp)];exact⟨rfl,by first|rfl|trivial⟩)
    |true=>
     simp only[lC]
     by_cases h2:l[0].fr=0
     ·rw[if_pos h2];exact gN (by rw[h1,decide_eq_true h2];simp)
     ·rw[if_neg h2]
      by_cases h3:g6 (l.take 0) l[0].fr<0
      ·rw[if_pos h3];exact mM _ _ _ (by rw[gO (by rw[decide_eq_false h2,decide_eq_true h3];simp)];exact⟨rfl,by first|rfl|trivial⟩)
      ·rw[if_neg h3];exact gN (by rw[h1,decide_eq_false h3];simp)
   |succ k=>
    have hk:l[k]?=some l[k]:=List.getElem?_eq_getElem (by omega)
    have e:eu l (k+1)=(iK l[k+1].id 1 60&&(decide (l[k].id<l[k+1].id)&&(decide (l[k+1].fr=0)|| !decide (g6 (l.take (k+1)) l[k+1].fr<0)))):=by simp only[eu,Uu,gL,hk,ha]
    rw[e] at gO gN
    rw[dg (by omega),show((k+1:Nat):Int)-1=(k:Int) by omega]
    simp only[aL,hk,Option.some.injEq,exists_eq_left']
    rw[if_pos (by omega)]
    cases h1:iK l[k+1].id 1 60 with
    |false=>simp only[mw];exact mM _ _ _ (by rw[gO (by rw[h1];simp)];exact⟨rfl,by first|rfl|trivial⟩)
    |true=>
     simp only[lC]
     by_cases h4:l[k].id<l[k+1].id
     ·rw[if_neg (by omega)]
      by_cases h2:l[k+1].fr=0
      ·rw[if_pos h2];exact gN (by rw[h1,decide_eq_true h4,decide_eq_true h2];simp)
      ·rw[if_neg h2]
       by_cases h3:g6 (l.take (k+1)) l[k+1].fr<0
       ·rw[if_pos h3];exact mM _ _ _ (by rw[gO (by rw[decide_eq_false h2,decide_eq_true h3];simp)];exact⟨rfl,by first|rfl|trivial⟩)
       ·rw[if_neg h3];exact gN (by rw[h1,decide_eq_true h4,decide_eq_false h3];simp)
     ·rw[if_pos (by omega)];exact mM _ _ _ (by rw[gO (by rw[decide_eq_false h4];simp)];exact⟨rfl,by first|rfl|trivial⟩)
 exact key rfl
theorem Mz (l:List Age) (hl:l.length≤1073741824) (q:Bool):aa C dB [jo l] (vB q) []↔q=lY l:=q8 (H6 l hl)
@[simp] theorem C4 (b a q:Int):aa C u5 [vI b,vI a] (vI q) []↔q=gy b a:=VO ((M8 _ _ _ ⟨rfl,by first|rfl|trivial⟩).run)
@[simp] theorem C5 (b a k c g q:Int):aa C dG [.ag [iI b,iI a,iI k,iI c,iI g]] (vI q) []↔q=gy b a:=VO (by
  refine(NA _ _ _ _ _ _ ?_).run
  simp only[C4,exists_eq_left]
  simp)
@[simp] theorem wE (b a q:Int):aa C ql [vI b,vI a] (vI q) []↔q=gy b a:=VO ((MK _ _ _ ⟨rfl,by first|rfl|trivial⟩).run)
theorem F6 (t:Tree) (i:Nat) (n:List (List Key)) (hi:i<t.lows.length) (hl:c6 t≤1073741824) (hn:n.length≤1073741824) (hz:tot bH n≤1073741824):ah C bA aH 4 0 (gR i ((0:Nat):Int) (t.lows.map bL) (t.nodes.map aW) (n.map cc)) (fun u st=>aF C bA aH u st fun r fs=>r=vB (n.all (bU t.lows i))∧fs=[]):=by
 have hll:t.lows.length≤1073741824:=by unfold c6 at hl;omega
 have hlo:t.lows[i]?=some t.lows[i]:=List.getElem?_eq_getElem hi
 have key:(n.drop 0).all (bU t.lows i)=n.all (bU t.lows i)→ah C bA aH 4 0 (gR i ((0:Nat):Int) (t.lows.map bL) (t.nodes.map aW) (n.map cc)) (fun u st=>aF C bA aH u st fun r fs=>r=vB (n.all (bU t.lows i))∧fs=[]):=by
  refine bD n (fun k=>(n.drop k).all (bU t.lows i)=n.all (bU t.lows i)→ah C bA aH 4 0 (gR i k (t.lows.map bL) (t.nodes.map aW) (n.map cc)) (fun u st=>aF C bA aH u st fun r fs=>r=vB (n.all (bU t.lows i))∧fs=[])) ?_ ?_
  ·intro h0
   refine Ab _ _ _ _ _ _ (an (by simp) (Iv _ _ _ _ _ _ _ ?_))
   rw[List.drop_length] at h0
   simp only[List.all_nil] at h0
   rw[←h0]
   exact⟨rfl,by first|rfl|trivial⟩
  ·intro k s hk hs hd htk hnext h0
   have hsl:s.length≤tot bH n:=kk (w:=bH) hs
   rw[hd,List.all_cons] at h0
   refine Ab _ _ _ _ _ _ (ai (by simp;omega) ?_)
   have keyI:(s.drop 0).all (gj t.lows i)=s.all (gj t.lows i)→ah C bA kY 3 2 (jh i k ((0:Nat):Int) (t.lows.map bL) (t.nodes.map aW) (n.map cc)) (fun u st=>qJ C bA aH 4 0 DU u st (fun u st=>aF C bA aH u st fun r fs=>r=vB (n.all (bU t.lows i))∧fs=[])):=by
    refine bD s (fun j=>(s.drop j).all (gj t.lows i)=s.all (gj t.lows i)→ah C bA kY 3 2 (jh i k j (t.lows.map bL) (t.nodes.map aW) (n.map cc)) (fun u st=>qJ C bA aH 4 0 DU u st (fun u st=>aF C bA aH u st fun r fs=>r=vB (n.all (bU t.lows i))∧fs=[]))) ?_ ?_
    ·intro h1
     rw[List.drop_length] at h1
     simp only[List.all_nil] at h1
     refine Ac _ _ _ _ _ _ _ (⟨_,cP hs,an (by simp) (Ix _ _ _ _ _ _ _ _ ?_)⟩)
     rw[aJ (by omega)]
     exact hnext (by rw[←h0];unfold bU;rw[←h1];simp)
    ·intro j x hj hx hdj htj hn2 h1
     rw[hdj,List.all_cons] at h1
     have gO:gj t.lows i x=false→qJ C bA aH 4 0 DU TX.ret (pG (t.lows.map bL) (t.nodes.map aW) (n.map cc)) (fun u st=>aF C bA aH u st fun r fs=>r=vB (n.all (bU t.lows i))∧fs=[]):=fun e=>Iw _ _ _ _ (Iy _ _ _ _ (by
      have e2:bU t.lows i s=false:=by unfold bU;rw[←h1,e];rfl
      rw[←h0,e2];exact⟨rfl,by first|rfl|trivial⟩))
     have gN:gj t.lows i x=true→ah C bA kY 3 2 (jh i k ((j:Int)+1) (t.lows.map bL) (t.nodes.map aW) (n.map cc)) (fun u st=>qJ C bA aH 4 0 DU u st (fun u st=>aF C bA aH u st fun r fs=>r=vB (n.all (bU t.lows i))∧fs=[])):=fun e=>hn2 (by rw[←h1,e];rfl)
     have e:gj t.lows i x=(!decide (gy x.b x.a<t.lows[i])&&(match t.lows[i+1]? with|some hi=>decide (gy x.b x.a<hi)|none=>true)):=by simp only[gj,Sk,hlo];rfl
     rw[e] at gO gN
     refine Ac _ _ _ _ _ _ _ (⟨_,cP hs,ai (by simp;omega) ⟨_,cP hs,?_⟩⟩)
     rw[aJ (a:=(i:Int)) (by omega),aJ (a:=(j:Int)) (by omega)]
     simp only[jS,rY,aL,hx,hlo,Option.some.injEq,exists_eq_left',C5,exists_eq_left,eE,fm,bF,List.length_map,Int.ofNat_eq_natCast]
     by_cases h2:gy x.b x.a<t.lows[i]
     ·rw[if_pos h2]
      exact gO (by rw[decide_eq_true h2];rfl)
     ·rw[if_neg h2]
      by_cases h3:i+1<t.lows.length
      ·have hhi:t.lows[i+1]?=some t.lows[i+1]:=List.getElem?_eq_getElem h3
       rw[if_pos (by omega),show((i:Int)+1)=((i+1:Nat):Int) by omega,aL,hhi]
       simp only[Option.some.injEq,exists_eq_left']
       rw[hhi] at gO gN
       by_cases h4:gy x.b x.a<t.lows[i+1]
       ·rw[if_neg (by omega)]
        exact gN (by rw[decide_eq_false h2];simp[h4])
       ·rw[if_pos (by omega)]
        exact gO (by simp[h4])
      ·rw[if_neg (by omega)]
       have hno:t.lows[i+1]?=none:=List.getElem?_eq_none (by omega)
       rw[hno] at gN
       exact gN (by rw[decide_eq_false h2];rfl)
   exact keyI rfl
 exact key rfl
theorem DM (t:Tree) (i:Nat) (n:List (List Key)) (hi:i<t.lows.length) (hl:c6 t≤1073741824) (hn:n.length≤1073741824) (hz:tot bH n≤1073741824):ah C bh ak 4 0 (iY i (n.map cc) (n.length:Int) ((0:Nat):Int) (t.lows.map bL) (t.nodes.map aW)) (fun u st=>aF C bh ak u st fun r fs=>r=vB (n.all (bU t.lows i))∧fs=[]):=by
 have hll:t.lows.length≤1073741824:=by unfold c6 at hl;omega
 have hlo:t.lows[i]?=some t.lows[i]:=List.getElem?_eq_getElem hi
 have key:(n.drop 0).all (bU t.lows i)=n.all (bU t.lows i)→ah C bh ak 4 0 (iY i (n.map cc) (n.length:Int) ((0:Nat):Int) (t.lows.map bL) (t.nodes.map aW)) (fun u st=>aF C bh ak u st fun r fs=>r=vB (n.all (bU t.lows i))∧fs=[]):=by
  refine bD n (fun k=>(n.drop k).all (bU t.lows i)=n.all (bU t.lows i)→ah C bh ak 4 0 (iY i (n.map cc) (n.length:Int) k (t.lows.map bL) (t.nodes.map aW)) (fun u st=>aF C bh ak u st fun r fs=>r=vB (n.all (bU t.lows i))∧fs=[])) ?_ ?_
  ·intro h0
   refine vR _ _ _ _ _ _ _ (an (by simp) (Fe _ _ _ _ _ _ _ _ ?_))
   rw[List.drop_length] at h0
   simp only[List.all_nil] at h0
   rw[←h0]
   exact⟨rfl,by first|rfl|trivial⟩
  ·intro k s hk hs hd htk hnext h0
   have hsl:s.length≤tot bH n:=kk (w:=bH) hs
   rw[hd,List.all_cons] at h0
   refine vR _ _ _ _ _ _ _ (ai (by simp;omega) ⟨_,cP hs,?_⟩)
   have keyI:(s.drop 0).all (gj t.lows i)=s.all (gj t.lows i)→ah C bh kX 3 2 (gG i (n.map cc) (n.length:Int) k (s.map bN) ((0:Nat):Int) (t.lows.map bL) (t.nodes.map aW)) (fun u st=>qJ C bh ak 4 0 tY u st (fun u st=>aF C bh ak u st fun r fs=>r=vB (n.all (bU t.lows i))∧fs=[])):=by
    refine bD s (fun j=>(s.drop j).all (gj t.lows i)=s.all (gj t.lows i)→ah C bh kX 3 2 (gG i (n.map cc) (n.length:Int) k (s.map bN) j (t.lows.map bL) (t.nodes.map aW)) (fun u st=>qJ C bh ak 4 0 tY u st (fun u st=>aF C bh ak u st fun r fs=>r=vB (n.all (bU t.lows i))∧fs=[]))) ?_ ?_
    ·intro h1
     rw[List.drop_length] at h1
     simp only[List.all_nil] at h1
     refine vT _ _ _ _ _ _ _ _ _ (an (by simp) (Fg _ _ _ _ _ _ _ _ _ _ _ ?_))
     rw[aJ (by omega)]
     exact hnext (by rw[←h0];unfold bU;rw[←h1];simp)
    ·intro j x hj hx hdj htj hn2 h1
     rw[hdj,List.all_cons] at h1
     have gO:gj t.lows i x=false→qJ C bh ak 4 0 tY TX.ret (nu (t.lows.map bL) (t.nodes.map aW) x.b x.a x.k x.c x.g) (fun u st=>aF C bh ak u st fun r fs=>r=vB (n.all (bU t.lows i))∧fs=[]):=fun e=>Ff _ _ _ _ _ _ _ _ (Fh _ _ _ _ _ _ _ _ (by
      have e2:bU t.lows i s=false:=by unfold bU;rw[←h1,e];rfl
      rw[←h0,e2];exact⟨rfl,by first|rfl|trivial⟩))
     have gN:gj t.lows i x=true→ah C bh kX 3 2 (gG i (n.map cc) (n.length:Int) k (s.map bN) ((j:Int)+1) (t.lows.map bL) (t.nodes.map aW)) (fun u st=>qJ C bh ak 4 0 tY u st (fun u st=>aF C bh ak u st fun r fs=>r=vB (n.all (bU t.lows i))∧fs=[])):=fun e=>hn2 (by rw[←h1,e];rfl)
     have e:gj t.lows i x=(!decide (gy x.b x.a<t.lows[i])&&(match t.lows[i+1]? with|some hi=>decide (gy x.b x.a<hi)|none=>true)):=by simp only[gj,Sk,hlo];rfl
     rw[e] at gO gN
     refine vT _ _ _ _ _ _ _ _ _ (ai (by simp;omega) ?_)
     rw[aJ (a:=(i:Int)) (by omega),aJ (a:=(j:Int)) (by omega)]
     simp only[jS,rY,aL,hx,hlo,Option.some.injEq,exists_eq_left',wE,exists_eq_left,eE,fm,bF,List.length_map,Int.ofNat_eq_natCast]
     by_cases h2:gy x.b x.a<t.lows[i]
     ·rw[if_pos h2]
      exact gO (by rw[decide_eq_true h2];rfl)
     ·rw[if_neg h2]
      by_cases h3:i+1<t.lows.length
      ·have hhi:t.lows[i+1]?=some t.lows[i+1]:=List.getElem?_eq_getElem h3
       rw[if_pos (by omega),show((i:Int)+1)=((i+1:Nat):Int) by omega,aL,hhi]
       simp only[Option.some.injEq,exists_eq_left']
       rw[hhi] at gO gN
       by_cases h4:gy x.b x.a<t.lows[i+1]
       ·rw[if_neg (by omega)]
        exact gN (by rw[decide_eq_false h2];simp[h4])
       ·rw[if_pos (by omega)]
        exact gO (by simp[h4])
      ·rw[if_neg (by omega)]
       have hno:t.lows[i+1]?=none:=List.getElem?_eq_none (by omega)
       rw[hno] at gN
       exact gN (by rw[decide_eq_false h2];rfl)
   exact keyI rfl
 exact key rfl
theorem H7 (t:Tree) (i:Nat) (n:List (List Key)) (ha:t.nodes[i]?=some n) (hlo:i<t.lows.length) (hl:c6 t≤1073741824):aa C bA [dn t,vI i] (vB (ff n&&((decide (i=0)|| !decide ((aR n).length=0))&&n.all (bU t.lows i)))) []:=by
 have hz:aQ n≤tot aQ t.nodes:=kk (w:=aQ) ha
 have e1:aQ n=n.length+tot bH n:=rfl
 have e2:c6 t=t.lows.length+(t.nodes.length+tot aQ t.nodes):=rfl
 have hnk:=cV n
 refine(MM _ _ _ _ ⟨_,cP (e:=aW) ha,_,r7 n (by omega) (by omega),?_⟩).run
 cases h1:ff n with
 |false=>exact ai rfl ⟨rfl,by first|rfl|trivial⟩
 |true=>
  refine an rfl ?_
  have hloop:=F6 t i n hlo hl (by omega) (by omega)
  have conv: ∀B:Bool,B=n.all (bU t.lows i)→ah C bA aH 4 0 (gR i 0 (t.lows.map bL) (t.nodes.map aW) (n.map cc)) (fun u st=>aF C bA aH u st fun r fs=>r=vB B∧fs=[]):=fun B hB=>by subst hB;exact hloop
  cases i with
  |zero=>exact an (by simp) (conv _ (by simp))
  |succ k=>
   refine ai (by first|(simp;done)|(simp;omega)) ⟨_,u6 n (by omega) (by omega),?_⟩
   by_cases h2:(aR n).length=0
   ·refine ai (by simp[h2]) ?_
    simp[h2]
   ·exact an (by simpa using h2) (conv _ (by simp[h2]))
theorem r9 (t:Tree) (hl:c6 t≤1073741824):aa C aq [dn t] (vB (ew t)) []:=by
 have e2:c6 t=t.lows.length+(t.nodes.length+tot aQ t.nodes):=rfl
 refine(MX _ _ _ ?_).run
 simp only[BV,exists_eq_left,List.length_map,Int.ofNat_eq_natCast,aP,bJ]
 unfold ew
 cases h1:iK (t.nodes.length:Int) 1 20 with
 |false=>exact an rfl ⟨rfl,by first|rfl|trivial⟩
 |true=>
  refine ai rfl ?_
  have hn1:1≤t.nodes.length:=by have:=of_decide_eq_true h1;omega
  by_cases h2:t.lows.length=t.nodes.length
  ·refine ai (by simp[h2]) ?_
   have h0:t.lows[0]?=some t.lows[0]:=List.getElem?_eq_getElem (by omega)
   have hz0:gX t.lows 0=some t.lows[0]:=by rw[show(0:Int)=((0:Nat):Int) from rfl,aL];exact h0
   simp only[rY,hz0,h0,Option.some.injEq,exists_eq_left',bF]
   by_cases h3:t.lows[0]=0
   ·rw[if_pos (by simpa using h3)]
    have hw:(true&&(decide (t.lows.length=t.nodes.length)&&((decide (t.lows[0]=0))&&(cN t.nodes.length (cR t)&&decide ((bu t).length≤60)))))=(cN t.nodes.length (cR t)&&decide ((bu t).length≤60)):=by simp[h2,h3]
    rw[hw]
    have key:((List.range' 0 (t.nodes.length-0)).all (cR t)&&decide ((bu t).length≤60))=(cN t.nodes.length (cR t)&&decide ((bu t).length≤60))→ah C aq aj 4 0 (ji ((0:Nat):Int) (t.lows.map bL) (t.nodes.map aW)) (fun u st=>aF C aq aj u st fun r fs=>r=vB (cN t.nodes.length (cR t)&&decide ((bu t).length≤60))∧fs=[]):=by
     refine nP t.nodes.length (fun i=>((List.range' i (t.nodes.length-i)).all (cR t)&&decide ((bu t).length≤60))=(cN t.nodes.length (cR t)&&decide ((bu t).length≤60))→ah C aq aj 4 0 (ji i (t.lows.map bL) (t.nodes.map aW)) _) ?_ ?_
     ·intro h0
      rw[Nat.sub_self] at h0
      simp only[List.range'_zero,List.all_nil,Bool.true_and] at h0
      refine Ak _ _ _ _ (an (by simp) (IV _ _ _ _ _ ⟨_,qB t hl,?_⟩))
      rw[←h0]
      simp[fm]
      omega
     ·intro i hi hn h0
      rw[jI hi,List.all_cons] at h0
      have ha:t.nodes[i]?=some t.nodes[i]:=List.getElem?_eq_getElem hi
      have hli:t.lows[i]?=some t.lows[i]:=List.getElem?_eq_getElem (by omega)
      have gO:cR t i=false→aF C aq aj TX.ret (mE (t.lows.map bL) (t.nodes.map aW)) (fun r fs=>r=vB (cN t.nodes.length (cR t)&&decide ((bu t).length≤60))∧fs=[]):=fun e=>IU _ _ _ (by rw[←h0,e];exact⟨rfl,by first|rfl|trivial⟩)
      have gN:cR t i=true→ah C aq aj 4 0 (ji ((i:Int)+1) (t.lows.map bL) (t.nodes.map aW)) (fun u st=>aF C aq aj u st fun r fs=>r=vB (cN t.nodes.length (cR t)&&decide ((bu t).length≤60))∧fs=[]):=fun e=>hn (by rw[←h0,e];rfl)
      have hh: ∀q,aa C bA [dn t,vI i] (vB q) []↔q=_:=fun q=>q8 (H7 t i t.nodes[i] ha (by omega) hl)
      refine Ak _ _ _ _ (ai (by simp;omega) ?_)
      rw[aJ (by omega)]
      simp only[hh,exists_eq_left,eE,fm,bF,bJ]
      cases i with
      |zero=>
       have e:cR t 0=(ff t.nodes[0]&&((decide (0=0)|| !decide ((aR t.nodes[0]).length=0))&&t.nodes[0].all (bU t.lows 0))):=by simp only[cR,gL,ha,Bool.true_and]
       rw[e] at gO gN
       rw[if_neg (by omega)]
       exact nN gN gO
      |succ k=>
       have hk:t.lows[k]?=some t.lows[k]:=List.getElem?_eq_getElem (by omega)
       have e:cR t (k+1)=(decide (t.lows[k]<t.lows[k+1])&&(ff t.nodes[k+1]&&((decide (k+1=0)|| !decide ((aR t.nodes[k+1]).length=0))&&t.nodes[k+1].all (bU t.lows (k+1))))):=by simp only[cR,gL,ha,hk,hli]
       rw[e] at gO gN
       rw[if_pos (by omega),dg (by omega),show((k+1:Nat):Int)-1=(k:Int) by omega]
       simp only[rY,aL,hk,hli,Option.some.injEq,exists_eq_left']
       by_cases h4:t.lows[k]<t.lows[k+1]
       ·rw[if_neg (by omega)]
        rw[decide_eq_true h4,Bool.true_and] at gO gN
        exact nN gN gO
       ·rw[if_pos (by omega)]
        exact gO (by rw[decide_eq_false h4];rfl)
    exact key rfl
   ·rw[if_neg (by simpa using h3)]
    simp[h3]
  ·refine an (by simp;omega) ?_
   simp[h2]
theorem EW (t:Tree) (i:Nat) (n:List (List Key)) (ha:t.nodes[i]?=some n) (hlo:i<t.lows.length) (hl:c6 t≤1073741824):aa C bh [dn t,vI i] (vB (n.all (bU t.lows i))) []:=by
 have hz:aQ n≤tot aQ t.nodes:=kk (w:=aQ) ha
 have e1:aQ n=n.length+tot bH n:=rfl
 have e2:c6 t=t.lows.length+(t.nodes.length+tot aQ t.nodes):=rfl
 refine(I0 _ _ _ _ ⟨_,cP (e:=aW) ha,?_⟩).run
 simp only[List.length_map,Int.ofNat_eq_natCast]
 exact DM t i n hlo hl (by omega) (by omega)
theorem sg (t:Tree) (hl:c6 t≤1073741824):aa C bI [dn t] (vB (ew t)) []:=by
 have e2:c6 t=t.lows.length+(t.nodes.length+tot aQ t.nodes):=rfl
 refine(MI _ _ _ ?_).run
 simp only[rQ,exists_eq_left,List.length_map,Int.ofNat_eq_natCast,aP,bJ]
 unfold ew
 cases h1:iK (t.nodes.length:Int) 1 20 with
 |false=>exact an rfl ⟨rfl,by first|rfl|trivial⟩
 |true=>
  refine ai rfl ?_
  have hn1:1≤t.nodes.length:=by have:=of_decide_eq_true h1;omega
  by_cases h2:t.lows.length=t.nodes.length
  ·refine ai (by simp[h2]) ?_
   have h0:t.lows[0]?=some t.lows[0]:=List.getElem?_eq_getElem (by omega)
   have hz0:gX t.lows 0=some t.lows[0]:=by rw[show(0:Int)=((0:Nat):Int) from rfl,aL];exact h0
   simp only[rY,hz0,h0,Option.some.injEq,exists_eq_left',bF]
   by_cases h3:t.lows[0]=0
   ·rw[if_pos (by simpa using h3)]
    have hw:(true&&(decide (t.lows.length=t.nodes.length)&&((decide (t.lows[0]=0))&&(cN t.nodes.length (cR t)&&decide ((bu t).length≤60)))))=(cN t.nodes.length (cR t)&&decide ((bu t).length≤60)):=by simp[h2,h3]
    rw[hw]
    have key: ∀c:Nat,c+((t.nodes.drop 0).flatMap aR).length=(bu t).length→((List.range' 0 (t.nodes.length-0)).all (cR t)&&decide ((bu t).length≤60))=(cN t.nodes.length (cR t)&&decide ((bu t).length≤60))→ah C bI aH 4 0 (fR c (t.nodes.map aW) ((0:Nat):Int) (t.lows.map bL)) (fun u st=>aF C bI aH u st fun r fs=>r=vB (cN t.nodes.length (cR t)&&decide ((bu t).length≤60))∧fs=[]):=by
     refine nP t.nodes.length (fun i=> ∀c:Nat,c+((t.nodes.drop i).flatMap aR).length=(bu t).length→((List.range' i (t.nodes.length-i)).all (cR t)&&decide ((bu t).length≤60))=(cN t.nodes.length (cR t)&&decide ((bu t).length≤60))→ah C bI aH 4 0 (fR c (t.nodes.map aW) i (t.lows.map bL)) _) ?_ ?_
     ·intro c hc h0
      rw[Nat.sub_self] at h0
      simp only[List.range'_zero,List.all_nil,Bool.true_and] at h0
      rw[List.drop_length] at hc
      simp at hc
      refine Aa _ _ _ _ _ (an (by simp) (Iu _ _ _ _ _ _ _ ?_))
      rw[←h0]
      simp[fm]
      omega
     ·intro i hi hn c hc h0
      rw[jI hi,List.all_cons] at h0
      have ha:t.nodes[i]?=some t.nodes[i]:=List.getElem?_eq_getElem hi
      have hli:t.lows[i]?=some t.lows[i]:=List.getElem?_eq_getElem (by omega)
      rw[List.drop_eq_getElem_cons hi,List.flatMap_cons,List.length_append] at hc
      have hz:aQ t.nodes[i]≤tot aQ t.nodes:=kk (w:=aQ) ha
      have e1:aQ t.nodes[i]=t.nodes[i].length+tot bH t.nodes[i]:=rfl
      have hnk:=cV t.nodes[i]
      have htk:=ko t
      have gO1:cR t i=false→aF C bI aH TX.ret (jg (t.lows.map bL) (t.nodes.map aW) (t.nodes[i].map cc)) (fun r fs=>r=vB (cN t.nodes.length (cR t)&&decide ((bu t).length≤60))∧fs=[]):=fun e=>Ir _ _ _ _ (by rw[←h0,e];exact⟨rfl,by first|rfl|trivial⟩)
      have gO2:cR t i=false→aF C bI aH TX.ret (pF (t.lows.map bL) (t.nodes.map aW) (t.nodes[i].map cc) ((aR t.nodes[i]).map bN)) (fun r fs=>r=vB (cN t.nodes.length (cR t)&&decide ((bu t).length≤60))∧fs=[]):=fun e=>Is _ _ _ _ _ (by rw[←h0,e];exact⟨rfl,by first|rfl|trivial⟩)
      have gN:cR t i=true→ah C bI aH 4 0 (fR ((c:Int)+((aR t.nodes[i]).length:Int)) (t.nodes.map aW) ((i:Int)+1) (t.lows.map bL)) (fun u st=>aF C bI aH u st fun r fs=>r=vB (cN t.nodes.length (cR t)&&decide ((bu t).length≤60))∧fs=[]):=fun e=>hn (c+(aR t.nodes[i]).length) (by omega) (by rw[←h0,e];rfl)
      have hb: ∀q,aa C bh [dn t,vI i] (vB q) []↔q=_:=fun q=>q8 (EW t i t.nodes[i] ha (by omega) hl)
      have hk: ∀q,aa C cn [fW t.nodes[i]] (.c (.sub 5 q)) []↔q=(aR t.nodes[i]).map bN:=fun q=>je t.nodes[i] (by omega) (by omega) q
      have ho: ∀q,aa C bn [fW t.nodes[i]] (vB q) []↔q=ff t.nodes[i]:=fun q=>My t.nodes[i] (by omega) (by omega) q
      refine Aa _ _ _ _ _ (ai (by simp;omega) ?_)
      simp only[qv,aL,ha,Option.some.injEq,exists_eq_left',hb,hk,ho,exists_eq_left,eE,fm,aP,bF,bJ,List.length_map,Int.ofNat_eq_natCast]
      rw[aJ (a:=(c:Int)) (by omega),aJ (a:=(i:Int)) (by omega)]
      cases i with
      |zero=>
       have e:cR t 0=(ff t.nodes[0]&&((decide (0=0)|| !decide ((aR t.nodes[0]).length=0))&&t.nodes[0].all (bU t.lows 0))):=by simp only[cR,gL,ha,Bool.true_and]
       rw[e] at gO1 gN
       have hzz: ¬((0:Int)<((0:Nat):Int)):=by omega
       simp only[if_neg hzz]
       cases h4:ff t.nodes[0] with
       |false=>exact an rfl (gO1 (by rw[h4];rfl))
       |true=>
        refine ai rfl ?_
        cases h5:t.nodes[0].all (bU t.lows 0) with
        |false=>exact an rfl (gO1 (by rw[h4,h5];simp))
        |true=>exact ai rfl (gN (by rw[h4,h5];simp))
      |succ k=>
       have hk1:t.lows[k]?=some t.lows[k]:=List.getElem?_eq_getElem (by omega)
       have e:cR t (k+1)=(decide (t.lows[k]<t.lows[k+1])&&(ff t.nodes[k+1]&&((decide (k+1=0)|| !decide ((aR t.nodes[k+1]).length=0))&&t.nodes[k+1].all (bU t.lows (k+1))))):=by simp only[cR,gL,ha,hk1,hli]
       rw[e] at gO1 gO2 gN
       have hzz:(0:Int)<((k+1:Nat):Int):=by omega
       simp only[if_pos hzz]
       rw[dg (by omega),show((k+1:Nat):Int)-1=(k:Int) by omega]
       simp only[rY,aL,hk1,hli,Option.some.injEq,exists_eq_left']
       by_cases h6:t.lows[k]<t.lows[k+1]
       ·rw[if_neg (by omega)]
        cases h4:ff t.nodes[k+1] with
        |false=>exact an rfl (gO1 (by rw[h4];simp))
        |true=>
         refine ai rfl ?_
         cases h5:t.nodes[k+1].all (bU t.lows (k+1)) with
         |false=>exact an rfl (gO1 (by rw[h4,h5];simp))
         |true=>
          refine ai rfl ?_
          by_cases h7:(aR t.nodes[k+1]).length=0
          ·rw[if_pos (by omega)];exact gO2 (by rw[h4,h5];simp[h7])
          ·rw[if_neg (by omega)];exact gN (by rw[h4,h5,decide_eq_true h6];simp[h7])
       ·rw[if_pos (by omega)]
        exact gO1 (by rw[decide_eq_false h6];rfl)
    exact key 0 (by simp[bu]) rfl
   ·rw[if_neg (by simpa using h3)]
    simp[h3]
  ·refine an (by simp;omega) ?_
   simp[h2]
theorem F7 (p:Pool) (hS:cq p≤4194304):aa C bw [fX p] (vB (gz p)) []:=by
 have hP:=g7 hS
 have hname: ∀v∈p.vols,v.name.size≤140737488355328:=fun v hv=>by have:=m6 (w:=oW) hv;have e:oW v=v.name.size:=rfl;omega
 refine(Lq _ _ _ _ _ _ _ ?_).run
 unfold gz
 have key:((List.range' 0 (p.vols.length-0)).all (bZ p)&&decide (p.vols.length≤6))=(cN p.vols.length (bZ p)&&decide (p.vols.length≤6))→ah C bw ak 4 0 (jC ((0:Nat):Int) (p.t.lows.map bL) (p.t.nodes.map aW) (p.ages.map dM) (p.cells.map cK) (p.vols.map dx) p.next) (fun u st=>aF C bw ak u st fun r fs=>r=vB (cN p.vols.length (bZ p)&&decide (p.vols.length≤6))∧fs=[]):=by
  refine nP p.vols.length (fun i=>((List.range' i (p.vols.length-i)).all (bZ p)&&decide (p.vols.length≤6))=(cN p.vols.length (bZ p)&&decide (p.vols.length≤6))→ah C bw ak 4 0 (jC i (p.t.lows.map bL) (p.t.nodes.map aW) (p.ages.map dM) (p.cells.map cK) (p.vols.map dx) p.next) (fun u st=>aF C bw ak u st fun r fs=>r=vB (cN p.vols.length (bZ p)&&decide (p.vols.length≤6))∧fs=[])) ?_ ?_
  ·intro h0
   rw[Nat.sub_self] at h0
   simp only[List.range'_zero,List.all_nil,Bool.true_and] at h0
   refine xC _ _ _ _ _ _ _ _ (an (by simp) (Gt _ _ _ _ _ _ _ _ _ ?_))
   rw[←h0]
   simp[fm]
   omega
  ·intro i hi hn h0
   rw[jI hi,List.all_cons] at h0
   have ha:p.vols[i]?=some p.vols[i]:=List.getElem?_eq_getElem hi
   have hv:=hname p.vols[i] (List.getElem_mem hi)
   have hkl:=KZ p.ages p.vols[i].age
   have gO1:bZ p i=false→aF C bw ak TX.ret (jD (p.t.lows.map bL) (p.t.nodes.map aW) (p.ages.map dM) (p.cells.map cK) (p.vols.map dx) p.next p.vols[i].name p.vols[i].age p.vols[i].size p.vols[i].fx) (fun r fs=>r=vB (cN p.vols.length (bZ p)&&decide (p.vols.length≤6))∧fs=[]):=fun e=>Gr _ _ _ _ _ _ _ _ _ _ _ (by rw[←h0,e];exact⟨rfl,by first|rfl|trivial⟩)
   have gO2:bZ p i=false→aF C bw ak TX.ret (ou (p.t.lows.map bL) (p.t.nodes.map aW) (p.ages.map dM) (p.cells.map cK) (p.vols.map dx) p.next p.vols[i].name p.vols[i].age p.vols[i].size p.vols[i].fx ((jq p.ages p.vols[i].age).map bL)) (fun r fs=>r=vB (cN p.vols.length (bZ p)&&decide (p.vols.length≤6))∧fs=[]):=fun e=>Gs _ _ _ _ _ _ _ _ _ _ _ _ (by rw[←h0,e];exact⟨rfl,by first|rfl|trivial⟩)
   have gN:bZ p i=true→ah C bw ak 4 0 (jC ((i:Int)+1) (p.t.lows.map bL) (p.t.nodes.map aW) (p.ages.map dM) (p.cells.map cK) (p.vols.map dx) p.next) (fun u st=>aF C bw ak u st fun r fs=>r=vB (cN p.vols.length (bZ p)&&decide (p.vols.length≤6))∧fs=[]):=fun e=>hn (by rw[←h0,e];rfl)
   have hin: ∀b:Bool,((p.vols.take i).any fun u=>decide (u.age=p.vols[i].age))=b→(b=true→bZ p i=false)→(b=false→bZ p i=true)→ah C bw kW 3 2 (h9 i 0 (p.t.lows.map bL) (p.t.nodes.map aW) (p.ages.map dM) (p.cells.map cK) (p.vols.map dx) p.next p.vols[i].name p.vols[i].age p.vols[i].size p.vols[i].fx) (fun u st=>qJ C bw ak 4 0 tX u st (fun u st=>aF C bw ak u st fun r fs=>r=vB (cN p.vols.length (bZ p)&&decide (p.vols.length≤6))∧fs=[])):=by
    intro b hb hbt hbf
    have keyI:(((p.vols.take i).drop 0).any fun u=>decide (u.age=p.vols[i].age))=b→ah C bw kW 3 2 (h9 i ((0:Nat):Int) (p.t.lows.map bL) (p.t.nodes.map aW) (p.ages.map dM) (p.cells.map cK) (p.vols.map dx) p.next p.vols[i].name p.vols[i].age p.vols[i].size p.vols[i].fx) (fun u st=>qJ C bw ak 4 0 tX u st (fun u st=>aF C bw ak u st fun r fs=>r=vB (cN p.vols.length (bZ p)&&decide (p.vols.length≤6))∧fs=[])):=by
     have hle:(p.vols.take i).length=i:=by simp;omega
     refine bD (p.vols.take i) (fun k=>(((p.vols.take i).drop k).any fun u=>decide (u.age=p.vols[i].age))=b→ah C bw kW 3 2 (h9 i k (p.t.lows.map bL) (p.t.nodes.map aW) (p.ages.map dM) (p.cells.map cK) (p.vols.map dx) p.next p.vols[i].name p.vols[i].age p.vols[i].size p.vols[i].fx) (fun u st=>qJ C bw ak 4 0 tX u st (fun u st=>aF C bw ak u st fun r fs=>r=vB (cN p.vols.length (bZ p)&&decide (p.vols.length≤6))∧fs=[]))) ?_ ?_
     ·intro h1
      rw[List.drop_length] at h1
      simp only[List.any_nil] at h1
      refine xD _ _ _ _ _ _ _ _ _ _ _ _ _ (an (by simp;omega) (Gv _ _ _ _ _ _ _ _ _ _ _ _ _ ?_))
      rw[aJ (by omega)]
      exact gN (hbf h1.symm)
     ·intro k u hk hu hd htk hn2 h1
      have hu':p.vols[k]?=some u:=by rw[←hu,List.getElem?_take];simp;omega
      rw[hd,List.any_cons] at h1
      refine xD _ _ _ _ _ _ _ _ _ _ _ _ _ (ai (by simp;omega) ?_)
      rw[aJ (by omega)]
      simp only[Bt,aL,hu',Option.some.injEq,exists_eq_left',aP,bF]
      by_cases h2:u.age=p.vols[i].age
      ·rw[if_pos h2]
       rw[decide_eq_true h2,Bool.true_or] at h1
       exact Gu _ _ _ _ _ _ _ _ _ _ _ (gO1 (hbt h1.symm))
      ·rw[if_neg h2]
       rw[decide_eq_false h2,Bool.false_or] at h1
       exact hn2 h1
    exact keyI hb
   have hage: ∀z,aa C dJ [jo p.ages,vI p.vols[i].age] (vI z) []↔z=g6 p.ages p.vols[i].age:=fun z=>yD p.ages p.vols[i].age (by omega) z
   have hkid: ∀z,aa C eT [jo p.ages,vI p.vols[i].age] (.c (.sub 1 z)) []↔z=(jq p.ages p.vols[i].age).map bL:=fun z=>QZ (HT p.ages p.vols[i].age (by omega))
   refine xC _ _ _ _ _ _ _ _ (ai (by simp;omega) ?_)
   simp only[Bt,aL,ha,Option.some.injEq,exists_eq_left',C2 p.vols[i].name hv,BV,hage,hkid,exists_eq_left,bJ,eE,bF,List.length_map,Int.ofNat_eq_natCast]
   cases h1:q9 p.vols[i].name with
   |false=>exact an rfl (gO1 (by simp[bZ,ha,h1]))
   |true=>
    refine ai rfl ?_
    cases h2:iK p.vols[i].size 1 12 with
    |false=>exact an rfl (gO1 (by simp[bZ,ha,h2]))
    |true=>
     refine ai rfl ?_
     by_cases h3:g6 p.ages p.vols[i].age<0
     ·rw[if_pos h3];exact gO1 (by simp[bZ,ha,h3])
     ·rw[if_neg h3]
      by_cases h4:(jq p.ages p.vols[i].age).length=0
      ·rw[if_neg (by omega)]
       cases i with
       |zero=>
        rw[if_neg (by omega)]
        exact hin _ rfl (fun e=>by simp at e) (fun e=>by simp[bZ,ha,h1,h2,h3,h4,gL])
       |succ k=>
        have hk:p.vols[k]?=some p.vols[k]:=List.getElem?_eq_getElem (by omega)
        rw[if_pos (by omega),dg (by omega),show((k+1:Nat):Int)-1=(k:Int) by omega]
        simp only[aL,hk,Option.some.injEq,exists_eq_left']
        cases h5:Ma p.vols[k].name p.vols[k+1].name with
        |false=>exact an rfl (gO2 (by simp[bZ,ha,hk,gL,h5]))
        |true=>exact ai rfl (hin _ rfl (fun e=>by simp only[bZ,ha,e];simp) (fun e=>by simp only[bZ,ha,hk,gL,h5,h1,h2,e];simp[h3,h4]))
      ·rw[if_pos (by omega)];exact gO2 (by simp[bZ,ha,h4])
 exact key rfl
theorem H8 (p:Pool) (hS:cq p≤4194304):aa C dD [fX p] (vB (gz p)) []:=by
 have hP:=g7 hS
 have hname: ∀v∈p.vols,v.name.size≤140737488355328:=fun v hv=>by have:=m6 (w:=oW) hv;have e:oW v=v.name.size:=rfl;omega
 refine(Nz _ _ _ _ _ _ _ ?_).run
 unfold gz
 have key:((List.range' 0 (p.vols.length-0)).all (bZ p)&&decide (p.vols.length≤6))=(cN p.vols.length (bZ p)&&decide (p.vols.length≤6))→ah C dD ak 4 0 (jn (p.vols.map dx) ((0:Nat):Int) (p.t.lows.map bL) (p.t.nodes.map aW) (p.ages.map dM) (p.cells.map cK) p.next) (fun u st=>aF C dD ak u st fun r fs=>r=vB (cN p.vols.length (bZ p)&&decide (p.vols.length≤6))∧fs=[]):=by
  refine nP p.vols.length (fun i=>((List.range' i (p.vols.length-i)).all (bZ p)&&decide (p.vols.length≤6))=(cN p.vols.length (bZ p)&&decide (p.vols.length≤6))→ah C dD ak 4 0 (jn (p.vols.map dx) i (p.t.lows.map bL) (p.t.nodes.map aW) (p.ages.map dM) (p.cells.map cK) p.next) (fun u st=>aF C dD ak u st fun r fs=>r=vB (cN p.vols.length (bZ p)&&decide (p.vols.length≤6))∧fs=[])) ?_ ?_
  ·intro h0
   rw[Nat.sub_self] at h0
   simp only[List.range'_zero,List.all_nil,Bool.true_and] at h0
   refine AL _ _ _ _ _ _ _ _ (an (by simp) (JH _ _ _ _ _ _ _ _ _ _ ?_))
   rw[←h0]
   simp[fm]
   omega
  ·intro i hi hn h0
   rw[jI hi,List.all_cons] at h0
   have ha:p.vols[i]?=some p.vols[i]:=List.getElem?_eq_getElem hi
   have hv:=hname p.vols[i] (List.getElem_mem hi)
   have hkl:=KZ p.ages p.vols[i].age
   have gO1:bZ p i=false→aF C dD ak TX.ret (gV (p.t.lows.map bL) (p.t.nodes.map aW) (p.ages.map dM) (p.cells.map cK) (p.vols.map dx) p.next p.vols[i].name p.vols[i].age p.vols[i].size p.vols[i].fx) (fun r fs=>r=vB (cN p.vols.length (bZ p)&&decide (p.vols.length≤6))∧fs=[]):=fun e=>JF _ _ _ _ _ _ _ _ _ _ _ (by rw[←h0,e];exact⟨rfl,by first|rfl|trivial⟩)
   have gO2:bZ p i=false→aF C dD ak TX.ret (j5 (p.t.lows.map bL) (p.t.nodes.map aW) (p.ages.map dM) (p.cells.map cK) (p.vols.map dx) p.next p.vols[i].name p.vols[i].age p.vols[i].size p.vols[i].fx ((jq p.ages p.vols[i].age).map bL)) (fun r fs=>r=vB (cN p.vols.length (bZ p)&&decide (p.vols.length≤6))∧fs=[]):=fun e=>JG _ _ _ _ _ _ _ _ _ _ _ _ (by rw[←h0,e];exact⟨rfl,by first|rfl|trivial⟩)
   have gN:bZ p i=true→ah C dD ak 4 0 (jn (p.vols.map dx) ((i:Int)+1) (p.t.lows.map bL) (p.t.nodes.map aW) (p.ages.map dM) (p.cells.map cK) p.next) (fun u st=>aF C dD ak u st fun r fs=>r=vB (cN p.vols.length (bZ p)&&decide (p.vols.length≤6))∧fs=[]):=fun e=>hn (by rw[←h0,e];rfl)
   have hage: ∀z,aa C jd [jo p.ages,vI p.vols[i].age] (vI z) []↔z=g6 p.ages p.vols[i].age:=fun z=>yE p.ages p.vols[i].age (by omega) z
   have hkid: ∀z,aa C eU [jo p.ages,vI p.vols[i].age] (.c (.sub 1 z)) []↔z=(jq p.ages p.vols[i].age).map bL:=fun z=>QZ (HW p.ages p.vols[i].age (by omega))
   have hcut:ax (p.vols.map dx) 0 (i:Int)=(p.vols.take i).map dx:=by rw[ct,Int.toNat_natCast];rfl
   have hcin:cD 0 (i:Int) (p.vols.length:Int)=true:=by simp;omega
   have hhas: ∀z,aa C gn [yK (p.vols.take i),.fn mT [[iS p.vols[i].name,iI p.vols[i].age,iI p.vols[i].size,iB p.vols[i].fx]]] (vB z) []↔z=(p.vols.take i).any fun u=>decide (u.age=p.vols[i].age):=fun z=>q8 (A4 (p.vols.take i) _ _ _ _ (by simp;omega))
   refine AL _ _ _ _ _ _ _ _ (ai (by simp;omega) ?_)
   simp only[hcut,Bt,aL,ha,Option.some.injEq,exists_eq_left',C3 p.vols[i].name hv,rQ,hage,hkid,hhas,exists_eq_left,bJ,eE,bF,List.length_map,Int.ofNat_eq_natCast]
   rw[aJ (by omega)]
   cases h1:q9 p.vols[i].name with
   |false=>exact an rfl (gO1 (by simp[bZ,ha,h1]))
   |true=>
    refine ai rfl ?_
    cases i with
    |zero=>
     rw[if_neg (by omega)]
     cases h2:iK p.vols[0].size 1 12 with
     |false=>exact an rfl (gO1 (by simp[bZ,ha,h2]))
     |true=>
      refine ai rfl ?_
      by_cases h3:g6 p.ages p.vols[0].age<0
      ·rw[if_pos h3];exact gO1 (by simp[bZ,ha,h3])
      ·rw[if_neg h3]
       by_cases h4:(jq p.ages p.vols[0].age).length=0
       ·rw[if_neg (by omega)]
        refine ai hcin ?_
        cases h6:(p.vols.take (0)).any fun u=>decide (u.age=p.vols[0].age) with
        |true=>exact ai rfl (gO2 (by simp only[bZ,ha,h6];simp))
        |false=>exact an rfl (gN (by simp only[bZ,ha,h6,h1,h2,gL];simp[h3,h4]))
       ·rw[if_pos (by omega)];exact gO2 (by simp[bZ,ha,h4])
    |succ k=>
     have hk:p.vols[k]?=some p.vols[k]:=List.getElem?_eq_getElem (by omega)
     rw[if_pos (by omega),dg (by omega),show((k+1:Nat):Int)-1=(k:Int) by omega]
     simp only[aL,hk,Option.some.injEq,exists_eq_left']
     cases h5:Ma p.vols[k].name p.vols[k+1].name with
     |false=>exact an rfl (gO1 (by simp[bZ,ha,hk,gL,h5]))
     |true=>
      refine ai rfl ?_
      cases h2:iK p.vols[k+1].size 1 12 with
      |false=>exact an rfl (gO1 (by simp[bZ,ha,h2]))
      |true=>
       refine ai rfl ?_
       by_cases h3:g6 p.ages p.vols[k+1].age<0
       ·rw[if_pos h3];exact gO1 (by simp[bZ,ha,h3])
       ·rw[if_neg h3]
        by_cases h4:(jq p.ages p.vols[k+1].age).length=0
        ·rw[if_neg (by omega)]
         refine ai hcin ?_
         cases h6:(p.vols.take (k+1)).any fun u=>decide (u.age=p.vols[k+1].age) with
         |true=>exact ai rfl (gO2 (by simp only[bZ,ha,h6];simp))
         |false=>exact an rfl (gN (by simp only[bZ,ha,h6,h1,h2,gL,hk,h5];simp[h3,h4]))
        ·rw[if_pos (by omega)];exact gO2 (by simp[bZ,ha,h4])
 exact key rfl
theorem V3:oM 24=24:=by unfold oM;rfl
theorem g24 {n:Nat} (h:n≤1000):(true&&cU 24 24&&nD 0 24&&fits (oM 24) n)=true:=by rw[V3,cY (by omega)];simp
theorem YP:(oe []).map Hr=List.replicate 24 [iB false]:=by rw[Q3];rfl
theorem F8 (p:Pool) (hS:cq p≤4194304):aa C bG [fX p] (vB (iw p)) []:=by
 have hP:=g7 hS
 have htl:=ko p.t
 refine(LI _ _ _ _ _ _ _ ?_).run
 refine⟨_,qB p.t (by omega),?_⟩
 unfold iw
 generalize bu p.t=L at*
 have hdk:cg L≤L.length:=List.length_filter_le _ _
 have key: ∀c:Nat,c+cg (L.drop 0)=cg L→((List.range' 0 (L.length-0)).all (cL p L)&&decide ((bQ p.cells:Int)=cg L))=(cN L.length (cL p L)&&decide ((bQ p.cells:Int)=cg L))→ah C bG aH 4 0 (ic (c:Int) ((0:Nat):Int) (p.t.lows.map bL) (p.t.nodes.map aW) (p.ages.map dM) (p.cells.map cK) (p.vols.map dx) p.next (L.map bN)) (fun u st=>aF C bG aH u st fun r fs=>r=vB (cN L.length (cL p L)&&decide ((bQ p.cells:Int)=cg L))∧fs=[]):=by
  refine nP L.length (fun i=> ∀c:Nat,c+cg (L.drop i)=cg L→((List.range' i (L.length-i)).all (cL p L)&&decide ((bQ p.cells:Int)=cg L))=(cN L.length (cL p L)&&decide ((bQ p.cells:Int)=cg L))→ah C bG aH 4 0 (ic (c:Int) i (p.t.lows.map bL) (p.t.nodes.map aW) (p.ages.map dM) (p.cells.map cK) (p.vols.map dx) p.next (L.map bN)) (fun u st=>aF C bG aH u st fun r fs=>r=vB (cN L.length (cL p L)&&decide ((bQ p.cells:Int)=cg L))∧fs=[])) ?_ ?_
  ·intro c hc h0
   rw[Nat.sub_self] at h0
   simp only[List.range'_zero,List.all_nil,Bool.true_and] at h0
   rw[List.drop_length] at hc
   have hc0:c=cg L:=by simpa [cg] using hc
   subst hc0
   refine xJ _ _ _ _ _ _ _ _ _ _ (an (by simp) (GI _ _ _ _ _ _ _ _ _ _ _ ⟨_,DI p.cells (by omega),?_⟩))
   rw[←h0]
   refine⟨?_,by first|rfl|trivial⟩
   simp[aP,eq_comm]
  ·intro i hi hn c hc h0
   rw[jI hi,List.all_cons] at h0
   have ha:L[i]?=some L[i]:=List.getElem?_eq_getElem hi
   rw[List.drop_eq_getElem_cons hi,CX] at hc
   have gO1:cL p L i=false→aF C bG aH TX.ret (lJ (p.t.lows.map bL) (p.t.nodes.map aW) (p.ages.map dM) (p.cells.map cK) (p.vols.map dx) p.next (L.map bN)) (fun r fs=>r=vB (cN L.length (cL p L)&&decide ((bQ p.cells:Int)=cg L))∧fs=[]):=fun e=>GH _ _ _ _ _ _ _ _ (by rw[←h0,e];exact⟨rfl,by first|rfl|trivial⟩)
   have gN: ∀c':Nat,c'+cg (L.drop (i+1))=cg L→cL p L i=true→ah C bG aH 4 0 (ic (c':Int) ((i:Int)+1) (p.t.lows.map bL) (p.t.nodes.map aW) (p.ages.map dM) (p.cells.map cK) (p.vols.map dx) p.next (L.map bN)) (fun u st=>aF C bG aH u st fun r fs=>r=vB (cN L.length (cL p L)&&decide ((bQ p.cells:Int)=cg L))∧fs=[]):=fun c' e' e=>hn c' e' (by rw[←h0,e];rfl)
   have hin: ∀b:Bool,((L.take i).any fun x=>decide (x.k=1)&&decide (x.c=L[i].c))=b→(b=true→cL p L i=false)→(b=false→cL p L i=true)→L[i].k=1→ah C bG gf 3 2 (ie c i 0 (p.t.lows.map bL) (p.t.nodes.map aW) (p.ages.map dM) (p.cells.map cK) (p.vols.map dx) p.next (L.map bN)) (fun u st=>qJ C bG aH 4 0 qn u st (fun u st=>aF C bG aH u st fun r fs=>r=vB (cN L.length (cL p L)&&decide ((bQ p.cells:Int)=cg L))∧fs=[])):=by
    intro b hb hbt hbf hk1
    rw[if_pos hk1] at hc
    have keyI:(((L.take i).drop 0).any fun x=>decide (x.k=1)&&decide (x.c=L[i].c))=b→ah C bG gf 3 2 (ie c i ((0:Nat):Int) (p.t.lows.map bL) (p.t.nodes.map aW) (p.ages.map dM) (p.cells.map cK) (p.vols.map dx) p.next (L.map bN)) (fun u st=>qJ C bG aH 4 0 qn u st (fun u st=>aF C bG aH u st fun r fs=>r=vB (cN L.length (cL p L)&&decide ((bQ p.cells:Int)=cg L))∧fs=[])):=by
     have hle:(L.take i).length=i:=by simp;omega
     refine bD (L.take i) (fun k=>(((L.take i).drop k).any fun x=>decide (x.k=1)&&decide (x.c=L[i].c))=b→ah C bG gf 3 2 (ie c i k (p.t.lows.map bL) (p.t.nodes.map aW) (p.ages.map dM) (p.cells.map cK) (p.vols.map dx) p.next (L.map bN)) (fun u st=>qJ C bG aH 4 0 qn u st (fun u st=>aF C bG aH u st fun r fs=>r=vB (cN L.length (cL p L)&&decide ((bQ p.cells:Int)=cg L))∧fs=[]))) ?_ ?_
     ·intro h1
      rw[List.drop_length] at h1
      simp only[List.any_nil] at h1
      refine xK _ _ _ _ _ _ _ _ _ _ _ (an (by simp;omega) (GK _ _ _ _ _ _ _ _ _ _ _ ?_))
      rw[aJ (by omega),aJ (by omega)]
      exact gN (c+1) (by omega) (hbf h1.symm)
     ·intro k u hk hu hd htk hn2 h1
      have hu':L[k]?=some u:=by rw[←hu,List.getElem?_take];simp;omega
      rw[hd,List.any_cons] at h1
      refine xK _ _ _ _ _ _ _ _ _ _ _ (ai (by simp;omega) ?_)
      rw[aJ (by omega)]
      simp only[jS,aL,hu',ha,Option.some.injEq,exists_eq_left',aP,bF]
      by_cases h3:u.k=1
      ·rw[if_pos h3]
       by_cases h2:u.c=L[i].c
       ·rw[if_pos h2]
        rw[decide_eq_true h3,decide_eq_true h2,Bool.and_self,Bool.true_or] at h1
        exact GJ _ _ _ _ _ _ _ _ (gO1 (hbt h1.symm))
       ·rw[if_neg h2]
        rw[decide_eq_false h2,Bool.and_false,Bool.false_or] at h1
        exact hn2 h1
      ·rw[if_neg h3]
       rw[decide_eq_false h3,Bool.false_and,Bool.false_or] at h1
       exact hn2 h1
    exact keyI hb
   have hage: ∀z,aa C dJ [jo p.ages,vI L[i].a] (vI z) []↔z=g6 p.ages L[i].a:=fun z=>yD p.ages L[i].a (by omega) z
   have hcell: ∀n b,aa C rN [gY p.cells,vI L[i].c,vI L[i].g] (.tu [(0,[iI n]),(0,[iB b])]) []↔n=(cellAt p.cells L[i].c L[i].g).1∧b=(cellAt p.cells L[i].c L[i].g).2:=fun n b=>Mt p.cells (by omega) _ _ n b
   refine xJ _ _ _ _ _ _ _ _ _ _ (ai (by simp;omega) ?_)
   simp only[jS,aL,ha,Option.some.injEq,exists_eq_left',hage,hcell,and_assoc,exists_and_left,exists_eq_left,eE,aP,bJ,bF]
   rw[aJ (a:=(i:Int)) (by omega)]
   by_cases h1:g6 p.ages L[i].a<0
   ·rw[if_pos h1];exact gO1 (by simp[cL,ha,h1])
   ·rw[if_neg h1]
    by_cases h2:L[i].k=1
    ·rw[if_pos h2]
     cases h3:(cellAt p.cells L[i].c L[i].g).2 with
     |false=>exact an rfl (gO1 (by simp[cL,ha,h2,h3]))
     |true=>
      refine ai rfl ?_
      exact hin _ rfl (fun e=>by simp only[cL,ha,e,h2];simp) (fun e=>by simp only[cL,ha,e,h2,h3];simp[h1]) h2
    ·rw[if_neg h2]
     rw[if_neg h2] at hc
     exact gN c (by omega) (by simp[cL,ha,h1,h2])
 exact key 0 (by simp) rfl
theorem F9 (p:Pool) (hS:cq p≤4194304) (h24:p.cells.length=24):aa C dF [fX p] (vB (iw p)) []:=by
 have hP:=g7 hS
 have htl:=ko p.t
 refine(Lr _ _ _ _ _ _ _ ?_).run
 refine ai (g24 (by omega)) ⟨_,u7 p.t (by omega),?_⟩
 unfold iw
 generalize bu p.t=L at*
 have hdk:cg L≤L.length:=List.length_filter_le _ _
 have key: ∀c:Nat,c+cg (L.drop 0)=cg L→((List.range' 0 (L.length-0)).all (cL p L)&&decide ((bQ p.cells:Int)=cg L))=(cN L.length (cL p L)&&decide ((bQ p.cells:Int)=cg L))→ah C dF aH 4 0 (ia (c:Int) (L.map bN) ((0:Nat):Int) (p.t.lows.map bL) (p.t.nodes.map aW) (p.ages.map dM) (p.cells.map cK) (p.vols.map dx) p.next ((oe (L.take 0)).map Hr)) (fun u st=>aF C dF aH u st fun r fs=>r=vB (cN L.length (cL p L)&&decide ((bQ p.cells:Int)=cg L))∧fs=[]):=by
  refine nP L.length (fun i=> ∀c:Nat,c+cg (L.drop i)=cg L→((List.range' i (L.length-i)).all (cL p L)&&decide ((bQ p.cells:Int)=cg L))=(cN L.length (cL p L)&&decide ((bQ p.cells:Int)=cg L))→ah C dF aH 4 0 (ia (c:Int) (L.map bN) i (p.t.lows.map bL) (p.t.nodes.map aW) (p.ages.map dM) (p.cells.map cK) (p.vols.map dx) p.next ((oe (L.take i)).map Hr)) (fun u st=>aF C dF aH u st fun r fs=>r=vB (cN L.length (cL p L)&&decide ((bQ p.cells:Int)=cg L))∧fs=[])) ?_ ?_
  ·intro c hc h0
   rw[Nat.sub_self] at h0
   simp only[List.range'_zero,List.all_nil,Bool.true_and] at h0
   rw[List.drop_length] at hc
   have hc0:c=cg L:=by simpa [cg] using hc
   subst hc0
   refine xE _ _ _ _ _ _ _ _ _ _ _ (an (by simp) (Gx _ _ _ _ _ _ _ _ _ _ _ _ _ ⟨_,DJ p.cells (by omega),?_⟩))
   rw[←h0]
   refine⟨?_,by first|rfl|trivial⟩
   simp[aP,eq_comm]
  ·intro i hi hn c hc h0
   rw[jI hi,List.all_cons] at h0
   have ha:L[i]?=some L[i]:=List.getElem?_eq_getElem hi
   rw[List.drop_eq_getElem_cons hi,CX] at hc
   have gO1: ∀u,cL p L i=false→aF C dF aH TX.ret (lF (p.t.lows.map bL) (p.t.nodes.map aW) (p.ages.map dM) (p.cells.map cK) (p.vols.map dx) p.next L[i].b L[i].a L[i].k L[i].c L[i].g u (L.map bN)) (fun r fs=>r=vB (cN L.length (cL p L)&&decide ((bQ p.cells:Int)=cg L))∧fs=[]):=fun u e=>Gw _ _ _ _ _ _ _ _ _ _ _ _ _ _ (by rw[←h0,e];exact⟨rfl,by first|rfl|trivial⟩)
   have ht1:L.take (i+1)=L.take i++[L[i]]:=by rw[List.take_add_one,ha];rfl
   have gN: ∀c':Nat,c'+cg (L.drop (i+1))=cg L→cL p L i=true→ah C dF aH 4 0 (ia (c':Int) (L.map bN) ((i:Int)+1) (p.t.lows.map bL) (p.t.nodes.map aW) (p.ages.map dM) (p.cells.map cK) (p.vols.map dx) p.next ((oe (L.take (i+1))).map Hr)) (fun u st=>aF C dF aH u st fun r fs=>r=vB (cN L.length (cL p L)&&decide ((bQ p.cells:Int)=cg L))∧fs=[]):=fun c' e' e=>hn c' e' (by rw[←h0,e];rfl)
   have hage: ∀z,aa C jd [jo p.ages,vI L[i].a] (vI z) []↔z=g6 p.ages L[i].a:=fun z=>yE p.ages L[i].a (by omega) z
   have hcell: ∀n b,aa C rO [gY p.cells,vI L[i].c,vI L[i].g] (.tu [(0,[iI n]),(0,[iB b])]) []↔n=(cellAt p.cells L[i].c L[i].g).1∧b=(cellAt p.cells L[i].c L[i].g).2:=fun n b=>Mv p.cells (by omega) _ _ n b
   refine xE _ _ _ _ _ _ _ _ _ _ _ (ai (by simp;omega) ?_)
   simp only[jS,aL,ha,Option.some.injEq,exists_eq_left',hage,hcell,and_assoc,exists_and_left,exists_eq_left,eE,aP,bJ,bF]
   rw[aJ (a:=(i:Int)) (by omega)]
   by_cases h1:g6 p.ages L[i].a<0
   ·rw[if_pos h1];exact gO1 _ (by simp[cL,ha,h1])
   ·rw[if_neg h1]
    by_cases h2:L[i].k=1
    ·rw[if_pos h2]
     cases h3:(cellAt p.cells L[i].c L[i].g).2 with
     |false=>exact an rfl (gO1 _ (by simp[cL,ha,h2,h3]))
     |true=>
      refine ai rfl ?_
      have hci:=T3 h3
      rw[h24] at hci
      simp only[W5,Q4 (L.take i) hci,Option.some.injEq,exists_eq_left',exists_eq_left,W6]
      cases h4:(L.take i).any fun x=>decide (x.k=1)&&decide (x.c=L[i].c) with
      |true=>exact ai rfl (gO1 _ (by simp only[cL,ha,h4,h2];simp))
      |false=>
       refine an rfl ?_
       rw[Q5 (L.take i) L[i] h2 hci,←ht1,aJ (a:=(c:Int)) (by omega)]
       rw[if_pos h2] at hc
       exact gN (c+1) (by omega) (by simp only[cL,ha,h4,h2,h3];simp[h1])
    ·rw[if_neg h2]
     rw[if_neg h2] at hc
     have hg:=gN c (by omega) (by simp[cL,ha,h1,h2])
     rw[ht1,Pj _ _ h2] at hg
     exact hg
 rw[V3,←YP];exact key 0 (by simp) rfl
def jz (n:Int) (a:Age):Bool:=decide (a.id<n)
theorem Ud (p:Pool):m4 p=(p.ages.all (jz p.next)&&(ew p.t&&(lY p.ages&&(eI p.cells&&(iK p.next 1 61&&(gz p&&iw p)))))):=rfl
theorem Xp {l:List Cell} (h:eI l=true):l.length=24:=by simp[eI] at h;omega
theorem Ga (p:Pool) (hS:cq p≤4194304):aa C ek [fX p] (vB ((p.ages.all (jz p.next)&&(ew p.t&&(lY p.ages&&(eI p.cells&&(iK p.next 1 61&&(gz p&&iw p)))))))) []:=by
 refine(Nt _ _ _ _ _ _ _ ?_).run
 have hP:=g7 hS
 have htl:=ko p.t
 have key:((p.ages.drop 0).all (jz p.next)&&(ew p.t&&(lY p.ages&&(eI p.cells&&(iK p.next 1 61&&(gz p&&iw p))))))=(p.ages.all (jz p.next)&&(ew p.t&&(lY p.ages&&(eI p.cells&&(iK p.next 1 61&&(gz p&&iw p))))))→ah C ek ak 4 0 (jZ ((0:Nat):Int) (p.t.lows.map bL) (p.t.nodes.map aW) (p.ages.map dM) (p.cells.map cK) (p.vols.map dx) p.next) (fun u st=>aF C ek ak u st fun r fs=>r=vB ((p.ages.all (jz p.next)&&(ew p.t&&(lY p.ages&&(eI p.cells&&(iK p.next 1 61&&(gz p&&iw p)))))))∧fs=[]):=by
  refine bD p.ages (fun i=>((p.ages.drop i).all (jz p.next)&&(ew p.t&&(lY p.ages&&(eI p.cells&&(iK p.next 1 61&&(gz p&&iw p))))))=(p.ages.all (jz p.next)&&(ew p.t&&(lY p.ages&&(eI p.cells&&(iK p.next 1 61&&(gz p&&iw p))))))→ah C ek ak 4 0 (jZ i (p.t.lows.map bL) (p.t.nodes.map aW) (p.ages.map dM) (p.cells.map cK) (p.vols.map dx) p.next) (fun u st=>aF C ek ak u st fun r fs=>r=vB ((p.ages.all (jz p.next)&&(ew p.t&&(lY p.ages&&(eI p.cells&&(iK p.next 1 61&&(gz p&&iw p)))))))∧fs=[])) ?_ ?_
  ·intro h0
   refine AG _ _ _ _ _ _ _ _ (an (by simp) (Jw _ _ _ _ _ _ _ _ _ ?_))
   rw[List.drop_length] at h0
   simp only[List.all_nil,Bool.true_and] at h0
   rw[←h0]
   refine⟨_,r9 p.t (by omega),?_⟩
   cases h1:ew p.t with
   |false=>exact an rfl ⟨rfl,by first|rfl|trivial⟩
   |true=>
    refine ai rfl ⟨_,(Mx p.ages (by omega) (lY p.ages)).2 rfl,?_⟩
    cases h2:lY p.ages with
    |false=>exact an rfl ⟨rfl,by first|rfl|trivial⟩
    |true=>
     refine ai rfl ⟨_,(BZ p.cells (by omega) (eI p.cells)).2 rfl,?_⟩
     cases h3:eI p.cells with
     |false=>exact an rfl ⟨rfl,by first|rfl|trivial⟩
     |true=>
      refine ai rfl ⟨_,tQ p.next 1 61,?_⟩
      cases h4:iK p.next 1 61 with
      |false=>exact an rfl ⟨rfl,by first|rfl|trivial⟩
      |true=>
       refine ai rfl ⟨_,F7 p hS,?_⟩
       cases h5:gz p with
       |false=>exact an rfl ⟨rfl,by first|rfl|trivial⟩
       |true=>exact ai rfl ⟨_,F8 p hS,⟨rfl,by first|rfl|trivial⟩⟩
  ·intro i a hi ha hd htk hn h0
   have gO:(jz p.next) a=false→(p.ages.all (jz p.next)&&(ew p.t&&(lY p.ages&&(eI p.cells&&(iK p.next 1 61&&(gz p&&iw p))))))=false:=fun e=>by rw[←h0,hd];simp[e]
   have gN:(jz p.next) a=true→ah C ek ak 4 0 (jZ ((i:Int)+1) (p.t.lows.map bL) (p.t.nodes.map aW) (p.ages.map dM) (p.cells.map cK) (p.vols.map dx) p.next) (fun u st=>aF C ek ak u st fun r fs=>r=vB ((p.ages.all (jz p.next)&&(ew p.t&&(lY p.ages&&(eI p.cells&&(iK p.next 1 61&&(gz p&&iw p)))))))∧fs=[]):=fun e=>hn (by rw[←h0,hd];simp[e])
   refine AG _ _ _ _ _ _ _ _ (ai (by simp;omega) ?_)
   simp only[rZ,aL,ha,Option.some.injEq,exists_eq_left',fm,bF]
   rw[aJ (by omega)]
   by_cases h1:p.next≤a.id
   ·rw[if_pos h1];exact Jv _ _ _ _ _ _ _ (by rw[gO (by simp[jz];omega)];exact⟨rfl,by first|rfl|trivial⟩)
   ·rw[if_neg h1];exact gN (by simp[jz];omega)
 exact key rfl
theorem yM (p:Pool) (hS:cq p≤4194304):aa C ek [fX p] (vB (m4 p)) []:=Ga p hS
theorem yN (p:Pool) (hS:cq p≤4194304):aa C fu [fX p] (vB (m4 p)) []:=by
 have hP:=g7 hS
 rw[Ud]
 refine(MU _ _ _ _ _ _ _ ?_).run
 refine⟨_,sg p.t (by omega),?_⟩
 cases h1:ew p.t with
 |false=>exact ai rfl ⟨by simp,by first|rfl|trivial⟩
 |true=>
  refine an rfl ⟨_,(Mz p.ages (by omega) (lY p.ages)).2 rfl,?_⟩
  cases h2:lY p.ages with
  |false=>exact ai rfl ⟨by simp,by first|rfl|trivial⟩
  |true=>
   refine an rfl ⟨_,(B0 p.cells (by omega) (eI p.cells)).2 rfl,?_⟩
   cases h3:eI p.cells with
   |false=>exact ai rfl ⟨by simp,by first|rfl|trivial⟩
   |true=>
    refine an rfl ⟨_,qb p.next 1 61,?_⟩
    cases h4:iK p.next 1 61 with
    |false=>exact ai rfl ⟨by simp,by first|rfl|trivial⟩
    |true=>
     refine an rfl ?_
     simp only[Bool.true_and]
     have key:((p.ages.drop 0).all (jz p.next)&&(gz p&&iw p))=(p.ages.all (jz p.next)&&(gz p&&iw p))→ah C fu aj 4 0 (mD (p.ages.map dM) ((0:Nat):Int) (p.t.lows.map bL) (p.t.nodes.map aW) (p.cells.map cK) (p.vols.map dx) p.next) (fun u st=>aF C fu aj u st fun r fs=>r=vB (p.ages.all (jz p.next)&&(gz p&&iw p))∧fs=[]):=by
      refine bD p.ages (fun i=>((p.ages.drop i).all (jz p.next)&&(gz p&&iw p))=(p.ages.all (jz p.next)&&(gz p&&iw p))→ah C fu aj 4 0 (mD (p.ages.map dM) i (p.t.lows.map bL) (p.t.nodes.map aW) (p.cells.map cK) (p.vols.map dx) p.next) (fun u st=>aF C fu aj u st fun r fs=>r=vB (p.ages.all (jz p.next)&&(gz p&&iw p))∧fs=[])) ?_ ?_
      ·intro h0
       rw[List.drop_length] at h0
       simp only[List.all_nil,Bool.true_and] at h0
       refine Ai _ _ _ _ _ _ _ _ (an (by simp) (IN _ _ _ _ _ _ _ _ _ _ ⟨_,H8 p hS,?_⟩))
       rw[←h0]
       cases h5:gz p with
       |false=>exact an rfl ⟨rfl,by first|rfl|trivial⟩
       |true=>exact ai rfl ⟨_,F9 p hS (Xp h3),⟨rfl,by first|rfl|trivial⟩⟩
      ·intro i a hi ha hd htk hn h0
       rw[hd,List.all_cons] at h0
       refine Ai _ _ _ _ _ _ _ _ (ai (by simp;omega) ?_)
       simp only[rZ,aL,ha,Option.some.injEq,exists_eq_left',fm,bF]
       rw[aJ (by omega)]
       by_cases h5:p.next≤a.id
       ·rw[if_pos h5]
        have e:jz p.next a=false:=by simp[jz];omega
        exact IM _ _ _ _ _ _ _ _ _ (by rw[←h0,e];exact⟨rfl,by first|rfl|trivial⟩)
       ·rw[if_neg h5]
        have e:jz p.next a=true:=by simp[jz];omega
        exact hn (by rw[←h0,e];rfl)
     exact key rfl
theorem yO (l:List Cell) (hl:l.length≤1073741824):aa C gm [gY l] (gY l) []:=by
 refine(MG _ _ ?_).run
 rw[show bS (l.map cK)=true from by simp[Dr],cY (by simp;omega)]
 exact⟨rfl,by first|rfl|trivial⟩
theorem tV (l:List Cell) (hl:l.length≤1073741824):aa C jK [gY l] (gY l) []:=by
 refine(G4 _ _ ?_).run
 rw[show bS (l.map cK)=true from by simp[Dr],cY (by simp;omega)]
 exact⟨rfl,by first|rfl|trivial⟩
theorem EX (l:List Cell) (i:Int) (hl:l.length≤1073741824):aa C wB [gY l,vI i] (gY (gl l i)) []:=by
 refine(IP _ _ _ ⟨_,yO l hl,_,(BZ l hl (eI l)).2 rfl,?_⟩).run
 cases h1:eI l with
 |false=>exact an rfl ⟨by rw[EI h1],by first|rfl|trivial⟩
 |true=>
  refine ai rfl ⟨_,tQ _ _ _,?_⟩
  rw[List.length_map,show cA (Int.ofNat l.length) 1=(l.length:Int)-1 from dg (by simp;omega)]
  by_cases h2:0≤i∧i<l.length
  ·obtain⟨c,hc⟩:=td h2.1 h2.2
   refine ai (by simp[iK];omega) ?_
   simp only[pk,hc,Option.some.injEq,exists_eq_left']
   cases h3:c.u with
   |false=>exact an rfl ⟨by rw[Ht hc h3],by first|rfl|trivial⟩
   |true=>
    refine ai rfl (an (by simp) ?_)
    simp only[pk,hc,Option.some.injEq,exists_eq_left',Ph]
    exact⟨by rw[EJ hc h1 h3],by first|rfl|trivial⟩
  ·exact an (by simp[iK];omega) ⟨by rw[CY (oc h2)],by first|rfl|trivial⟩
theorem EY (l:List Cell) (i:Int) (hl:l.length≤1073741824):aa C mS [gY l,vI i] (gY (gl l i)) []:=by
 refine(Jx _ _ _ ⟨_,tV l hl,_,(B0 l hl (eI l)).2 rfl,?_⟩).run
 cases h1:eI l with
 |false=>exact ai rfl ⟨by rw[EI h1],by first|rfl|trivial⟩
 |true=>
  have h24:l.length=24:=by simp[eI] at h1;omega
  refine an rfl ⟨_,qb _ _ _,?_⟩
  by_cases h2:0≤i∧i<l.length
  ·obtain⟨c,hc⟩:=td h2.1 h2.2
   refine an (by simp[iK];omega) ?_
   simp only[pk,hc,Option.some.injEq,exists_eq_left']
   cases h3:c.u with
   |false=>exact ai rfl ⟨by rw[Ht hc h3],by first|rfl|trivial⟩
   |true=>
    refine an rfl (an (by simp) ?_)
    simp only[pk,hc,Option.some.injEq,exists_eq_left',Ph]
    exact⟨by rw[EJ hc h1 h3],by first|rfl|trivial⟩
  ·exact ai (by simp[iK];omega) ⟨by rw[CY (oc h2)],by first|rfl|trivial⟩
theorem u9 (l:List Int) (hl:l.length≤1073741824):aa C rE [ki l] (ki l) []:=by
 refine(JM _ _ ?_).run
 rw[show bS (l.map bL)=true from jU _,cY (by simp;omega)]
 exact⟨rfl,by first|rfl|trivial⟩
theorem B2 (l:List Key) (b a:Int) (hl:l.length≤1073741824):aa C ga [cO l,vI b,vI a] (Om (wV l b a)) []:=by
 refine(PO _ _ _ _ ?_).run
 have key:setAt (l.drop 0) b a=setAt l b a→ah C ga ak 4 0 (lK (l.map bN) b a ((0:Nat):Int)) (fun u st=>aF C ga ak u st fun r fs=>r=(Om (wV l b a))∧fs=[]):=by
  refine bD l (fun i=>setAt (l.drop i) b a=setAt l b a→ah C ga ak 4 0 (lK (l.map bN) b a i) (fun u st=>aF C ga ak u st fun r fs=>r=(Om (wV l b a))∧fs=[])) ?_ ?_
  ·intro h0
   rw[List.drop_length] at h0
   refine Co _ _ _ _ _ (an (by simp) (LX _ _ _ _ _ _ ⟨?_,by first|rfl|trivial⟩))
   unfold wV;rw[←h0];rfl
  ·intro i x hi hx hd htk hn h0
   rw[hd] at h0
   simp only[setAt,List.find?_cons] at h0
   refine Co _ _ _ _ _ (ai (by simp;omega) ?_)
   simp only[jS,aL,hx,Option.some.injEq,exists_eq_left',aP,bF]
   rw[aJ (by omega)]
   by_cases h1:x.b=b
   ·rw[if_pos h1]
    by_cases h2:x.a=a
    ·rw[if_pos h2]
     rw[decide_eq_true ⟨h1,h2⟩] at h0
     refine LW _ _ _ _ _ _ ⟨?_,by first|rfl|trivial⟩
     unfold wV setAt;rw[←h0]
    ·rw[if_neg h2]
     rw[decide_eq_false (fun h=>h2 h.2)] at h0
     exact hn h0
   ·rw[if_neg h1]
    rw[decide_eq_false (fun h=>h1 h.1)] at h0
    exact hn h0
 exact key rfl
theorem H9 (n:List (List Key)) (b a:Int) (hl:n.length≤1073741824) (hs: ∀s∈n,s.length≤1073741824):aa C gP [fW n,vI b,vI a] (Om (mz n b a n.length)) []:=by
 refine(Na _ _ _ _ ?_).run
 have key: ∀k:Nat,k≤n.length→mz n b a k=mz n b a n.length→ah C gP ak 4 0 (mH b a ((k:Int)-1) (n.map cc)) (fun u st=>aF C gP ak u st fun r fs=>r=(Om (mz n b a n.length))∧fs=[]):=by
  intro k
  induction k with
  |zero=>
   intro _ hk
   refine Aq _ _ _ _ _ (an (by simp) (I2 _ _ _ _ _ _ ⟨?_,by first|rfl|trivial⟩))
   rw[←hk];rfl
  |succ k ih=>
   intro hle hk
   have hx:n[k]?=some n[k]:=List.getElem?_eq_getElem (by omega)
   rw[show((k+1:Nat):Int)-1=(k:Int) by omega]
   have hss:=hs n[k] (List.getElem_mem (by omega))
   generalize n[k]=s at hx hss
   simp only[mz,hx] at hk
   refine Aq _ _ _ _ _ (ai (by simp) ?_)
   simp only[q7,aL,hx,Option.some.injEq,exists_eq_left']
   rw[dg (by omega)]
   refine⟨_,_,_,_,_,_,B2 s b a hss,?_⟩
   cases h2:(wV s b a).2 with
   |false=>
    rw[h2] at hk
    exact an rfl (an rfl (ih (by omega) (by simpa using hk)))
   |true=>
    rw[h2] at hk
    simp only[if_true] at hk
    refine ai rfl ?_
    by_cases h3:(wV s b a).1.k=0
    ·refine ai (by simp[h3]) (Ar _ _ _ _ _ _ _ _ _ _ _ _ _ ⟨?_,by first|rfl|trivial⟩)
     rw[if_pos h3] at hk
     rw[←hk];rfl
    ·refine an (by simp[h3]) (ai rfl (Ar _ _ _ _ _ _ _ _ _ _ _ _ _ ⟨?_,by first|rfl|trivial⟩))
     rw[if_neg h3] at hk
     rw[←hk,←h2]
 rw[List.length_map,show cA (Int.ofNat n.length) 1=(n.length:Int)-1 from dg (by simp;omega)]
 exact key n.length (Nat.le_refl _) rfl
theorem wW (t:Tree) (b a:Int) (hl:t.lows.length≤1073741824):aa C ey [dn t,vI b,vI a] (vI (lg t b a)) []:=by
 refine(LJ _ _ _ _ _ ?_).run
 unfold lg
 have key:ah C ey aj 4 0 (jE b a (qx (fun x=>decide (x≤gy b a)) t.lows 0) ((0:Nat):Int) (t.lows.map bL) (t.nodes.map aW)) (fun u st=>aF C ey aj u st fun r fs=>r=(vI (qx (fun x=>decide (x≤gy b a)) t.lows t.lows.length))∧fs=[]):=by
  refine bD t.lows (fun i=>ah C ey aj 4 0 (jE b a (qx (fun x=>decide (x≤gy b a)) t.lows i) i (t.lows.map bL) (t.nodes.map aW)) (fun u st=>aF C ey aj u st fun r fs=>r=(vI (qx (fun x=>decide (x≤gy b a)) t.lows t.lows.length))∧fs=[])) ?_ ?_
  ·exact xL _ _ _ _ _ _ _ (an (by simp) (GL _ _ _ _ _ _ _ _ ⟨rfl,by first|rfl|trivial⟩))
  ·intro i x hi hx hd htk hn
   simp only[qx,hx] at hn
   refine xL _ _ _ _ _ _ _ (ai (by simp;omega) ?_)
   simp only[rY,aL,hx,Option.some.injEq,exists_eq_left',C4,exists_eq_left,fm,bF]
   rw[aJ (by omega)]
   by_cases h1:x≤gy b a
   ·rw[if_pos h1]
    rw[if_pos (decide_eq_true h1)] at hn
    exact hn
   ·rw[if_neg h1]
    rw[if_neg (by simpa using h1)] at hn
    exact hn
 exact key
theorem yP (t:Tree) (b a:Int) (hl:c6 t≤1073741824):aa C lS [dn t,vI b,vI a] (Om (r5 t b a)) []:=by
 have e2:c6 t=t.lows.length+(t.nodes.length+tot aQ t.nodes):=rfl
 refine(NC _ _ _ _ _ ⟨_,wW t b a (by omega),_,tQ _ _ _,?_⟩).run
 unfold r5
 rw[List.length_map,show cA (Int.ofNat t.nodes.length) 1=(t.nodes.length:Int)-1 from dg (by simp;omega)]
 by_cases h1:0≤lg t b a∧lg t b a<t.nodes.length
 ·obtain⟨n,hn⟩:=td h1.1 h1.2
  have hz:aQ n≤tot aQ t.nodes:=m6 (w:=aQ) (QU hn)
  have e1:aQ n=n.length+tot bH n:=rfl
  refine an (by simp[iK];omega) ?_
  simp only[qv,hn,Option.some.injEq,exists_eq_left']
  refine⟨_,_,_,_,_,_,H9 n b a (by omega) (fun s hs=> ?_),⟨rfl,by first|rfl|trivial⟩⟩
  have h3:bH s≤tot bH n:=m6 (w:=bH) hs
  have h4:bH s=s.length:=rfl
  omega
 ·rw[oc h1]
  exact ai (by simp[iK];omega) ⟨rfl,by first|rfl|trivial⟩
theorem B3 (l:List Key) (b a:Int) (hl:l.length≤1073741824):aa C eW [cO l,vI b,vI a] (Om (wV l b a)) []:=by
 refine(PR _ _ _ _ ?_).run
 have key:setAt (l.drop 0) b a=setAt l b a→ah C eW ak 4 0 (lM b a (l.map bN) ((0:Nat):Int)) (fun u st=>aF C eW ak u st fun r fs=>r=(Om (wV l b a))∧fs=[]):=by
  refine bD l (fun i=>setAt (l.drop i) b a=setAt l b a→ah C eW ak 4 0 (lM b a (l.map bN) i) (fun u st=>aF C eW ak u st fun r fs=>r=(Om (wV l b a))∧fs=[])) ?_ ?_
  ·intro h0
   rw[List.drop_length] at h0
   refine Cp _ _ _ _ _ (an (by simp) (LZ _ _ _ _ _ _ _ ⟨?_,by first|rfl|trivial⟩))
   unfold wV;rw[←h0];rfl
  ·intro i x hi hx hd htk hn h0
   rw[hd] at h0
   simp only[setAt,List.find?_cons] at h0
   refine Cp _ _ _ _ _ (ai (by simp;omega) ?_)
   simp only[jS,aL,hx,Option.some.injEq,exists_eq_left',aP,bF]
   rw[aJ (by omega)]
   by_cases h1:x.b=b
   ·rw[if_pos h1]
    by_cases h2:x.a=a
    ·rw[if_pos h2]
     rw[decide_eq_true ⟨h1,h2⟩] at h0
     refine LY _ _ _ _ _ _ ⟨?_,by first|rfl|trivial⟩
     unfold wV setAt;rw[←h0]
    ·rw[if_neg h2]
     rw[decide_eq_false (fun h=>h2 h.2)] at h0
     exact hn h0
   ·rw[if_neg h1]
    rw[decide_eq_false (fun h=>h1 h.1)] at h0
    exact hn h0
 exact key rfl
theorem Ia (n:List (List Key)) (b a:Int) (hl:n.length≤1073741824) (hs: ∀s∈n,s.length≤1073741824):aa C gQ [fW n,vI b,vI a] (Om (mz n b a n.length)) []:=by
 refine(Nm _ _ _ _ ?_).run
 have key: ∀k:Nat,k≤n.length→mz n b a k=mz n b a n.length→ah C gQ ak 4 0 (pO b a ((k:Int)-1) (n.map cc)) (fun u st=>aF C gQ ak u st fun r fs=>r=(Om (mz n b a n.length))∧fs=[]):=by
  intro k
  induction k with
  |zero=>
   intro _ hk
   refine AA _ _ _ _ _ (an (by simp) (Jm _ _ _ _ _ _ ⟨?_,by first|rfl|trivial⟩))
   rw[←hk];rfl
  |succ k ih=>
   intro hle hk
   have hx:n[k]?=some n[k]:=List.getElem?_eq_getElem (by omega)
   rw[show((k+1:Nat):Int)-1=(k:Int) by omega]
   have hss:=hs n[k] (List.getElem_mem (by omega))
   generalize n[k]=s at hx hss
   simp only[mz,hx] at hk
   refine AA _ _ _ _ _ (ai (by simp) ?_)
   simp only[q7,aL,hx,Option.some.injEq,exists_eq_left']
   rw[dg (by omega)]
   refine⟨_,_,_,_,_,_,B3 s b a hss,?_⟩
   cases h2:(wV s b a).2 with
   |false=>
    rw[h2] at hk
    exact ai rfl (ih (by omega) (by simpa using hk))
   |true=>
    rw[h2] at hk
    simp only[if_true] at hk
    refine an rfl ?_
    by_cases h3:(wV s b a).1.k=0
    ·refine ai (by simp[h3]) (Jk _ _ _ _ _ _ _ _ ⟨?_,by first|rfl|trivial⟩)
     rw[if_pos h3] at hk
     rw[←hk];rfl
    ·refine an (by simp[h3]) (Jl _ _ _ _ _ _ _ ⟨?_,by first|rfl|trivial⟩)
     rw[if_neg h3] at hk
     rw[←hk,←h2]
 rw[List.length_map,show cA (Int.ofNat n.length) 1=(n.length:Int)-1 from dg (by simp;omega)]
 exact key n.length (Nat.le_refl _) rfl
theorem wX (t:Tree) (b a:Int) (hl:t.lows.length≤1073741824):aa C fh [dn t,vI b,vI a] (vI (lg t b a)) []:=by
 refine(Lt _ _ _ _ _ ?_).run
 have key: ∀k:Nat,k≤t.lows.length→qx (fun x=>decide (x≤gy b a)) t.lows k=lg t b a→ah C fh ak 4 0 (ov b a ((k:Int)-1) (t.lows.map bL) (t.nodes.map aW)) (fun u st=>aF C fh ak u st fun r fs=>r=(vI (lg t b a))∧fs=[]):=by
  intro k
  induction k with
  |zero=>
   intro _ hk
   refine xF _ _ _ _ _ _ (an (by simp) (Gz _ _ _ _ _ _ _ ⟨?_,by first|rfl|trivial⟩))
   rw[←hk];rfl
  |succ k ih=>
   intro hle hk
   have hx:t.lows[k]?=some t.lows[k]:=List.getElem?_eq_getElem (by omega)
   rw[show((k+1:Nat):Int)-1=(k:Int) by omega]
   generalize t.lows[k]=x at hx
   simp only[qx,hx] at hk
   refine xF _ _ _ _ _ _ (ai (by simp) ?_)
   simp only[rY,aL,hx,Option.some.injEq,exists_eq_left',wE,exists_eq_left,fm,bF]
   rw[dg (by omega)]
   by_cases h1:x≤gy b a
   ·rw[if_pos h1]
    rw[if_pos (decide_eq_true h1)] at hk
    exact Gy _ _ _ _ ⟨by rw[←hk],by first|rfl|trivial⟩
   ·rw[if_neg h1]
    rw[if_neg (by simpa using h1)] at hk
    exact ih (by omega) hk
 rw[List.length_map,show cA (Int.ofNat t.lows.length) 1=(t.lows.length:Int)-1 from dg (by simp;omega)]
 exact key t.lows.length (Nat.le_refl _) rfl
theorem yQ (t:Tree) (b a:Int) (hl:c6 t≤1073741824):aa C lT [dn t,vI b,vI a] (Om (r5 t b a)) []:=by
 have e2:c6 t=t.lows.length+(t.nodes.length+tot aQ t.nodes):=rfl
 refine(M4 _ _ _ _ _ ⟨_,wX t b a (by omega),_,qb _ _ _,?_⟩).run
 unfold r5
 rw[List.length_map,show cA (Int.ofNat t.nodes.length) 1=(t.nodes.length:Int)-1 from dg (by simp;omega)]
 by_cases h1:0≤lg t b a∧lg t b a<t.nodes.length
 ·obtain⟨n,hn⟩:=td h1.1 h1.2
  have hz:aQ n≤tot aQ t.nodes:=m6 (w:=aQ) (QU hn)
  have e1:aQ n=n.length+tot bH n:=rfl
  refine an (by simp[iK];omega) ?_
  simp only[qv,hn,Option.some.injEq,exists_eq_left']
  refine⟨_,_,_,_,_,_,Ia n b a (by omega) (fun s hs=> ?_),⟨rfl,by first|rfl|trivial⟩⟩
  have h3:bH s≤tot bH n:=m6 (w:=bH) hs
  have h4:bH s=s.length:=rfl
  omega
 ·rw[oc h1]
  exact ai (by simp[iK];omega) ⟨rfl,by first|rfl|trivial⟩
theorem EZ (l:List Age) (hl:l.length≤1073741824):aa C oX [jo l] (jo l) []:=by
 refine(Jf _ _ ?_).run
 rw[show bS (l.map dM)=true from CJ _,cY (by simp;omega)]
 exact⟨rfl,by first|rfl|trivial⟩
theorem qC (n:List (List Key)) (hl:n.length≤1073741824) (hs: ∀s∈n,s.length≤1073741824):aa C aT [fW n] (fW n) []:=by
 refine(IB _ _ ?_).run
 skip
 have key:((0:Nat)=0→ah C aT aj 4 0 (ng (n.map cc)) (fun u st=>aF C aT aj u st fun r fs=>r=(fW n)∧fs=[]))∧(0<(0:Nat)→ah C aT aj 4 0 (kM (n.map cc) ((0:Nat):Int) ((n.take 0).map cc)) (fun u st=>aF C aT aj u st fun r fs=>r=(fW n)∧fs=[])):=by
  refine bD n (fun i=>(i=0→ah C aT aj 4 0 (ng (n.map cc)) (fun u st=>aF C aT aj u st fun r fs=>r=(fW n)∧fs=[]))∧(0<i→ah C aT aj 4 0 (kM (n.map cc) i ((n.take i).map cc)) (fun u st=>aF C aT aj u st fun r fs=>r=(fW n)∧fs=[]))) ?_ ?_
  ·refine⟨fun h=> ?_,fun h=> ?_⟩
   ·have hnil:n=[]:=List.length_eq_zero_iff.1 h
    refine vH _ _ (an (by simp[h]) (E4 _ _ _ _ ⟨?_,by first|rfl|trivial⟩))
    simp[hnil]
   ·rw[List.take_length]
    exact vJ _ _ _ _ (an (by simp) (E5 _ _ _ _ _ _ ⟨rfl,by first|rfl|trivial⟩))
  ·intro i a hi ha hd htk hn
   have hmem:=List.mem_of_getElem? ha
   refine⟨fun h=> ?_,fun h=> ?_⟩
   ·subst h
    have hz:gX n 0=some a:=(aL n 0).trans ha
    have hn2:=hn.2 (by omega)
    rw[htk] at hn2
    refine vH _ _ (ai (by simp;omega) ?_)
    simp only[q7,hz,Option.some.injEq,exists_eq_left']
    refine⟨_,m8 a (by have:=hs a hmem;omega),ai (cY (by simp;try omega)) ?_⟩
    rw[aJ (by omega)]
    exact hn2
   ·have hn2:=hn.2 (by omega)
    rw[htk] at hn2
    refine vJ _ _ _ _ (ai (by simp;omega) ?_)
    simp only[q7,aL,ha,Option.some.injEq,exists_eq_left']
    refine⟨_,m8 a (by have:=hs a hmem;omega),ai (cY (by simp;try omega)) ?_⟩
    rw[aJ (by omega)]
    rw[List.map_append] at hn2
    exact hn2
 exact key.1 rfl
theorem si (n:List (List Key)) (hl:n.length≤1073741824) (hs: ∀s∈n,s.length≤1073741824):aa C bE [fW n] (fW n) []:=by
 refine(NF _ _ ?_).run
 skip
 have key:((0:Nat)=0→ah C bE aj 4 0 (pT (n.map cc)) (fun u st=>aF C bE aj u st fun r fs=>r=(fW n)∧fs=[]))∧(0<(0:Nat)→ah C bE aj 4 0 (mL ((0:Nat):Int) (n.map cc) ((n.take 0).map cc)) (fun u st=>aF C bE aj u st fun r fs=>r=(fW n)∧fs=[])):=by
  refine bD n (fun i=>(i=0→ah C bE aj 4 0 (pT (n.map cc)) (fun u st=>aF C bE aj u st fun r fs=>r=(fW n)∧fs=[]))∧(0<i→ah C bE aj 4 0 (mL i (n.map cc) ((n.take i).map cc)) (fun u st=>aF C bE aj u st fun r fs=>r=(fW n)∧fs=[]))) ?_ ?_
  ·refine⟨fun h=> ?_,fun h=> ?_⟩
   ·have hnil:n=[]:=List.length_eq_zero_iff.1 h
    refine AN _ _ (an (by simp[h]) (JK _ _ _ ⟨?_,by first|rfl|trivial⟩))
    simp[hnil]
   ·rw[List.take_length]
    exact AO _ _ _ _ (an (by simp) (JL _ _ _ _ _ ⟨rfl,by first|rfl|trivial⟩))
  ·intro i a hi ha hd htk hn
   have hmem:=List.mem_of_getElem? ha
   refine⟨fun h=> ?_,fun h=> ?_⟩
   ·subst h
    have hz:gX n 0=some a:=(aL n 0).trans ha
    have hn2:=hn.2 (by omega)
    rw[htk] at hn2
    refine AN _ _ (ai (by simp;omega) ?_)
    simp only[q7,hz,Option.some.injEq,exists_eq_left']
    have hsa:=hs a hmem
    refine ai (by rw[show bS (a.map bN)=true from jV _,cY (by simp;omega)];rfl) (ai (cY (by simp;try omega)) ?_)
    rw[aJ (by omega)]
    exact hn2
   ·have hn2:=hn.2 (by omega)
    rw[htk] at hn2
    refine AO _ _ _ _ (ai (by simp;omega) ?_)
    simp only[q7,aL,ha,Option.some.injEq,exists_eq_left']
    have hsa:=hs a hmem
    refine ai (by rw[show bS (a.map bN)=true from jV _,cY (by simp;omega)];rfl) (ai (cY (by simp;try omega)) ?_)
    rw[aJ (by omega)]
    rw[List.map_append] at hn2
    exact hn2
 exact key.1 rfl
theorem va (t:Tree) (hl:t.lows.length≤1073741824∧t.nodes.length≤1073741824) (hs: ∀n∈t.nodes,n.length≤1073741824∧ ∀s∈n,s.length≤1073741824):aa C aX [dn t] (dn t) []:=by
 refine(IX _ _ _ ?_).run
 refine⟨_,u9 t.lows hl.1,?_⟩
 have key:((0:Nat)=0→ah C aX aj 4 0 (nt (t.nodes.map aW) (t.lows.map bL)) (fun u st=>aF C aX aj u st fun r fs=>r=(dn t)∧fs=[]))∧(0<(0:Nat)→ah C aX aj 4 0 (kP (t.nodes.map aW) ((0:Nat):Int) (t.lows.map bL) ((t.nodes.take 0).map aW)) (fun u st=>aF C aX aj u st fun r fs=>r=(dn t)∧fs=[])):=by
  refine bD t.nodes (fun i=>(i=0→ah C aX aj 4 0 (nt (t.nodes.map aW) (t.lows.map bL)) (fun u st=>aF C aX aj u st fun r fs=>r=(dn t)∧fs=[]))∧(0<i→ah C aX aj 4 0 (kP (t.nodes.map aW) i (t.lows.map bL) ((t.nodes.take i).map aW)) (fun u st=>aF C aX aj u st fun r fs=>r=(dn t)∧fs=[]))) ?_ ?_
  ·refine⟨fun h=> ?_,fun h=> ?_⟩
   ·have hnil:t.nodes=[]:=List.length_eq_zero_iff.1 h
    refine vP _ _ _ (an (by simp[h]) (Fb _ _ _ _ _ ⟨?_,by first|rfl|trivial⟩))
    simp[hnil]
   ·rw[List.take_length]
    exact vQ _ _ _ _ _ (an (by simp) (Fc _ _ _ _ _ _ _ ⟨rfl,by first|rfl|trivial⟩))
  ·intro i a hi ha hd htk hn
   have hmem:=List.mem_of_getElem? ha
   refine⟨fun h=> ?_,fun h=> ?_⟩
   ·subst h
    have hz:gX t.nodes 0=some a:=(aL t.nodes 0).trans ha
    have hn2:=hn.2 (by omega)
    rw[htk] at hn2
    refine vP _ _ _ (ai (by simp;omega) ?_)
    simp only[qv,hz,Option.some.injEq,exists_eq_left']
    refine⟨_,qC a (hs a hmem).1 (hs a hmem).2,ai (cY (by simp;try omega)) ?_⟩
    rw[aJ (by omega)]
    exact hn2
   ·have hn2:=hn.2 (by omega)
    rw[htk] at hn2
    refine vQ _ _ _ _ _ (ai (by simp;omega) ?_)
    simp only[qv,aL,ha,Option.some.injEq,exists_eq_left']
    refine⟨_,qC a (hs a hmem).1 (hs a hmem).2,ai (cY (by simp;try omega)) ?_⟩
    rw[aJ (by omega)]
    rw[List.map_append] at hn2
    exact hn2
 exact key.1 rfl
theorem yR (t:Tree) (hl:t.lows.length≤1073741824∧t.nodes.length≤1073741824) (hs: ∀n∈t.nodes,n.length≤1073741824∧ ∀s∈n,s.length≤1073741824):aa C cv [dn t] (dn t) []:=by
 refine(Nw _ _ _ ?_).run
 refine ai (by rw[show bS (t.lows.map bL)=true from jU _,cY (by simp;omega)];rfl) ?_
 have key:((0:Nat)=0→ah C cv aj 4 0 (pR (t.lows.map bL) (t.nodes.map aW)) (fun u st=>aF C cv aj u st fun r fs=>r=(dn t)∧fs=[]))∧(0<(0:Nat)→ah C cv aj 4 0 (mK ((0:Nat):Int) (t.lows.map bL) (t.nodes.map aW) ((t.nodes.take 0).map aW)) (fun u st=>aF C cv aj u st fun r fs=>r=(dn t)∧fs=[])):=by
  refine bD t.nodes (fun i=>(i=0→ah C cv aj 4 0 (pR (t.lows.map bL) (t.nodes.map aW)) (fun u st=>aF C cv aj u st fun r fs=>r=(dn t)∧fs=[]))∧(0<i→ah C cv aj 4 0 (mK i (t.lows.map bL) (t.nodes.map aW) ((t.nodes.take i).map aW)) (fun u st=>aF C cv aj u st fun r fs=>r=(dn t)∧fs=[]))) ?_ ?_
  ·refine⟨fun h=> ?_,fun h=> ?_⟩
   ·have hnil:t.nodes=[]:=List.length_eq_zero_iff.1 h
    refine AH _ _ _ (an (by simp[h]) (Jy _ _ _ _ ⟨?_,by first|rfl|trivial⟩))
    simp[hnil]
   ·rw[List.take_length]
    exact AI _ _ _ _ _ (an (by simp) (Jz _ _ _ _ _ _ ⟨rfl,by first|rfl|trivial⟩))
  ·intro i a hi ha hd htk hn
   have hmem:=List.mem_of_getElem? ha
   refine⟨fun h=> ?_,fun h=> ?_⟩
   ·subst h
    have hz:gX t.nodes 0=some a:=(aL t.nodes 0).trans ha
    have hn2:=hn.2 (by omega)
    rw[htk] at hn2
    refine AH _ _ _ (ai (by simp;omega) ?_)
    simp only[qv,hz,Option.some.injEq,exists_eq_left']
    refine⟨_,si a (hs a hmem).1 (hs a hmem).2,ai (cY (by simp;try omega)) ?_⟩
    rw[aJ (by omega)]
    exact hn2
   ·have hn2:=hn.2 (by omega)
    rw[htk] at hn2
    refine AI _ _ _ _ _ (ai (by simp;omega) ?_)
    simp only[qv,aL,ha,Option.some.injEq,exists_eq_left']
    refine⟨_,si a (hs a hmem).1 (hs a hmem).2,ai (cY (by simp;try omega)) ?_⟩
    rw[aJ (by omega)]
    rw[List.map_append] at hn2
    exact hn2
 exact key.1 rfl
theorem ve {t:Tree} (h:c6 t≤4194304):(t.lows.length≤1073741824∧t.nodes.length≤1073741824)∧ ∀n∈t.nodes,n.length≤1073741824∧ ∀s∈n,s.length≤1073741824:=by
 have e2:c6 t=t.lows.length+(t.nodes.length+tot aQ t.nodes):=rfl
 refine⟨⟨by omega,by omega⟩,fun n hn=> ?_⟩
 have h1:aQ n≤tot aQ t.nodes:=m6 (w:=aQ) hn
 have h2:aQ n=n.length+tot bH n:=rfl
 refine⟨by omega,fun s hs=> ?_⟩
 have h3:bH s≤tot bH n:=m6 (w:=bH) hs
 have h4:bH s=s.length:=rfl
 omega
theorem ru (p:Pool) (hS:cq p≤4194304):aa C qy [fX p] (fX p) []:=by
 have hP:=g7 hS
 have hN:=ve hP.1
 have hT:=yR p.t hN.1 hN.2
 have hA:(bS (p.ages.map dM)&&fits (Nat.add 0 (p.ages.map dM).length) 16)=true:=by rw[CJ,cY (by simp;omega)];rfl
 have hC:=yO p.cells (by omega)
 have hV:(bS (p.vols.map dx)&&fits (Nat.add 0 (p.vols.map dx).length) 40)=true:=by rw[CK,cY (by simp;omega)];rfl
 refine(Lm _ _ _ _ _ _ _ ?_).run
 repeat' first
  |exact rfl
  |refine⟨(fX p,[]),?_,?_,⟨rfl,by first|rfl|trivial⟩⟩
  |refine⟨(fX p,[]),?_,?_,by first|rfl|trivial⟩
  |refine⟨_,_,hT,?_⟩
  |refine ai hA ?_
  |refine⟨_,hC,?_⟩
  |refine ai hV ?_
theorem qD (p:Pool) (hS:cq p≤4194304):aa C fF [fX p] (fX p) []:=by
 have hP:=g7 hS
 have hN:=ve hP.1
 have hT:=va p.t hN.1 hN.2
 have hA:=EZ p.ages (by omega)
 have hC:=tV p.cells (by omega)
 have hV:(bS (p.vols.map dx)&&fits (Nat.add 0 (p.vols.map dx).length) 40)=true:=by rw[CK,cY (by simp;omega)];rfl
 refine(Ja _ _ _ _ _ _ _ ?_).run
 repeat' first
  |exact rfl
  |refine⟨(fX p,[]),?_,?_,⟨rfl,by first|rfl|trivial⟩⟩
  |refine⟨(fX p,[]),?_,?_,by first|rfl|trivial⟩
  |refine⟨_,_,hT,?_⟩
  |refine⟨_,hA,?_⟩
  |refine⟨_,hC,?_⟩
  |refine ai hV ?_
theorem Ib (p x:Pool) (hS:cq p≤4194304) (hX:cq x≤4194304):aa C qk [fX p,fX x,vB true] (Sm (Sl p x)) []:=by
 refine(Db _ _ _ _ _ _ _ _ _ _ _ _ _ _ ?_).run
 refine an rfl ⟨_,yM x hX,?_⟩
 unfold Sl
 cases h1:m4 x with
 |false=>exact ai rfl ⟨_,_,_,_,_,_,ru p hS,⟨rfl,by first|rfl|trivial⟩⟩
 |true=>exact an rfl ⟨rfl,by first|rfl|trivial⟩
theorem Gb (p x:Pool) (hS:cq p≤4194304) (hX:cq x≤4194304):aa C sO [fX p,fX x,vB true] (Sm (Sl p x)) []:=by
 refine(Cn _ _ _ _ _ _ _ _ _ _ _ _ _ _ ?_).run
 refine an rfl ⟨_,yN x hX,?_⟩
 unfold Sl
 cases h1:m4 x with
 |false=>exact ai rfl ⟨_,_,_,_,_,_,qD p hS,⟨rfl,by first|rfl|trivial⟩⟩
 |true=>exact an rfl ⟨rfl,by first|rfl|trivial⟩
theorem Li {l:List Vol} {s:ByteArray} (h: ¬eP l s<0): ∃v,gX l (eP l s)=some v:=by
 obtain⟨m,h1,_⟩:=Q2 _ l h
 exact⟨m,h1⟩
theorem Gc (p:Pool) (s:ByteArray) (hS:cq p≤4194304) (hz:s.size≤140737488355328):aa C yB [fX p,vS s] (vI (if By p s=true then 0 else 1)) []:=by
 refine(LS _ _ _ _ _ _ _ _ ⟨_,yM p hS,?_⟩).run
 unfold By
 cases h1:m4 p with
 |false=>exact ai rfl ⟨rfl,by first|rfl|trivial⟩
 |true=>
  refine an rfl ⟨_,(C2 s hz (q9 s)).2 rfl,?_⟩
  cases h2:q9 s with
  |false=>exact ai rfl ⟨rfl,by first|rfl|trivial⟩
  |true=>exact an rfl ⟨rfl,by first|rfl|trivial⟩
theorem Ic (p:Pool) (s:ByteArray) (hS:cq p≤4194304) (hz:s.size≤140737488355328):aa C BQ [fX p,vS s] (vI (if By p s=true then(if eP p.vols s<0 then 2 else 0) else 1)) []:=by
 have hP:=g7 hS
 refine(MY _ _ _ _ _ _ _ _ ⟨_,Gc p s hS hz,?_⟩).run
 cases h1:By p s with
 |false=>exact an (by simp) ⟨rfl,by first|rfl|trivial⟩
 |true=>
  refine ai (by simp) ⟨_,tU p s (by omega),?_⟩
  by_cases h2:eP p.vols s<0
  ·exact ai (by simp[h2]) ⟨by simp[h2],by first|rfl|trivial⟩
  ·exact an (by simp;omega) ⟨by simp[h2],by first|rfl|trivial⟩
theorem E0 (p x:Pool) (ok:Bool) (hS:cq p≤4194304) (hX:cq x≤4194304):aa C qk [fX p,fX x,vB ok] (Sm (HH p x ok)) []:=by
 cases ok with
 |true=>exact Ib p x hS hX
 |false=>
  refine(Db _ _ _ _ _ _ _ _ _ _ _ _ _ _ ?_).run
  exact ai rfl ⟨_,_,_,_,_,_,ru p hS,⟨rfl,by first|rfl|trivial⟩⟩
theorem DN (p x:Pool) (ok:Bool) (hS:cq p≤4194304) (hX:cq x≤4194304):aa C sO [fX p,fX x,vB ok] (Sm (HH p x ok)) []:=by
 cases ok with
 |true=>exact Gb p x hS hX
 |false=>
  refine(Cn _ _ _ _ _ _ _ _ _ _ _ _ _ _ ?_).run
  exact ai rfl ⟨_,_,_,_,_,_,qD p hS,⟨rfl,by first|rfl|trivial⟩⟩
theorem iV (l:List Key) (hl:l.length≤1073741824):aa C az [cO l] (fW (cF l)) []:=by
 refine(Ls _ _ ?_).run
 unfold cF
 by_cases h:l.length=0
 ·exact ai (by simp[h]) ⟨by rw[if_pos h];rfl,rfl⟩
 ·refine an (by rw[List.length_map,Int.ofNat_eq_natCast,aP];exact decide_eq_false (by omega)) ?_
  rw[show bS (l.map bN)=true from jV _,cY (by simp;omega)]
  exact⟨by rw[if_neg h];rfl,rfl⟩
theorem m9 (l:List Key) (hl:l.length≤1073741824):aa C bT [cO l] (fW (cF l)) []:=by
 refine(LL _ _ ?_).run
 unfold cF
 by_cases h:l.length=0
 ·exact ai (by simp[h]) ⟨by rw[if_pos h];rfl,rfl⟩
 ·refine an (by rw[List.length_map,Int.ofNat_eq_natCast,aP];exact decide_eq_false (by omega)) ?_
  exact⟨_,m8 l (by omega),⟨by rw[if_neg h];rfl,rfl⟩⟩
theorem vf (n:List (List Key)) (k:Key) (hb:n.length≤1073740000) (hl:tot bH n≤1073740000):aa C dw [fW n,AY k] (cO (cr n k)) []:=by
 have h1:=cV n
 have h2:=nQ (aR n) k
 exact(Ji _ _ _ _ _ _ _ ⟨_,(je n (by omega) (by omega) _).2 rfl,_,pz (aR n) k (by omega),_,C1 (fe (aR n) k) (by omega),⟨rfl,by first|rfl|trivial⟩⟩).run
theorem Gd (n:List (List Key)) (k:Key) (hb:n.length≤1073740000) (hl:tot bH n≤1073740000):aa C sQ [fW n,AY k] (T6 (cj n k)) []:=by
 have hs: ∀s∈n,s.length≤1073741824:=fun s hm=>by have:=m6 (w:=bH) hm;unfold bH at this hl;omega
 have hcp:=qC n (by omega) hs
 have hXl:=Du n k
 have hXt:=Dv n k
 have tail: ∀(X:List (List Key)) (Q:QV),X=jr n k→Q (T6 (cj n k)) []→ ∃(b18:Bool),aa C bn ([TV.ag [TC.sub 1 (X.map cc)]]) (TV.c (iB b18)) []∧(aD b18 (Q (TV.tu [(1,[TC.sub 1 (X.map cc)]),(0,[iB true])]) ([])) (∃(l19:RR),aa C dw ([TV.ag [TC.sub 1 (n.map cc)],AY k]) (TV.c (TC.sub 5 l19)) []∧(∃(l20:RR),aa C bT ([TV.c (TC.sub 5 l19)]) (TV.ag [TC.sub 1 l20]) []∧(aD (bK 8 (Int.ofNat (List.length l19))) (∃(l21:RR),aa C aT ([TV.ag [TC.sub 1 (n.map cc)]]) (TV.ag [TC.sub 1 l21]) []∧(Q (TV.tu [(1,[TC.sub 1 l21]),(0,[iB false])]) ([]))) (∃(b22:Bool),aa C bn ([TV.ag [TC.sub 1 l20]]) (TV.c (iB b22)) []∧(aD (!b22) (∃(l23:RR),aa C aT ([TV.ag [TC.sub 1 (n.map cc)]]) (TV.ag [TC.sub 1 l23]) []∧(Q (TV.tu [(1,[TC.sub 1 l23]),(0,[iB false])]) ([]))) (Q (TV.tu [(1,[TC.sub 1 l20]),(0,[iB true])]) ([])))))))):=by
  intro X Q hX hQ
  rw[←hX] at hXl hXt
  have hok:aa C bn [fW X] (vB (ff X)) []:=r8 X (by omega) (by omega)
  have hkl:=og n k
  have hnl:=uV (cr n k)
  have hnt:=uW (cr n k)
  have hok2:aa C bn [fW (cF (cr n k))] (vB (ff (cF (cr n k)))) []:=r8 _ (by omega) (by omega)
  refine⟨_,hok,?_⟩
  unfold cj at hQ
  rw[←hX] at hQ
  cases h1:ff X with
  |true=>
   rw[if_pos h1] at hQ
   exact ai rfl hQ
  |false=>
   rw[if_neg (by rw[h1];simp)] at hQ
   refine an rfl ⟨_,vf n k (by omega) (by omega),_,m9 (cr n k) (by omega),?_⟩
   by_cases h2:8<(cr n k).length
   ·rw[if_pos h2] at hQ
    exact ai (by simp<;>omega) ⟨_,hcp,hQ⟩
   ·rw[if_neg h2] at hQ
    refine an (by simp<;>omega) ⟨_,hok2,?_⟩
    cases h3:ff (cF (cr n k)) with
    |true=>
     rw[if_pos h3] at hQ
     exact an rfl hQ
    |false=>
     rw[if_neg (by rw[h3];simp)] at hQ
     exact ai rfl ⟨_,hcp,hQ⟩
 refine(LK _ _ _ _ _ _ _ ⟨_,hcp,?_⟩).run
 rw[List.length_map]
 cases hlast:n[n.length-1]? with
 |none=>
  have h0:n.length=0:=Classical.byContradiction fun h=>by rw[List.getElem?_eq_getElem (by omega)] at hlast;cases hlast
  have hX:n++[[k]]=jr n k:=by unfold jr;rw[hlast]
  refine an (by rw[h0,dg (by simp)];simp) ((ai (cY (by simp<;>omega)) ?_))
  rw[show List.append (n.map cc) [[TC.sub 5 [[iI k.b,iI k.a,iI k.k,iI k.c,iI k.g]]]]=(n++[[k]]).map cc from by simp[cc,bN]]
  exact tail _ (fun r fs=>r=T6 (cj n k)∧fs=[]) hX ⟨rfl,by first|rfl|trivial⟩
 |some s=>
  have hlt:=(List.getElem?_eq_some_iff.1 hlast).1
  have hsub:cA (Int.ofNat n.length) 1=((n.length-1:Nat):Int):=by rw[dg (by simp<;>omega)];simp;omega
  have hrow:rowAt (n.map cc) ((n.length-1:Nat):Int)=some [TC.sub 5 (s.map bN)]:=by rw[bR,aL,hlast];rfl
  have hsl:=hs s (List.mem_of_getElem? hlast)
  have hset:setRow (n.map cc) ((n.length-1:Nat):Int) 0 [TC.sub 5 ((fe s k).map bN)]=(n.set (n.length-1) (fe s k)).map cc:=KU (a:=s) (a':=fe s k) hlast rfl
  have happ:List.append (n.map cc) [[TC.sub 5 [[iI k.b,iI k.a,iI k.k,iI k.c,iI k.g]]]]=(n++[[k]]).map cc:=by simp[cc,bN]
  have hfit:fits (Nat.succ n.length) 24=true:=cY (by simp<;>omega)
  rw[hsub]
  refine ai (by simp) ⟨_,hrow,?_⟩
  have key: ∀Q:QV,Q (T6 (cj n k)) []→ ∃(n8:Int) (n9:Int) (n10:Int) (n11:Int) (n12:Int) (b13:Bool),aa C eW ([TV.c (TC.sub 5 (s.map bN)),TV.c (iI k.b),TV.c (iI k.a)]) (TV.tu [(1,[iI n8,iI n9,iI n10,iI n11,iI n12]),(0,[iB b13])]) []∧(aD b13 (∃(l14:RR),rowAt (n.map cc) ((n.length-1:Nat):Int)=some [TC.sub 5 l14]∧(∃(l15:RR),aa C cH ([TV.c (TC.sub 5 l14),AY k]) (TV.c (TC.sub 5 l15)) []∧(∃(l16:RR),rowAt (n.map cc) ((n.length-1:Nat):Int)=some [TC.sub 5 l16]∧(∃(l17:RR),rowAt (n.map cc) ((n.length-1:Nat):Int)=some [TC.sub 5 l17]∧(∃(b18:Bool),aa C bn ([TV.ag [TC.sub 1 (setRow (n.map cc) ((n.length-1:Nat):Int) 0 [TC.sub 5 l15])]]) (TV.c (iB b18)) []∧(aD b18 (Q (TV.tu [(1,[TC.sub 1 (setRow (n.map cc) ((n.length-1:Nat):Int) 0 [TC.sub 5 l15])]),(0,[iB true])]) ([])) (∃(l19:RR),aa C dw ([TV.ag [TC.sub 1 (n.map cc)],AY k]) (TV.c (TC.sub 5 l19)) []∧(∃(l20:RR),aa C bT ([TV.c (TC.sub 5 l19)]) (TV.ag [TC.sub 1 l20]) []∧(aD (bK 8 (Int.ofNat (List.length l19))) (∃(l21:RR),aa C aT ([TV.ag [TC.sub 1 (n.map cc)]]) (TV.ag [TC.sub 1 l21]) []∧(Q (TV.tu [(1,[TC.sub 1 l21]),(0,[iB false])]) ([]))) (∃(b22:Bool),aa C bn ([TV.ag [TC.sub 1 l20]]) (TV.c (iB b22)) []∧(aD (!b22) (∃(l23:RR),aa C aT ([TV.ag [TC.sub 1 (n.map cc)]]) (TV.ag [TC.sub 1 l23]) []∧(Q (TV.tu [(1,[TC.sub 1 l23]),(0,[iB false])]) ([]))) (Q (TV.tu [(1,[TC.sub 1 l20]),(0,[iB true])]) ([])))))))))))))
   (∃(l24:RR),rowAt (n.map cc) ((n.length-1:Nat):Int)=some [TC.sub 5 l24]∧(aD (bK (Int.ofNat (List.length l24)) 4) (∃(l25:RR),rowAt (n.map cc) ((n.length-1:Nat):Int)=some [TC.sub 5 l25]∧(∃(l26:RR),aa C cH ([TV.c (TC.sub 5 l25),AY k]) (TV.c (TC.sub 5 l26)) []∧(∃(l27:RR),rowAt (n.map cc) ((n.length-1:Nat):Int)=some [TC.sub 5 l27]∧(∃(l28:RR),rowAt (n.map cc) ((n.length-1:Nat):Int)=some [TC.sub 5 l28]∧(∃(b18:Bool),aa C bn ([TV.ag [TC.sub 1 (setRow (n.map cc) ((n.length-1:Nat):Int) 0 [TC.sub 5 l26])]]) (TV.c (iB b18)) []∧(aD b18 (Q (TV.tu [(1,[TC.sub 1 (setRow (n.map cc) ((n.length-1:Nat):Int) 0 [TC.sub 5 l26])]),(0,[iB true])]) ([])) (∃(l19:RR),aa C dw ([TV.ag [TC.sub 1 (n.map cc)],AY k]) (TV.c (TC.sub 5 l19)) []∧(∃(l20:RR),aa C bT ([TV.c (TC.sub 5 l19)]) (TV.ag [TC.sub 1 l20]) []∧(aD (bK 8 (Int.ofNat (List.length l19))) (∃(l21:RR),aa C aT ([TV.ag [TC.sub 1 (n.map cc)]]) (TV.ag [TC.sub 1 l21]) []∧(Q (TV.tu [(1,[TC.sub 1 l21]),(0,[iB false])]) ([]))) (∃(b22:Bool),aa C bn ([TV.ag [TC.sub 1 l20]]) (TV.c (iB b22)) []∧(aD (!b22) (∃(l23:RR),aa C aT ([TV.ag [TC.sub 1 (n.map cc)]]) (TV.ag [TC.sub 1 l23]) []∧(Q (TV.tu [(1,[TC.sub 1 l23]),(0,[iB false])]) ([]))) (Q (TV.tu [(1,[TC.sub 1 l20]),(0,[iB true])]) ([]))))))))))))) (aD (fits (Nat.succ (List.length n)) 24) (∃(b18:Bool),aa C bn ([TV.ag [TC.sub 1 (List.append (n.map cc) [[TC.sub 5 [[iI k.b,iI k.a,iI k.k,iI k.c,iI k.g]]]])]]) (TV.c (iB b18)) []∧(aD b18 (Q (TV.tu [(1,[TC.sub 1 (List.append (n.map cc) [[TC.sub 5 [[iI k.b,iI k.a,iI k.k,iI k.c,iI k.g]]]])]),(0,[iB true])]) ([])) (∃(l19:RR),aa C dw ([TV.ag [TC.sub 1 (n.map cc)],AY k]) (TV.c (TC.sub 5 l19)) []∧(∃(l20:RR),aa C bT ([TV.c (TC.sub 5 l19)]) (TV.ag [TC.sub 1 l20]) []∧(aD (bK 8 (Int.ofNat (List.length l19))) (∃(l21:RR),aa C aT ([TV.ag [TC.sub 1 (n.map cc)]]) (TV.ag [TC.sub 1 l21]) []∧(Q (TV.tu [(1,[TC.sub 1 l21]),(0,[iB false])]) ([]))) (∃(b22:Bool),aa C bn ([TV.ag [TC.sub 1 l20]]) (TV.c (iB b22)) []∧(aD (!b22) (∃(l23:RR),aa C aT ([TV.ag [TC.sub 1 (n.map cc)]]) (TV.ag [TC.sub 1 l23]) []∧(Q (TV.tu [(1,[TC.sub 1 l23]),(0,[iB false])]) ([]))) (Q (TV.tu [(1,[TC.sub 1 l20]),(0,[iB true])]) ([]))))))))) (False))))):=by
   intro Q hQ
   refine⟨_,_,_,_,_,_,B3 s k.b k.a hsl,?_⟩
   cases h1:(wV s k.b k.a).2 with
   |true=>
    have hX:n.set (n.length-1) (fe s k)=jr n k:=by unfold jr Dt;rw[hlast];simp[h1]
    refine ai rfl ⟨_,hrow,_,pz s k hsl,_,hrow,_,hrow,?_⟩
    rw[hset]
    exact tail _ _ hX hQ
   |false=>
    refine an rfl ⟨_,hrow,?_⟩
    by_cases h2:s.length<4
    ·have hX:n.set (n.length-1) (fe s k)=jr n k:=by unfold jr Dt;rw[hlast];simp[h1,h2]
     refine ai (by simp<;>omega) ⟨_,hrow,_,pz s k hsl,_,hrow,_,hrow,?_⟩
     rw[hset]
     exact tail _ _ hX hQ
    ·have hX:n++[[k]]=jr n k:=by unfold jr Dt;rw[hlast];simp[h1,h2]
     refine an (by simp<;>omega) (ai hfit ?_)
     rw[happ]
     exact tail _ _ hX hQ
  exact⟨(T6 (cj n k),[]),key (fun a b=>(a,b)=(T6 (cj n k),([]:List TV))) rfl,key (fun a b=>(a,b)=(T6 (cj n k),([]:List TV))) rfl,⟨rfl,rfl⟩⟩
theorem Ge (n:List (List Key)) (k:Key) (hb:n.length≤1073740000) (hl:tot bH n≤1073740000):aa C sP [fW n,AY k] (T6 (cj n k)) []:=by
 have hs: ∀s∈n,s.length≤1073741824:=fun s hm=>by have:=m6 (w:=bH) hm;unfold bH at this hl;omega
 have hcp:=si n (by omega) hs
 have hXl:=Du n k
 have hXt:=Dv n k
 have tail: ∀(X:List (List Key)) (Q:QV),X=jr n k→Q (T6 (cj n k)) []→ ∃(b22:Bool),aa C bM ([TV.ag [TC.sub 1 (X.map cc)]]) (TV.c (iB b22)) []∧(aD b22 (Q (TV.tu [(1,[TC.sub 1 (X.map cc)]),(0,[iB true])]) ([])) (∃(l23:RR),aa C aI ([TV.ag [TC.sub 1 (n.map cc)]]) (TV.c (TC.sub 5 l23)) []∧(∃(l24:RR),aa C bg ([TV.c (TC.sub 5 l23),AY k]) (TV.c (TC.sub 5 l24)) []∧(∃(l25:RR),aa C bV ([TV.c (TC.sub 5 l24)]) (TV.c (TC.sub 5 l25)) []∧(aD (bK 8 (Int.ofNat (List.length l25))) (∃(l26:RR),aa C bE ([TV.ag [TC.sub 1 (n.map cc)]]) (TV.ag [TC.sub 1 l26]) []∧(Q (TV.tu [(1,[TC.sub 1 l26]),(0,[iB false])]) ([]))) (∃(l27:RR),aa C az ([TV.c (TC.sub 5 l25)]) (TV.ag [TC.sub 1 l27]) []∧(∃(b28:Bool),aa C bM ([TV.ag [TC.sub 1 l27]]) (TV.c (iB b28)) []∧(aD (!b28) (∃(l29:RR),aa C bE ([TV.ag [TC.sub 1 (n.map cc)]]) (TV.ag [TC.sub 1 l29]) []∧(Q (TV.tu [(1,[TC.sub 1 l29]),(0,[iB false])]) ([]))) (∃(l30:RR),aa C az ([TV.c (TC.sub 5 l25)]) (TV.ag [TC.sub 1 l30]) []∧(Q (TV.tu [(1,[TC.sub 1 l30]),(0,[iB true])]) ([]))))))))))):=by
  intro X Q hX hQ
  rw[←hX] at hXl hXt
  have hok:aa C bM [fW X] (vB (ff X)) []:=r7 X (by omega) (by omega)
  have hkl:=og n k
  have hnl:=uV (cr n k)
  have hnt:=uW (cr n k)
  have hok2:aa C bM [fW (cF (cr n k))] (vB (ff (cF (cr n k)))) []:=r7 _ (by omega) (by omega)
  refine⟨_,hok,?_⟩
  unfold cj at hQ
  rw[←hX] at hQ
  cases h1:ff X with
  |true=>
   rw[if_pos h1] at hQ
   exact ai rfl hQ
  |false=>
   rw[if_neg (by rw[h1];simp)] at hQ
   have g1:=cV n
   have g2:=nQ (aR n) k
   refine an rfl ⟨_,(eA n (by omega) (by omega) _).2 rfl,_,mA (aR n) k (by omega),_,wD (fe (aR n) k) (by omega),?_⟩
   change aD (bK 8 (Int.ofNat (List.length ((cr n k).map bN)))) _ _
   by_cases h2:8<(cr n k).length
   ·rw[if_pos h2] at hQ
    exact ai (by simp<;>omega) ⟨_,hcp,hQ⟩
   ·rw[if_neg h2] at hQ
    refine an (by simp<;>omega) ⟨_,iV (cr n k) (by omega),_,hok2,?_⟩
    cases h3:ff (cF (cr n k)) with
    |true=>
     rw[if_pos h3] at hQ
     exact an rfl ⟨_,iV (cr n k) (by omega),hQ⟩
    |false=>
     rw[if_neg (by rw[h3];simp)] at hQ
     exact ai rfl ⟨_,hcp,hQ⟩
 refine(LV _ _ _ _ _ _ _ ⟨_,hcp,?_⟩).run
 rw[List.length_map]
 cases hlast:n[n.length-1]? with
 |none=>
  have h0:n.length=0:=Classical.byContradiction fun h=>by rw[List.getElem?_eq_getElem (by omega)] at hlast;cases hlast
  have hX:n++[[k]]=jr n k:=by unfold jr;rw[hlast]
  refine an (by rw[h0,dg (by simp)];simp) (an (by rw[h0,dg (by simp)];simp) (ai (cY (by simp<;>omega)) ?_))
  rw[show List.append (n.map cc) [[TC.sub 5 [[iI k.b,iI k.a,iI k.k,iI k.c,iI k.g]]]]=(n++[[k]]).map cc from by simp[cc,bN]]
  exact tail _ (fun r fs=>r=T6 (cj n k)∧fs=[]) hX ⟨rfl,by first|rfl|trivial⟩
 |some s=>
  have hlt:=(List.getElem?_eq_some_iff.1 hlast).1
  have hsub:cA (Int.ofNat n.length) 1=((n.length-1:Nat):Int):=by rw[dg (by simp<;>omega)];simp;omega
  have hrow:rowAt (n.map cc) ((n.length-1:Nat):Int)=some [TC.sub 5 (s.map bN)]:=by rw[bR,aL,hlast];rfl
  have hsl:=hs s (List.mem_of_getElem? hlast)
  have hset:setRow (n.map cc) ((n.length-1:Nat):Int) 0 [TC.sub 5 ((fe s k).map bN)]=(n.set (n.length-1) (fe s k)).map cc:=KU (a:=s) (a':=fe s k) hlast rfl
  have happ:List.append (n.map cc) [[TC.sub 5 [[iI k.b,iI k.a,iI k.k,iI k.c,iI k.g]]]]=(n++[[k]]).map cc:=by simp[cc,bN]
  have hfit:fits (Nat.succ n.length) 24=true:=cY (by simp<;>omega)
  rw[hsub]
  refine ai (by simp) ⟨_,hrow,_,hrow,_,_,_,_,_,_,B2 s k.b k.a hsl,ai (by simp) ⟨_,hrow,_,hrow,?_⟩⟩
  by_cases h2:s.length<4
  ·have hX:n.set (n.length-1) (fe s k)=jr n k:=by unfold jr Dt;rw[hlast];simp[h2]
   refine ai (by simp<;>omega) ⟨_,hrow,_,hrow,_,mA s k hsl,_,hrow,_,hrow,?_⟩
   rw[hset]
   exact tail _ (fun r fs=>r=T6 (cj n k)∧fs=[]) hX ⟨rfl,by first|rfl|trivial⟩
  ·refine an (by simp<;>omega) ?_
   cases h1:(wV s k.b k.a).2 with
   |true=>
    have hX:n.set (n.length-1) (fe s k)=jr n k:=by unfold jr Dt;rw[hlast];simp[h1]
    refine ai rfl ⟨_,hrow,_,hrow,_,mA s k hsl,_,hrow,_,hrow,?_⟩
    rw[hset]
    exact tail _ (fun r fs=>r=T6 (cj n k)∧fs=[]) hX ⟨rfl,by first|rfl|trivial⟩
   |false=>
    have hX:n++[[k]]=jr n k:=by unfold jr Dt;rw[hlast];simp[h1,h2]
    refine an rfl (ai hfit ?_)
    rw[happ]
    exact tail _ (fun r fs=>r=T6 (cj n k)∧fs=[]) hX ⟨rfl,by first|rfl|trivial⟩
theorem tW (t:Tree) (i:Nat) (lw:List Int) (nd:List (List (List Key))) (h1:i+1≤t.lows.length) (h2:i+1≤t.nodes.length) (hl:t.lows.length≤1073741824) (hn:t.nodes.length≤1073741824) (hlw:lw.length≤1073741824) (hnd:nd.length≤1073741824):aa C aG [dn t,vI (i:Int),ki lw,tM nd] (dn (kr t i 1 lw nd)) []:=by
 have e1:ax (t.lows.map bL) 0 (i:Int)=(t.lows.take i).map bL:=by rw[ct];rfl
 have e2:ax (t.lows.map bL) ((i:Int)+1) (Int.ofNat (t.lows.map bL).length)=(t.lows.drop (i+1)).map bL:=by
  rw[ct,List.length_map,show((i:Int)+1).toNat=i+1 from by omega,show(Int.ofNat t.lows.length).toNat=t.lows.length from rfl,List.take_length]
 have e3:ax (t.nodes.map aW) 0 (i:Int)=(t.nodes.take i).map aW:=by rw[ct];rfl
 have ea:aA (i:Int) 1=(i:Int)+1:=aJ (by omega)
 have k1:(t.lows.take i).length≤t.lows.length:=by rw[List.length_take];omega
 have k2:(t.lows.drop (i+1)).length≤t.lows.length:=by rw[List.length_drop];omega
 have k3:(t.nodes.take i).length≤t.nodes.length:=by rw[List.length_take];omega
 have k4:(t.nodes.drop (i+1)).length≤t.nodes.length:=by rw[List.length_drop];omega
 have e4:ax (t.nodes.map aW) ((i:Int)+1) (Int.ofNat (t.nodes.map aW).length)=(t.nodes.drop (i+1)).map aW:=by
  rw[ct,List.length_map,show((i:Int)+1).toNat=i+1 from by omega,show(Int.ofNat t.nodes.length).toNat=t.nodes.length from rfl,List.take_length]
 refine(PV _ _ _ _ _ _ ?_).run
 rw[ea,e1,e2,e3,e4,jJ,jJ,jJ,jJ]
 refine ai (by simp<;>omega) (ai (by simp<;>omega) (ai (by rw[jU,cY (by simp<;>omega)];rfl) (ai (by rw[jU,cY (by simp only[List.length_map,Nat.add_eq];omega)];rfl) (ai (by rw[jU,cY (by simp only[List.length_map,List.length_append,Nat.add_eq];omega)];rfl)
  (ai (by simp<;>omega) (ai (by simp<;>omega) (ai (cY (by simp<;>omega)) (ai (cY (by simp only[List.length_map,Nat.add_eq];omega)) (ai (cY (by simp only[List.length_map,List.length_append,Nat.add_eq];omega)) ?_)))))))))
 exact⟨rfl,by first|rfl|trivial⟩
attribute [local semireducible] gZ ax in
theorem Ue {rows:RR} {i c:Nat} (hk:i+c≤rows.length):ax (gZ 1 rows 0 (i:Int)) ((i:Int)+(c:Int)) (Int.ofNat rows.length)=rows.drop (i+c):=by
 unfold ax gZ
 rw[Int.toNat_natCast,show((i:Int)+(c:Int)).toNat=i+c from by omega,show(0:Int).toNat=0 from rfl,show(Int.ofNat rows.length).toNat=rows.length from rfl,List.take_zero,List.nil_append,Nat.sub_zero]
 rw[List.take_of_length_le (by simp<;>omega),List.drop_append,List.length_replicate,List.drop_of_length_le (by simp),List.nil_append,List.drop_drop]
 congr 1;omega
theorem qE (t:Tree) (i c:Nat) (lw:List Int) (nd:List (List (List Key))) (h1:i+c≤t.lows.length) (h2:i+c≤t.nodes.length) (hl:t.lows.length≤1073741824) (hn:t.nodes.length≤1073741824) (hlw:lw.length≤1073741824) (hnd:nd.length≤1073741824):aa C dI [dn t,vI (i:Int),vI (c:Int),ki lw,tM nd] (dn (kr t i c lw nd)) []:=by
 have e1:ax (t.lows.map bL) 0 (i:Int)=(t.lows.take i).map bL:=by rw[ct];rfl
 have e2:ax (t.lows.map bL) ((i:Int)+(c:Int)) (Int.ofNat (t.lows.map bL).length)=(t.lows.drop (i+c)).map bL:=by
  rw[ct,List.length_map,show((i:Int)+(c:Int)).toNat=i+c from by omega,show(Int.ofNat t.lows.length).toNat=t.lows.length from rfl,List.take_length]
 have e3:ax (t.nodes.map aW) 0 (i:Int)=(t.nodes.take i).map aW:=by rw[ct];rfl
 have ea:aA (i:Int) (c:Int)=(i:Int)+(c:Int):=aJ (by omega)
 have k1:(t.lows.take i).length≤t.lows.length:=by rw[List.length_take];omega
 have k2:(t.lows.drop (i+c)).length≤t.lows.length:=by rw[List.length_drop];omega
 have k3:(t.nodes.take i).length≤t.nodes.length:=by rw[List.length_take];omega
 have k4:(t.nodes.drop (i+c)).length≤t.nodes.length:=by rw[List.length_drop];omega
 have e4:ax (gZ 1 (t.nodes.map aW) 0 (i:Int)) ((i:Int)+(c:Int)) (Int.ofNat (t.nodes.map aW).length)=(t.nodes.drop (i+c)).map aW:=by
  rw[Ue (by rw[List.length_map];exact h2),List.map_drop]
 refine(JI _ _ _ _ _ _ _ ?_).run
 rw[ea,e1,e2,e3,e4]
 refine ai (by simp<;>omega) ⟨_,u9 (t.lows.take i) (by omega),?_⟩
 rw[jJ,jJ,jJ,jJ]
 refine ai (by simp<;>omega) (ai (by rw[jU,cY (by simp only[List.length_map,Nat.add_eq];omega)];rfl) (ai (by rw[jU,cY (by simp only[List.length_map,List.length_append,Nat.add_eq];omega)];rfl)
  (ai (by simp<;>omega) (ai (by simp<;>omega) (ai (cY (by simp<;>omega)) (ai (cY (by simp only[List.length_map,Nat.add_eq];omega)) (ai (cY (by simp only[List.length_map,List.length_append,Nat.add_eq];omega)) ?_)))))))
 exact⟨rfl,by first|rfl|trivial⟩
def Ox:Option Nat→Int
 |some i=>i
 |none=> -1
theorem sj (t:Tree) (hn:t.nodes.length≤1073741824) (hz:tot aQ t.nodes≤1073740000):aa C gq [dn t] (vI (Ox (oO t))) []:=by
 refine(NH _ _ _ ?_).run
 have key: ∀(d i:Nat),i+d=t.nodes.length→rL t d i=oO t→ah C gq ak 4 0 (pU (i:Int) (t.lows.map bL) (t.nodes.map aW)) (fun x st=>aF C gq ak x st fun r fs=>r=vI (Ox (oO t))∧fs=[]):=by
  intro d
  induction d with
  |zero=>
   intro i h he
   have ea:aA (i:Int) 1=(i:Int)+1:=aJ (by omega)
   refine AR _ _ _ _ ?_
   rw[ea]
   exact an (by simp<;>omega) (AS _ _ _ _ _ ⟨by rw[←he];rfl,rfl⟩)
  |succ d ih=>
   intro i h he
   have ea:aA (i:Int) 1=(i:Int)+1:=aJ (by omega)
   have ec:(i:Int)+1=((i+1:Nat):Int):=by omega
   unfold rL at he
   refine AR _ _ _ _ ?_
   rw[ea,ec]
   by_cases h1:i+1<t.nodes.length
   ·rw[if_pos h1] at he
    obtain⟨a,ha⟩: ∃a,t.nodes[i]?=some a:=⟨_,List.getElem?_eq_getElem (by omega)⟩
    obtain⟨b,hb⟩: ∃b,t.nodes[i+1]?=some b:=⟨_,List.getElem?_eq_getElem h1⟩
    have za:a.length+tot bH a≤tot aQ t.nodes:=kk (w:=aQ) ha
    have zb:b.length+tot bH b≤tot aQ t.nodes:=kk (w:=aQ) hb
    have ka:iL t i=aR a:=by unfold iL;rw[List.getD_eq_getElem?_getD,ha];rfl
    have kb:iL t (i+1)=aR b:=by unfold iL;rw[List.getD_eq_getElem?_getD,hb];rfl
    have la:=cV a
    have lb:=cV b
    rw[ka,kb] at he
    refine ai (by simp<;>omega) ⟨_,by rw[bR,aL,ha];rfl,_,by rw[bR,aL,hb];rfl,_,(eA a (by omega) (by omega) _).2 rfl,_,(eA b (by omega) (by omega) _).2 rfl,?_⟩
    rw[List.length_map,List.length_map,show aA (Int.ofNat (aR a).length) (Int.ofNat (aR b).length)=((aR a).length:Int)+(aR b).length from aJ (by simp<;>omega)]
    by_cases h2:(aR a).length+(aR b).length≤6
    ·rw[if_pos h2] at he
     exact ai (by simp<;>omega) (JO _ _ _ _ _ _ ⟨by rw[←he];rfl,rfl⟩)
    ·rw[if_neg h2] at he
     exact an (by simp<;>omega) (ih (i+1) (by omega) he)
   ·rw[if_neg h1] at he
    exact an (by simp<;>omega) (AS _ _ _ _ _ ⟨by rw[←he];rfl,rfl⟩)
 exact key t.nodes.length 0 (by omega) rfl
theorem Ie (t0:Tree) (hw0:t0.lows.length=t0.nodes.length) (hz0:tot aQ t0.nodes+t0.nodes.length≤1073700000):aa C au [dn t0] (dn (ku t0.nodes.length t0)) []:=by
 refine(M3 _ _ _ ⟨_,sj t0 (by omega) (by omega),?_⟩).run
 have key: ∀(m:Nat) (t:Tree),t.nodes.length=m→t.lows.length=t.nodes.length→tot aQ t.nodes+t.nodes.length≤1073700000→ku m t=ku t0.nodes.length t0→ah C au ak 4 0 (mG (Ox (oO t)) (t.lows.map bL) (t.nodes.map aW)) (fun x st=>aF C au ak x st fun r fs=>r=dn (ku t0.nodes.length t0)∧fs=[]):=by
  intro m
  induction m with
  |zero=>
   intro t hm hw hz he
   have hp:oO t=none:=by unfold oO;rw[hm];rfl
   rw[hp]
   exact so _ _ _ _ (an (by simp[Ox]) (Ap _ _ _ _ _ ⟨by rw[←he];rfl,rfl⟩))
  |succ m ih=>
   intro t hm hw hz he
   rw[rm] at he
   cases hp:oO t with
   |none=>
    rw[hp] at he
    have he:t=ku t0.nodes.length t0:=he
    exact so _ _ _ _ (an (by simp[Ox]) (Ap _ _ _ _ _ ⟨by rw[←he],rfl⟩))
   |some i=>
   rw[hp] at he
   have he:ku m (cM t i)=ku t0.nodes.length t0:=he
   have hlt:=rj hp
   show ah C au ak 4 0 (mG (i:Int) (t.lows.map bL) (t.nodes.map aW)) _
   obtain⟨a,ha⟩: ∃a,t.nodes[i]?=some a:=⟨_,List.getElem?_eq_getElem (by omega)⟩
   obtain⟨b,hb⟩: ∃b,t.nodes[i+1]?=some b:=⟨_,List.getElem?_eq_getElem hlt.1⟩
   have za:a.length+tot bH a≤tot aQ t.nodes:=kk (w:=aQ) ha
   have zb:b.length+tot bH b≤tot aQ t.nodes:=kk (w:=aQ) hb
   have la:=cV a
   have lb:=cV b
   have h6:=hlt.2
   rw[gH ha,gH hb] at h6
   have ea:aA (i:Int) 1=((i+1:Nat):Int):=by rw[aJ (by omega)];omega
   have eb:aA (i:Int) 2=((i+2:Nat):Int):=by rw[aJ (by omega)];omega
   have ra:rowAt (t.nodes.map aW) (i:Int)=some [TC.sub 1 (a.map cc)]:=by rw[bR,aL,ha];rfl
   have rb:rowAt (t.nodes.map aW) ((i+1:Nat):Int)=some [TC.sub 1 (b.map cc)]:=by rw[bR,aL,hb];rfl
   have c1:ax (t.lows.map bL) 0 ((i+1:Nat):Int)=(t.lows.take (i+1)).map bL:=by rw[ct];rfl
   have c2:ax (t.lows.map bL) ((i+2:Nat):Int) (Int.ofNat (t.lows.map bL).length)=(t.lows.drop (i+2)).map bL:=by
    rw[ct,List.length_map,Int.toNat_natCast,show(Int.ofNat t.lows.length).toNat=t.lows.length from rfl,List.take_length]
   have c3:ax (t.nodes.map aW) 0 (i:Int)=(t.nodes.take i).map aW:=by rw[ct];rfl
   have c4:ax (t.nodes.map aW) ((i+2:Nat):Int) (Int.ofNat (t.nodes.map aW).length)=(t.nodes.drop (i+2)).map aW:=by
    rw[ct,List.length_map,Int.toNat_natCast,show(Int.ofNat t.nodes.length).toNat=t.nodes.length from rfl,List.take_length]
   have hlo:i<t.lows.length:=by omega
   have eL:List.append ((t.lows.take (i+1)).map bL) ((t.lows.drop (i+2)).map bL)=(cM t i).lows.map bL:=by
    rw[jJ]
    unfold cM kr
    simp only[]
    rw[List.take_add_one,List.getD_eq_getElem?_getD,List.getElem?_eq_getElem hlo]
    simp
   have eN:List.append (List.append ((t.nodes.take i).map aW) [[TC.sub 1 ((cF (aR a++aR b)).map cc)]]) ((t.nodes.drop (i+2)).map aW)=(cM t i).nodes.map aW:=by
    rw[EH,jJ]
    unfold cM kr
    simp only[]
    rw[gH ha,gH hb]
   have hsz:=uZ hlt.1
   have hjl:=sN hlt.1
   have hjw:(cM t i).lows.length+1=t.lows.length:=by
    have:=yz t i 2 [t.lows.getD i 0] [cF (iL t i++iL t (i+1))] (by omega)
    unfold cM
    simp only[List.length_singleton] at this
    omega
   have k1:(t.lows.take (i+1)).length≤t.lows.length:=by rw[List.length_take];omega
   have k2:(t.lows.drop (i+2)).length≤t.lows.length:=by rw[List.length_drop];omega
   have k3:(t.nodes.take i).length≤t.nodes.length:=by rw[List.length_take];omega
   have k4:(t.nodes.drop (i+2)).length≤t.nodes.length:=by rw[List.length_drop];omega
   refine so _ _ _ _ (ai (by simp) ?_)
   rw[ea,eb]
   refine⟨_,ra,_,ra,_,rb,_,rb,_,(eA a (by omega) (by omega) _).2 rfl,_,(eA b (by omega) (by omega) _).2 rfl,?_⟩
   rw[jJ,c1,c2,c3,c4]
   refine ai (by rw[jV,cY (by simp only[List.length_map,Nat.add_eq];omega)];rfl) (ai (by simp<;>omega) (ai (by simp<;>omega) (ai (by rw[jU,cY (by simp only[List.length_map,Nat.add_eq];omega)];rfl) (ai (by rw[jU,cY (by simp only[List.length_map,Nat.add_eq];omega)];rfl)
    (ai (by simp<;>omega) (ai (by simp<;>omega) (ai (cY (by simp only[List.length_map,Nat.add_eq];omega)) ⟨_,iV (aR a++aR b) (by rw[List.length_append];omega),ai (cY (by simp only[List.length_map,Nat.succ_eq_add_one];omega)) ?_⟩)))))))
   rw[eL,eN]
   refine ai (cY (by rw[EH];simp only[List.length_map,List.length_append,List.length_singleton,Nat.add_eq];omega)) ⟨_,sj (cM t i) (by omega) (by omega),?_⟩
   exact ih (cM t i) (by omega) (by omega) (by omega) he
 cases hp:oO t0 with
 |none=>
  have hj:ku t0.nodes.length t0=t0:=by
   cases hm:t0.nodes.length with
   |zero=>rfl
   |succ m=>rw[rm,hp]
  exact Ao _ _ _ _ (an (by simp[Ox]) (IZ _ _ _ _ _ ⟨by rw[hj],rfl⟩))
 |some i=>
  have hlt:=rj hp
  obtain⟨t,ht⟩: ∃t,t=t0:=⟨_,rfl⟩
  rw[←ht] at hlt hw0 hz0 hp ⊢
  show ah C au ak 4 0 (sk (i:Int) (t.lows.map bL) (t.nodes.map aW)) _
  obtain⟨a,ha⟩: ∃a,t.nodes[i]?=some a:=⟨_,List.getElem?_eq_getElem (by omega)⟩
  obtain⟨b,hb⟩: ∃b,t.nodes[i+1]?=some b:=⟨_,List.getElem?_eq_getElem hlt.1⟩
  have za:a.length+tot bH a≤tot aQ t.nodes:=kk (w:=aQ) ha
  have zb:b.length+tot bH b≤tot aQ t.nodes:=kk (w:=aQ) hb
  have la:=cV a
  have lb:=cV b
  have h6:=hlt.2
  rw[gH ha,gH hb] at h6
  have ea:aA (i:Int) 1=((i+1:Nat):Int):=by rw[aJ (by omega)];omega
  have eb:aA (i:Int) 2=((i+2:Nat):Int):=by rw[aJ (by omega)];omega
  have ra:rowAt (t.nodes.map aW) (i:Int)=some [TC.sub 1 (a.map cc)]:=by rw[bR,aL,ha];rfl
  have rb:rowAt (t.nodes.map aW) ((i+1:Nat):Int)=some [TC.sub 1 (b.map cc)]:=by rw[bR,aL,hb];rfl
  have c1:ax (t.lows.map bL) 0 ((i+1:Nat):Int)=(t.lows.take (i+1)).map bL:=by rw[ct];rfl
  have c2:ax (t.lows.map bL) ((i+2:Nat):Int) (Int.ofNat (t.lows.map bL).length)=(t.lows.drop (i+2)).map bL:=by
   rw[ct,List.length_map,Int.toNat_natCast,show(Int.ofNat t.lows.length).toNat=t.lows.length from rfl,List.take_length]
  have c3:ax (t.nodes.map aW) 0 (i:Int)=(t.nodes.take i).map aW:=by rw[ct];rfl
  have c4:ax (t.nodes.map aW) ((i+2:Nat):Int) (Int.ofNat (t.nodes.map aW).length)=(t.nodes.drop (i+2)).map aW:=by
   rw[ct,List.length_map,Int.toNat_natCast,show(Int.ofNat t.nodes.length).toNat=t.nodes.length from rfl,List.take_length]
  have hlo:i<t.lows.length:=by omega
  have eL:List.append ((t.lows.take (i+1)).map bL) ((t.lows.drop (i+2)).map bL)=(cM t i).lows.map bL:=by
   rw[jJ]
   unfold cM kr
   simp only[]
   rw[List.take_add_one,List.getD_eq_getElem?_getD,List.getElem?_eq_getElem hlo]
   simp
  have eN:List.append (List.append ((t.nodes.take i).map aW) [[TC.sub 1 ((cF (aR a++aR b)).map cc)]]) ((t.nodes.drop (i+2)).map aW)=(cM t i).nodes.map aW:=by
   rw[EH,jJ]
   unfold cM kr
   simp only[]
   rw[gH ha,gH hb]
  have hsz:=uZ hlt.1
  have hjl:=sN hlt.1
  have hjw:(cM t i).lows.length+1=t.lows.length:=by
   have:=yz t i 2 [t.lows.getD i 0] [cF (iL t i++iL t (i+1))] (by omega)
   unfold cM
   simp only[List.length_singleton] at this
   omega
  have k1:(t.lows.take (i+1)).length≤t.lows.length:=by rw[List.length_take];omega
  have k2:(t.lows.drop (i+2)).length≤t.lows.length:=by rw[List.length_drop];omega
  have k3:(t.nodes.take i).length≤t.nodes.length:=by rw[List.length_take];omega
  have k4:(t.nodes.drop (i+2)).length≤t.nodes.length:=by rw[List.length_drop];omega
  refine Ao _ _ _ _ (ai (by simp) ?_)
  rw[ea,eb]
  refine⟨_,ra,_,rb,_,(eA a (by omega) (by omega) _).2 rfl,_,(eA b (by omega) (by omega) _).2 rfl,?_⟩
  rw[jJ,c1,c2,c3,c4]
  refine ai (by rw[jV,cY (by simp only[List.length_map,Nat.add_eq];omega)];rfl) (ai (by simp<;>omega) (ai (by simp<;>omega) (ai (by rw[jU,cY (by simp only[List.length_map,Nat.add_eq];omega)];rfl) (ai (by rw[jU,cY (by simp only[List.length_map,Nat.add_eq];omega)];rfl)
   (ai (by simp<;>omega) (ai (by simp<;>omega) (ai (cY (by simp only[List.length_map,Nat.add_eq];omega)) ⟨_,iV (aR a++aR b) (by rw[List.length_append];omega),ai (cY (by simp only[List.length_map,Nat.succ_eq_add_one];omega)) ?_⟩)))))))
  rw[eL,eN]
  refine ai (cY (by rw[EH];simp only[List.length_map,List.length_append,List.length_singleton,Nat.add_eq];omega)) ⟨_,sj (cM t i) (by omega) (by omega),?_⟩
  refine ht▸key (cM t i).nodes.length (cM t i) rfl (by omega) (by omega) ?_
  rw[←ht]
  have:t.nodes.length=(cM t i).nodes.length+1:=by omega
  rw[this]
  rw[rm,hp]
theorem HB (t u:Tree) (hw:t.lows.length=t.nodes.length) (hz:tot aQ t.nodes+t.nodes.length≤1073700000) (E:oO t=none→t=u)
 (N: ∀i,oO t=some i→ah C bX ak 4 0 (jj ((0:Nat):Int) ((cM t i).lows.map bL) ((cM t i).nodes.map aW)) (fun x st=>aF C bX ak x st fun r fs=>r=dn u∧fs=[])):
 ∀d i,i+d=t.nodes.length→rL t d i=oO t→ah C bX ak 4 0 (jj (i:Int) (t.lows.map bL) (t.nodes.map aW)) (fun x st=>aF C bX ak x st fun r fs=>r=dn u∧fs=[]):=by
 intro d
 induction d with
 |zero=>
  intro i h he
  have ea:aA (i:Int) 1=(i:Int)+1:=aJ (by omega)
  refine Ax _ _ _ _ ?_
  rw[ea]
  exact an (by simp<;>omega) (Ay _ _ _ _ _ ⟨by rw[E (by rw[←he];rfl)],rfl⟩)
 |succ d ih=>
  intro i h he
  have ea:aA (i:Int) 1=(i:Int)+1:=aJ (by omega)
  have ec:(i:Int)+1=((i+1:Nat):Int):=by omega
  unfold rL at he
  refine Ax _ _ _ _ ?_
  rw[ea,ec]
  by_cases h1:i+1<t.nodes.length
  ·rw[if_pos h1] at he
   obtain⟨a,ha⟩: ∃a,t.nodes[i]?=some a:=⟨_,List.getElem?_eq_getElem (by omega)⟩
   obtain⟨b,hb⟩: ∃b,t.nodes[i+1]?=some b:=⟨_,List.getElem?_eq_getElem h1⟩
   have za:a.length+tot bH a≤tot aQ t.nodes:=kk (w:=aQ) ha
   have zb:b.length+tot bH b≤tot aQ t.nodes:=kk (w:=aQ) hb
   have la:=cV a
   have lb:=cV b
   rw[gH ha,gH hb] at he
   have ra:rowAt (t.nodes.map aW) (i:Int)=some [TC.sub 1 (a.map cc)]:=by rw[bR,aL,ha];rfl
   have rb:rowAt (t.nodes.map aW) ((i+1:Nat):Int)=some [TC.sub 1 (b.map cc)]:=by rw[bR,aL,hb];rfl
   refine ai (by simp<;>omega) ⟨_,ra,_,ra,_,rb,_,rb,_,(je a (by omega) (by omega) _).2 rfl,_,(je b (by omega) (by omega) _).2 rfl,ai (by rw[jV,cY (by simp only[List.length_map,Nat.add_eq];omega)];rfl) ?_⟩
   rw[jJ]
   by_cases h2:(aR a).length+(aR b).length≤6
   ·rw[if_pos h2] at he
    have hlo:i<t.lows.length:=by omega
    have hlw:rowAt (t.lows.map bL) (i:Int)=some [iI (t.lows.getD i 0)]:=by
     rw[bR,aL,List.getD_eq_getElem?_getD,List.getElem?_eq_getElem hlo];rfl
    have hnn:=m9 (aR a++aR b) (by rw[List.length_append];omega)
    have hrp:=qE t i 2 [t.lows.getD i 0] [cF (aR a++aR b)] (by omega) (by omega) (by omega) (by omega) (by simp) (by simp)
    have ej:kr t i 2 [t.lows.getD i 0] [cF (aR a++aR b)]=cM t i:=by unfold cM;rw[gH ha,gH hb]
    rw[ej] at hrp
    have hN:=N i he.symm
    rw[←show aA (-1) 1=((0:Nat):Int) from by rw[aJ (by omega)];rfl] at hN
    exact ai (by simp[fm]<;>omega) ⟨_,hlw,_,hlw,_,hnn,_,_,hrp,⟨_,hnn,_,_,hrp,⟨_,_,hrp,rfl⟩,rfl⟩,hN⟩
   ·rw[if_neg h2] at he
    exact an (by simp[fm]<;>omega) (ih (i+1) (by omega) he)
  ·rw[if_neg h1] at he
   exact an (by simp<;>omega) (Ay _ _ _ _ _ ⟨by rw[E he.symm],rfl⟩)
theorem Ig (t0:Tree) (hw0:t0.lows.length=t0.nodes.length) (hz0:tot aQ t0.nodes+t0.nodes.length≤1073700000):aa C bX [dn t0] (dn (ku t0.nodes.length t0)) []:=by
 refine(Nj _ _ _ ?_).run
 have key: ∀(m:Nat) (t:Tree),t.nodes.length=m→t.lows.length=t.nodes.length→tot aQ t.nodes+t.nodes.length≤1073700000→ah C bX ak 4 0 (jj ((0:Nat):Int) (t.lows.map bL) (t.nodes.map aW)) (fun x st=>aF C bX ak x st fun r fs=>r=dn (ku m t)∧fs=[]):=by
  intro m
  induction m with
  |zero=>
   intro t hm hw hz
   exact HB t (ku 0 t) hw hz (fun _=>rfl) (fun i hi=>by have:=(rj hi).1;omega) t.nodes.length 0 (by omega) rfl
  |succ m ih=>
   intro t hm hw hz
   refine HB t (ku (m+1) t) hw hz (fun h=>(Su h).symm) (fun i hi=> ?_) t.nodes.length 0 (by omega) rfl
   have h1:=sN (rj hi).1
   have h2:=uZ (rj hi).1
   have:=ih (cM t i) (by omega) (CZ (rj hi).1 hw) (by omega)
   rw[rm,hi]
   exact this
 exact key t0.nodes.length t0 rfl hw0 hz0
theorem Sz {t:Tree} {i:Nat} {n:List (List Key)} (h1:i<t.lows.length) (h2:i<t.nodes.length):kr t i 1 [t.lows.getD i 0] [n]=⟨t.lows,t.nodes.set i n⟩:=by
 unfold kr
 rw[List.set_eq_take_append_cons_drop,if_pos h2,List.getD_eq_getElem?_getD,List.getElem?_eq_getElem h1]
 have e:t.lows.take i++[t.lows[i]]++t.lows.drop (i+1)=t.lows:=by
  rw[List.append_assoc,List.singleton_append,←List.drop_eq_getElem_cons h1,List.take_append_drop]
 simp only[Option.getD_some,e,List.append_assoc,List.singleton_append]
theorem Zy {n:Nat} (h:n≤1073741824):bB .i64 (aA (Int.ofNat n) 1) 2=(((n+1)/2:Nat):Int):=by
 rw[aJ (by simp;omega)]
 unfold bB
 rw[Int.tdiv_eq_ediv_of_nonneg (by simp;omega),show IntKind.wrap .i64 ((Int.ofNat n+1)/2)=(Int.ofNat n+1)/2 from IntWalk.i64_in _ (by simp;omega)]
 simp
end Go.T.R
