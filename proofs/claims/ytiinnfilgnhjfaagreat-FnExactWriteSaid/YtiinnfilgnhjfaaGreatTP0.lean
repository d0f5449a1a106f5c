/- What the functions answer. -/
import Derived.Test.YtiinnfilgnhjfaaGreatTR1
set_option linter.unusedVariables false
set_option linter.unusedSimpArgs false
set_option maxRecDepth 100000
set_option maxHeartbeats 4000000
namespace Go.T.R
open Go Go.T
theorem toKey (v0:Int) (v1:Int) (v2:Int) (v3:Int) (v4:Int):aa C CD [.ag [iI v0,iI v1,iI v2,iI v3,iI v4]] (.ag [iI v0,iI v1,iI v2,iI v3,iI v4]) []:=(N9 _ _ _ _ _ _ ⟨rfl,by first|rfl|trivial⟩).run
theorem X4 (v0:Int) (v1:Int) (v2:Int) (v3:Int) (v4:Int):aa C CF [.ag [iI v0,iI v1,iI v2,iI v3,iI v4],.ag [iI v0,iI v1,iI v2,iI v3,iI v4]] (vB true) []:=by
 refine(Og _ _ _ _ _ _ _ _ _ _ _ ?_).run
 simp
theorem W3 (l:List (Key)) (hl:l.length≤1099511627776):aa C jY [cT l] (cT l) []:=by
 refine(LZ _ _ ?_).run
 simp only[List.length_map]
 refine ai (by simp;omega) ?_
 simp only[fF,xQ,Int.toNat_natCast]
 refine xT (e:=bN) (z:=[iI 0,iI 0,iI 0,iI 0,iI 0]) l (fun i rows=>ah C jY ak 4 0 (oT (l.map bN) i rows) _) (fun a=>rfl) ?_ ?_
 ·exact zM _ _ _ _ (au (by simp) (H9 _ _ _ _ _ ⟨rfl,by first|rfl|trivial⟩))
 ·intro i rows a hi ha hr hn
  refine zM _ _ _ _ (ai (by simp;omega) ⟨_,_,_,_,_,cF ha,_,_,_,_,_,toKey _ _ _ _ _,_,_,_,_,_,hr,_,_,_,_,_,hr,?_⟩)
  rw[aJ (by omega)]
  exact hn
theorem W4 (l:List (Key)) (hl:l.length≤1099511627776):aa C jZ [cT l,cT l] (vB true) []:=by
 refine(Mk _ _ _ ?_).run
 refine au (by simp) ?_
 refine bD l (fun i=>ah C jZ ak 4 0 (oY (l.map bN) (l.map bN) i) _) ?_ ?_
 ·exact z8 _ _ _ _ (au (by simp) (IG _ _ _ _ _ ⟨rfl,by first|rfl|trivial⟩))
 ·intro i a hi ha _ _ hn
  refine z8 _ _ _ _ (ai (by simp;omega) ⟨_,_,_,_,_,cF ha,_,_,_,_,_,cF ha,_,X4 _ _ _ _ _,au (by simp) ?_⟩)
  rw[aJ (by omega)]
  exact hn
theorem X5 (v0:Int) (v1:Int):aa C Cy [.ag [iI v0,iI v1]] (.ag [iI v0,iI v1]) []:=(Oh _ _ _ ⟨rfl,by first|rfl|trivial⟩).run
theorem X6 (v0:Int) (v1:Int):aa C CA [.ag [iI v0,iI v1],.ag [iI v0,iI v1]] (vB true) []:=by
 refine(N2 _ _ _ _ _ ?_).run
 simp
theorem W5 (l:List (Age)) (hl:l.length≤1099511627776):aa C jQ [jK l] (jK l) []:=by
 refine(LP _ _ ?_).run
 simp only[List.length_map]
 refine ai (by simp;omega) ?_
 simp only[fF,xQ,Int.toNat_natCast]
 refine xT (e:=dY) (z:=[iI 0,iI 0]) l (fun i rows=>ah C jQ ak 4 0 (oQ (l.map dY) i rows) _) (fun a=>rfl) ?_ ?_
 ·exact zE _ _ _ _ (au (by simp) (HK _ _ _ _ _ ⟨rfl,by first|rfl|trivial⟩))
 ·intro i rows a hi ha hr hn
  refine zE _ _ _ _ (ai (by simp;omega) ⟨_,_,cF ha,_,_,X5 _ _,_,_,hr,_,_,hr,?_⟩)
  rw[aJ (by omega)]
  exact hn
theorem W6 (l:List (Age)) (hl:l.length≤1099511627776):aa C jS [jK l,jK l] (vB true) []:=by
 refine(L5 _ _ _ ?_).run
 refine au (by simp) ?_
 refine bD l (fun i=>ah C jS ak 4 0 (oU (l.map dY) (l.map dY) i) _) ?_ ?_
 ·exact zO _ _ _ _ (au (by simp) (Ic _ _ _ _ _ ⟨rfl,by first|rfl|trivial⟩))
 ·intro i a hi ha _ _ hn
  refine zO _ _ _ _ (ai (by simp;omega) ⟨_,_,cF ha,_,_,cF ha,_,X6 _ _,au (by simp) ?_⟩)
  rw[aJ (by omega)]
  exact hn
theorem toCell (v0:Int) (v1:Bool) (v2:Int):aa C AT [.ag [iI v0,iB v1,iI v2]] (.ag [iI v0,iB v1,iI v2]) []:=(Ll _ _ _ _ ⟨rfl,by first|rfl|trivial⟩).run
theorem W7 (v0:Int) (v1:Bool) (v2:Int):aa C AU [.ag [iI v0,iB v1,iI v2],.ag [iI v0,iB v1,iI v2]] (vB true) []:=by
 refine(LA _ _ _ _ _ _ _ ?_).run
 simp
theorem VN (l:List (Cell)) (hl:l.length≤1099511627776):aa C iW [fE l] (fE l) []:=by
 refine(KN _ _ ?_).run
 simp only[List.length_map]
 refine ai (by simp;omega) ?_
 simp only[fF,xQ,Int.toNat_natCast]
 refine xT (e:=ct) (z:=[iI 0,iB false,iI 0]) l (fun i rows=>ah C iW ak 4 0 (nQ (l.map ct) i rows) _) (fun a=>rfl) ?_ ?_
 ·exact xm _ _ _ _ (au (by simp) (FY _ _ _ _ _ ⟨rfl,by first|rfl|trivial⟩))
 ·intro i rows a hi ha hr hn
  refine xm _ _ _ _ (ai (by simp;omega) ⟨_,_,_,cF ha,_,_,_,toCell _ _ _,_,_,_,hr,_,_,_,hr,?_⟩)
  rw[aJ (by omega)]
  exact hn
theorem VO (l:List (Cell)) (hl:l.length≤1099511627776):aa C iX [fE l,fE l] (vB true) []:=by
 refine(Kb _ _ _ ?_).run
 refine au (by simp) ?_
 refine bD l (fun i=>ah C iX ak 4 0 (nI (l.map ct) (l.map ct) i) _) ?_ ?_
 ·exact wX _ _ _ _ (au (by simp) (Fl _ _ _ _ _ ⟨rfl,by first|rfl|trivial⟩))
 ·intro i a hi ha _ _ hn
  refine wX _ _ _ _ (ai (by simp;omega) ⟨_,_,_,cF ha,_,_,_,cF ha,_,W7 _ _ _,au (by simp) ?_⟩)
  rw[aJ (by omega)]
  exact hn
theorem X7 (v0:ByteArray) (v1:Int) (v2:Int) (v3:Bool):aa C Cz [.ag [iS v0,iI v1,iI v2,iB v3]] (.ag [iS v0,iI v1,iI v2,iB v3]) []:=(N8 _ _ _ _ _ ⟨rfl,by first|rfl|trivial⟩).run
theorem X8 (v0:ByteArray) (v1:Int) (v2:Int) (v3:Bool):aa C CB [.ag [iS v0,iI v1,iI v2,iB v3],.ag [iS v0,iI v1,iI v2,iB v3]] (vB true) []:=by
 refine(Ob _ _ _ _ _ _ _ _ _ ?_).run
 simp
theorem W8 (l:List (Vol)) (hl:l.length≤1099511627776):aa C jR [yg l] (yg l) []:=by
 refine(Lg _ _ ?_).run
 simp only[List.length_map]
 refine ai (by simp;omega) ?_
 simp only[fF,xQ,Int.toNat_natCast]
 refine xT (e:=eg) (z:=[iS XR,iI 0,iI 0,iB false]) l (fun i rows=>ah C jR ak 4 0 (oJ (l.map eg) i rows) _) (fun a=>rfl) ?_ ?_
 ·exact zk _ _ _ _ (au (by simp) (G4 _ _ _ _ _ ⟨rfl,by first|rfl|trivial⟩))
 ·intro i rows a hi ha hr hn
  refine zk _ _ _ _ (ai (by simp;omega) ⟨_,_,_,_,cF ha,_,_,_,_,X7 _ _ _ _,_,_,_,_,hr,_,_,_,_,hr,?_⟩)
  rw[aJ (by omega)]
  exact hn
theorem W9 (l:List (Vol)) (hl:l.length≤1099511627776):aa C jT [yg l,yg l] (vB true) []:=by
 refine(Lw _ _ _ ?_).run
 refine au (by simp) ?_
 refine bD l (fun i=>ah C jT ak 4 0 (oN (l.map eg) (l.map eg) i) _) ?_ ?_
 ·exact zp _ _ _ _ (au (by simp) (Hr _ _ _ _ _ ⟨rfl,by first|rfl|trivial⟩))
 ·intro i a hi ha _ _ hn
  refine zp _ _ _ _ (ai (by simp;omega) ⟨_,_,_,_,cF ha,_,_,_,_,cF ha,_,X8 _ _ _ _,au (by simp) ?_⟩)
  rw[aJ (by omega)]
  exact hn
theorem Xc (l:List (Int)) (hl:l.length≤1099511627776):aa C jW [qd l] (qd l) []:=by
 refine(Ly _ _ ?_).run
 simp only[List.length_map]
 refine ai (by simp;omega) ?_
 simp only[fF,xQ,Int.toNat_natCast]
 refine xT (e:=bO) (z:=[iI 0]) l (fun i rows=>ah C jW ak 4 0 (oO (l.map bO) i rows) _) (fun a=>rfl) ?_ ?_
 ·exact zw _ _ _ _ (au (by simp) (Hz _ _ _ _ _ ⟨rfl,by first|rfl|trivial⟩))
 ·intro i rows a hi ha hr hn
  refine zw _ _ _ _ (ai (by simp;omega) ⟨_,cF ha,_,hr,_,hr,?_⟩)
  rw[aJ (by omega)]
  exact hn
theorem Xd (l:List (Int)) (hl:l.length≤1099511627776):aa C jX [qd l,qd l] (vB true) []:=by
 refine(LS _ _ _ ?_).run
 refine au (by simp) ?_
 refine bD l (fun i=>ah C jX ak 4 0 (oR (l.map bO) (l.map bO) i) _) ?_ ?_
 ·exact zG _ _ _ _ (au (by simp) (HS _ _ _ _ _ ⟨rfl,by first|rfl|trivial⟩))
 ·intro i a hi ha _ _ hn
  refine zG _ _ _ _ (ai (by simp;omega) ⟨_,cF ha,_,cF ha,au (by simp) ?_⟩)
  rw[aJ (by omega)]
  exact hn
theorem VP (l:List (List Key)) (hl:l.length≤1099511627776) (hs: ∀s∈l,s.length≤1099511627776):aa C ja [Dz l] (Dz l) []:=by
 refine(Kx _ _ ?_).run
 simp only[List.length_map]
 refine ai (by simp;omega) ?_
 simp only[fF,xQ,Int.toNat_natCast]
 refine xT (e:=bX) (z:=[TC.sub 5 []]) l (fun i rows=>ah C ja ak 4 0 (nL (l.map bX) i rows) _) (fun a=>rfl) ?_ ?_
 ·exact xe _ _ _ _ (au (by simp) (FM _ _ _ _ _ ⟨rfl,by first|rfl|trivial⟩))
 ·intro i rows a hi ha hr hn
  refine xe _ _ _ _ (ai (by simp;omega) ⟨_,cF ha,_,W3 _ (hs _ (List.mem_of_getElem? ha)),_,hr,_,hr,?_⟩)
  rw[aJ (by omega)]
  exact hn
def DK (n:List (List Key)):Prop:=n.length≤1099511627776∧ ∀s∈n,s.length≤1099511627776
def Xe (l:List (List (List Key))):Prop:=l.length≤1099511627776∧ ∀n∈l,DK n
def MY (t:Tree):Prop:=t.lows.length≤1099511627776∧Xe t.nodes
theorem Xf (n:List (List Key)) (h:DK n):aa C AX [fC n] (fC n) []:=(Lq _ _ ⟨_,VP n h.1 h.2,rfl,rfl⟩).run
theorem VQ (l:List (List (List Key))) (hl:l.length≤1099511627776) (hs: ∀n∈l,DK n):aa C iY [sE l] (sE l) []:=by
 refine(KC _ _ ?_).run
 simp only[List.length_map]
 refine ai (by simp;omega) ?_
 simp only[fF,xQ,Int.toNat_natCast]
 refine xT (e:=aW) (z:=[TC.sub 1 []]) l (fun i rows=>ah C iY ak 4 0 (nN (l.map aW) i rows) _) (fun a=>rfl) ?_ ?_
 ·exact xh _ _ _ _ (au (by simp) (FO _ _ _ _ _ ⟨rfl,by first|rfl|trivial⟩))
 ·intro i rows a hi ha hr hn
  refine xh _ _ _ _ (ai (by simp;omega) ⟨_,cF ha,_,Xf _ (hs _ (List.mem_of_getElem? ha)),_,hr,_,hr,?_⟩)
  rw[aJ (by omega)]
  exact hn
theorem toTree (t:Tree) (h:MY t):aa C AQ [dD t] (dD t) []:=(Lv _ _ _ ⟨_,Xc _ h.1,_,VQ _ h.2.1 h.2.2,rfl,rfl⟩).run
theorem VR (l:List (List Key)) (hl:l.length≤1099511627776) (hs: ∀s∈l,s.length≤1099511627776):aa C jb [Dz l,Dz l] (vB true) []:=by
 refine(KK _ _ _ ?_).run
 refine au (by simp) ?_
 refine bD l (fun i=>ah C jb ak 4 0 (nP (l.map bX) (l.map bX) i) _) ?_ ?_
 ·exact xk _ _ _ _ (au (by simp) (FX _ _ _ _ _ ⟨rfl,by first|rfl|trivial⟩))
 ·intro i a hi ha _ _ hn
  refine xk _ _ _ _ (ai (by simp;omega) ⟨_,cF ha,_,cF ha,_,W4 _ (hs _ (List.mem_of_getElem? ha)),au (by simp) ?_⟩)
  rw[aJ (by omega)]
  exact hn
theorem Xg (n:List (List Key)) (h:DK n):aa C AY [fC n,fC n] (vB true) []:=(LI _ _ _ ⟨_,VR n h.1 h.2,by simp⟩).run
theorem VS (l:List (List (List Key))) (hl:l.length≤1099511627776) (hs: ∀n∈l,DK n):aa C iZ [sE l,sE l] (vB true) []:=by
 refine(KO _ _ _ ?_).run
 refine au (by simp) ?_
 refine bD l (fun i=>ah C iZ ak 4 0 (nR (l.map aW) (l.map aW) i) _) ?_ ?_
 ·exact xo _ _ _ _ (au (by simp) (F0 _ _ _ _ _ ⟨rfl,by first|rfl|trivial⟩))
 ·intro i a hi ha _ _ hn
  refine xo _ _ _ _ (ai (by simp;omega) ⟨_,cF ha,_,cF ha,_,Xg _ (hs _ (List.mem_of_getElem? ha)),au (by simp) ?_⟩)
  rw[aJ (by omega)]
  exact hn
theorem Xh (t:Tree) (h:MY t):aa C AR [dD t,dD t] (vB true) []:=(LQ _ _ _ _ _ ⟨_,Xd _ h.1,au rfl ⟨_,VS _ h.2.1 h.2.2,by simp⟩⟩).run
structure PI (p:Pool):Prop where
 t:MY p.t
 ages:p.ages.length≤1099511627776
 cells:p.cells.length≤1099511627776
 vols:p.vols.length≤1099511627776
theorem NV (p:Pool) (h:PI p):aa C pK [fK p] (fK p) []:=(Lt _ _ _ _ _ _ _ ⟨_,_,toTree p.t h.t,_,W5 _ h.ages,_,VN _ h.cells,_,W8 _ h.vols,rfl,rfl⟩).run
theorem NW (p:Pool) (h:PI p):aa C pL [fK p,fK p] (vB true) []:=(L3 _ _ _ _ _ _ _ _ _ _ _ _ _ ⟨_,Xh p.t h.t,au rfl ⟨_,W6 _ h.ages,au rfl ⟨_,VO _ h.cells,au rfl ⟨_,W9 _ h.vols,au rfl (by simp)⟩⟩⟩⟩).run
theorem Xi (l:List (Int)) (left:Int) (h0:0≤left∧left≤1048576) (hl:l.length≤140737488355328):aa C AS [qd l,vI left] (vI (lq left l.length)) []:=by
 refine(Lj _ _ _ ?_).run
 simp only[List.length_map,fF]
 rw[dz (by omega)]
 unfold lq
 simp only[eA,bH]
 by_cases h:left<(l.length:Int)
 ·rw[if_pos (by omega),if_pos h];exact⟨rfl,by first|rfl|trivial⟩
 ·rw[if_neg (by omega),if_neg h];exact⟨rfl,by first|rfl|trivial⟩
theorem Xj (l:List (Key)) (left:Int) (h0:0≤left∧left≤1048576) (hl:l.length≤140737488355328):aa C AZ [cT l,vI left] (vI (lq left l.length)) []:=by
 refine(LO _ _ _ ?_).run
 simp only[List.length_map,fF]
 rw[dz (by omega)]
 unfold lq
 simp only[eA,bH]
 by_cases h:left<(l.length:Int)
 ·rw[if_pos (by omega),if_pos h];exact⟨rfl,by first|rfl|trivial⟩
 ·rw[if_neg (by omega),if_neg h];exact⟨rfl,by first|rfl|trivial⟩
theorem Xk (l:List (Age)) (left:Int) (h0:0≤left∧left≤1048576) (hl:l.length≤140737488355328):aa C AP [jK l,vI left] (vI (lq left l.length)) []:=by
 refine(Lu _ _ _ ?_).run
 simp only[List.length_map,fF]
 rw[dz (by omega)]
 unfold lq
 simp only[eA,bH]
 by_cases h:left<(l.length:Int)
 ·rw[if_pos (by omega),if_pos h];exact⟨rfl,by first|rfl|trivial⟩
 ·rw[if_neg (by omega),if_neg h];exact⟨rfl,by first|rfl|trivial⟩
theorem VT (l:List (Cell)) (left:Int) (h0:0≤left∧left≤1048576) (hl:l.length≤140737488355328):aa C xY [fE l,vI left] (vI (lq left l.length)) []:=by
 refine(KA _ _ _ ?_).run
 simp only[List.length_map,fF]
 rw[dz (by omega)]
 unfold lq
 simp only[eA,bH]
 by_cases h:left<(l.length:Int)
 ·rw[if_pos (by omega),if_pos h];exact⟨rfl,by first|rfl|trivial⟩
 ·rw[if_neg (by omega),if_neg h];exact⟨rfl,by first|rfl|trivial⟩
theorem VU (l:List (List Key)) (left:Int) (h0:0≤left∧left≤1048576) (hl:l.length≤140737488355328) (hs: ∀s∈l,s.length≤140737488355328):aa C fo [Dz l,vI left] (vI (lq left (l.length+tot bB l))) []:=by
 refine(Km _ _ _ ?_).run
 simp only[List.length_map,fF]
 rw[dz (by omega)]
 simp only[eA,bH]
 by_cases h:left<(l.length:Int)
 ·rw[if_pos (by omega)]
  refine⟨?_,by first|rfl|trivial⟩
  unfold lq
  rw[if_pos (by omega)]
 ·rw[if_neg (by omega)]
  have key: ∀cur:Int,0≤cur∧cur≤1048576→lq cur (tot bB (l.drop 0))=lq left (l.length+tot bB l)→ah C fo aH 4 0 (kP (l.map bX) cur ((0:Nat):Int)) (fun x st=>aG C fo aH x st fun r fs=>r=vI (lq left (l.length+tot bB l))∧fs=[]):=by
   refine bD l (fun i=> ∀cur:Int,0≤cur∧cur≤1048576→lq cur (tot bB (l.drop i))=lq left (l.length+tot bB l)→ah C fo aH 4 0 (kP (l.map bX) cur i) _) ?_ ?_
   ·intro cur hc he
    refine w6 _ _ _ _ (au (by simp) (FD _ _ _ _ _ ⟨?_,by first|rfl|trivial⟩))
    rw[←he,List.drop_length]
    unfold lq tot
    rw[if_neg (by omega)]
    simp
   ·intro i a hi ha hd _ hn cur hc he
    rw[hd] at he
    simp only[tot] at he
    refine w6 _ _ _ _ (ai (by simp;omega) ⟨_,cF ha,_,Xj a cur hc (hs a (List.mem_of_getElem? ha)),?_⟩)
    by_cases hw:cur<(bB a:Int)
    ·refine ai (by simp[lq,bB] at hw ⊢;omega) (FC _ ⟨?_,by first|rfl|trivial⟩)
     rw[←he]
     unfold lq
     rw[if_pos (by omega)]
    ·have hl2:lq cur (bB a)=cur-bB a:=if_neg hw
     refine au (by simp[lq,bB] at hw ⊢;omega) ?_
     rw[aJ (by omega)]
     have:=hn (cur-bB a) (by omega) (by rw[←he];unfold lq;split<;>split<;>omega)
     rw[←hl2] at this
     exact this
  refine key (left-l.length) (by omega) ?_
  simp only[List.drop_zero]
  unfold lq
  split<;>split<;>omega
theorem QW (n:List (List Key)) (left:Int) (h0:0≤left∧left≤1048576) (hl:n.length≤140737488355328) (hs: ∀s∈n,s.length≤140737488355328):aa C AW [fC n,vI left] (vI (lq left (aP n))) []:=by
 refine(LX _ _ _ ⟨_,VU n left h0 hl hs,?_⟩).run
 show aD _ _ _
 unfold aP
 simp only[eA,bH]
 split
 ·refine⟨?_,by first|rfl|trivial⟩
  unfold lq at*
  split<;>simp_all<;>omega
 ·simp
theorem VV (l:List (List (List Key))) (left:Int) (h0:0≤left∧left≤1048576) (hl:l.length≤140737488355328) (hs: ∀n∈l,n.length≤140737488355328∧ ∀s∈n,s.length≤140737488355328):aa C fm [sE l,vI left] (vI (lq left (l.length+tot aP l))) []:=by
 refine(Ks _ _ _ ?_).run
 simp only[List.length_map,fF]
 rw[dz (by omega)]
 simp only[eA,bH]
 by_cases h:left<(l.length:Int)
 ·rw[if_pos (by omega)]
  refine⟨?_,by first|rfl|trivial⟩
  unfold lq
  rw[if_pos (by omega)]
 ·rw[if_neg (by omega)]
  have key: ∀cur:Int,0≤cur∧cur≤1048576→lq cur (tot aP (l.drop 0))=lq left (l.length+tot aP l)→ah C fm aH 4 0 (kR (l.map aW) cur ((0:Nat):Int)) (fun x st=>aG C fm aH x st fun r fs=>r=vI (lq left (l.length+tot aP l))∧fs=[]):=by
   refine bD l (fun i=> ∀cur:Int,0≤cur∧cur≤1048576→lq cur (tot aP (l.drop i))=lq left (l.length+tot aP l)→ah C fm aH 4 0 (kR (l.map aW) cur i) _) ?_ ?_
   ·intro cur hc he
    refine w8 _ _ _ _ (au (by simp) (FG _ _ _ _ _ ⟨?_,by first|rfl|trivial⟩))
    rw[←he,List.drop_length]
    unfold lq tot
    rw[if_neg (by omega)]
    simp
   ·intro i a hi ha hd _ hn cur hc he
    rw[hd] at he
    simp only[tot] at he
    refine w8 _ _ _ _ (ai (by simp;omega) ⟨_,cF ha,_,QW a cur hc (hs a (List.mem_of_getElem? ha)).1 (hs a (List.mem_of_getElem? ha)).2,?_⟩)
    by_cases hw:cur<(aP a:Int)
    ·refine ai (by simp[lq,aP] at hw ⊢;omega) (FF _ ⟨?_,by first|rfl|trivial⟩)
     rw[←he]
     unfold lq
     rw[if_pos (by omega)]
    ·have hl2:lq cur (aP a)=cur-aP a:=if_neg hw
     refine au (by simp[lq,aP] at hw ⊢;omega) ?_
     rw[aJ (by omega)]
     have:=hn (cur-aP a) (by omega) (by rw[←he];unfold lq;split<;>split<;>omega)
     rw[←hl2] at this
     exact this
  refine key (left-l.length) (by omega) ?_
  simp only[List.drop_zero]
  unfold lq
  split<;>split<;>omega
theorem IX {a:Int} {n m:Nat} (h: ¬lq a n<0) (h0:0≤a):lq (lq a n) m=lq a (n+m):=by unfold lq at*;split<;>split<;>split<;>simp_all<;>omega
theorem NX {a:Int} {n:Nat} (h: ¬lq a n<0) (h0:0≤a∧a≤1048576):0≤lq a n∧lq a n≤1048576:=by unfold lq at*;split<;>simp_all<;>omega
theorem IY {a:Int} {n m:Nat} (h:lq a n<0) (h0:0≤a):lq a (n+m)= -1:=by unfold lq at*;split<;>simp_all<;>omega
structure UB (t:Tree):Prop where
 lows:t.lows.length≤140737488355328
 nodes:t.nodes.length≤140737488355328
 node: ∀n∈t.nodes,n.length≤140737488355328∧ ∀s∈n,s.length≤140737488355328
theorem QY (t:Tree) (left:Int) (h0:0≤left∧left≤1048576) (h:UB t):aa C AO [dD t,vI left] (vI (lq left (dx t))) []:=by
 refine(Lf _ _ _ _ ⟨_,Xi _ left h0 h.lows,?_⟩).run
 unfold dx pV
 refine ov (fun hb=> ?_) fun hb=>⟨_,VV _ _ (NX (by simpa using hb) h0) h.nodes h.node,?_⟩
 ·rw[IY (by simpa using hb) h0.1];exact⟨rfl,by first|rfl|trivial⟩
 ·have hb: ¬lq left t.lows.length<0:=by simpa using hb
  rw[IX hb h0.1]
  refine ov (fun hc=> ?_) fun hc=>⟨rfl,by first|rfl|trivial⟩
  refine⟨?_,by first|rfl|trivial⟩
  have hc:lq left (t.lows.length+(t.nodes.length+tot aP t.nodes))<0:=by simpa using hc
  unfold lq at*
  split<;>simp_all<;>omega
theorem Sz (s:ByteArray) (a z:Int) (f:Bool) (left:Int) (h0:0≤left∧left≤1048576) (hl:s.size≤140737488355328):aa C Cx [.ag [iS s,iI a,iI z,iB f],vI left] (vI (lq left s.size)) []:=by
 refine(Oa _ _ _ _ _ _ ?_).run
 simp only[EO,fF]
 rw[dz (by omega)]
 unfold lq
 simp only[eA,bH]
 by_cases h:left<(s.size:Int)
 ·rw[if_pos (by omega),if_pos h];exact⟨rfl,by first|rfl|trivial⟩
 ·rw[if_neg (by omega),if_neg h];exact⟨rfl,by first|rfl|trivial⟩
theorem Xl (l:List (Vol)) (left:Int) (h0:0≤left∧left≤1048576) (hl:l.length≤140737488355328) (hs: ∀v∈l,v.name.size≤140737488355328):aa C gq [yg l,vI left] (vI (lq left (l.length+tot pJ l))) []:=by
 refine(L4 _ _ _ ?_).run
 simp only[List.length_map,fF]
 rw[dz (by omega)]
 simp only[eA,bH]
 by_cases h:left<(l.length:Int)
 ·rw[if_pos (by omega)]
  refine⟨?_,by first|rfl|trivial⟩
  unfold lq
  rw[if_pos (by omega)]
 ·rw[if_neg (by omega)]
  have key: ∀cur:Int,0≤cur∧cur≤1048576→lq cur (tot pJ (l.drop 0))=lq left (l.length+tot pJ l)→ah C gq aH 4 0 (lU (l.map eg) cur ((0:Nat):Int)) (fun x st=>aG C gq aH x st fun r fs=>r=vI (lq left (l.length+tot pJ l))∧fs=[]):=by
   refine bD l (fun i=> ∀cur:Int,0≤cur∧cur≤1048576→lq cur (tot pJ (l.drop i))=lq left (l.length+tot pJ l)→ah C gq aH 4 0 (lU (l.map eg) cur i) _) ?_ ?_
   ·intro cur hc he
    refine zN _ _ _ _ (au (by simp) (Ib _ _ _ _ _ ⟨?_,by first|rfl|trivial⟩))
    rw[←he,List.drop_length]
    unfold lq tot
    rw[if_neg (by omega)]
    simp
   ·intro i a hi ha hd _ hn cur hc he
    rw[hd] at he
    simp only[tot] at he
    refine zN _ _ _ _ (ai (by simp;omega) ⟨_,_,_,_,cF ha,_,Sz _ _ _ _ cur hc (hs a (List.mem_of_getElem? ha)),?_⟩)
    by_cases hw:cur<(pJ a:Int)
    ·refine ai (by simp[lq,pJ] at hw ⊢;omega) (Ia _ ⟨?_,by first|rfl|trivial⟩)
     rw[←he]
     unfold lq
     rw[if_pos (by omega)]
    ·have hl2:lq cur (pJ a)=cur-pJ a:=if_neg hw
     refine au (by simp[lq,pJ] at hw ⊢;omega) ?_
     rw[aJ (by omega)]
     have:=hn (cur-pJ a) (by omega) (by rw[←he];unfold lq;split<;>split<;>omega)
     rw[←hl2] at this
     exact this
  refine key (left-l.length) (by omega) ?_
  simp only[List.drop_zero]
  unfold lq
  split<;>split<;>omega
structure RT (p:Pool):Prop where
 t:UB p.t
 ages:p.ages.length≤140737488355328
 cells:p.cells.length≤140737488355328
 vols:p.vols.length≤140737488355328
 vol: ∀v∈p.vols,v.name.size≤140737488355328
 siz: ∀v∈p.vols,v.size≤9223372036854775807
theorem QZ (p:Pool) (left:Int) (h0:0≤left∧left≤1048576) (h:RT p):aa C AN [fK p,vI left] (vI (lq left (cL p))) []:=by
 refine(L0 _ _ _ _ _ _ _ _ ⟨_,QY p.t left h0 h.t,?_⟩).run
 unfold cL EU
 refine ov (fun hb=> ?_) fun hb=>⟨_,Xk _ _ (NX (by simpa using hb) h0) h.ages,?_⟩
 ·rw[Nat.add_assoc,Nat.add_assoc,IY (by simpa using hb) h0.1];exact⟨rfl,by first|rfl|trivial⟩
 rw[IX (by simpa using hb) h0.1]
 refine ov (fun hb=> ?_) fun hb=>⟨_,VT _ _ (NX (by simpa using hb) h0) h.cells,?_⟩
 ·rw[Nat.add_assoc,IY (by simpa using hb) h0.1];exact⟨rfl,by first|rfl|trivial⟩
 rw[IX (by simpa using hb) h0.1]
 refine ov (fun hb=> ?_) fun hb=>⟨_,Xl _ _ (NX (by simpa using hb) h0) h.vols h.vol,?_⟩
 ·rw[IY (by simpa using hb) h0.1];exact⟨rfl,by first|rfl|trivial⟩
 rw[IX (by simpa using hb) h0.1]
 refine ov (fun hc=> ?_) fun hc=>⟨rfl,by first|rfl|trivial⟩
 refine⟨?_,by first|rfl|trivial⟩
 have hc:lq left (dx p.t+p.ages.length+p.cells.length+(p.vols.length+tot pJ p.vols))<0:=by simpa using hc
 unfold lq at*
 split<;>simp_all<;>omega
theorem qz (a b c:Int):aa C cJ [vI a,vI b,vI c] (vB (iQ a b c)) []:=by
 refine(L7 _ _ _ _ ?_).run
 simp only[h9,bH,iQ]
 split<;>simp_all<;>omega
theorem wm (a b c:Int):aa C ee [vI a,vI b,vI c] (vB (iQ a b c)) []:=by
 refine(PO _ _ _ _ ?_).run
 simp only[h9,bH,iQ]
 split<;>simp_all<;>omega
@[simp] theorem qU (a b c:Int) (q:Bool):aa C cJ [vI a,vI b,vI c] (vB q) []↔q=iQ a b c:=qZ (qz a b c)
@[simp] theorem A4 (a b c:Int) (q:Bool):aa C ee [vI a,vI b,vI c] (vB q) []↔q=iQ a b c:=qZ (wm a b c)
theorem JX (b a k c g:Int):aa C sJ [.ag [iI b,iI a,iI k,iI c,iI g]] (vB (fW ⟨b,a,k,c,g⟩)) []:=by
 refine(Oj _ _ _ _ _ _ ?_).run
 simp only[qU,exists_eq_left,fW,aX,bL,bH]
 cases iQ b 0 15<;>cases iQ a 1 60<;>cases iQ k 0 2<;>by_cases h:k=1<;>by_cases h1:c=0<;>by_cases h2:g=0<;>cases iQ c 0 23<;>simp_all
theorem JY (b a k c g:Int):aa C sH [.ag [iI b,iI a,iI k,iI c,iI g]] (vB (fW ⟨b,a,k,c,g⟩)) []:=by
 refine(N4 _ _ _ _ _ _ ?_).run
 simp only[A4,exists_eq_left,fW,aX,bL,bH]
 cases iQ b 0 15<;>cases iQ a 1 60<;>cases iQ k 0 2<;>by_cases h:k=1<;>by_cases h1:c=0<;>by_cases h2:g=0<;>cases iQ c 0 23<;>simp_all
@[simp] theorem DL (b a k c g:Int) (q:Bool):aa C sJ [.ag [iI b,iI a,iI k,iI c,iI g]] (vB q) []↔q=fW ⟨b,a,k,c,g⟩:=qZ (JX b a k c g)
@[simp] theorem DM (b a k c g:Int) (q:Bool):aa C sH [.ag [iI b,iI a,iI k,iI c,iI g]] (vB q) []↔q=fW ⟨b,a,k,c,g⟩:=qZ (JY b a k c g)
@[simp] theorem A5 (b a k c g b' a' k' c' g':Int) (q:Bool):aa C r5 [.ag [iI b,iI a,iI k,iI c,iI g],.ag [iI b',iI a',iI k',iI c',iI g']] (vB q) []↔q=dA ⟨b,a,k,c,g⟩ ⟨b',a',k',c',g'⟩:=qZ (by
  refine(Ky _ _ _ _ _ _ _ _ _ _ _ ?_).run
  simp only[eA,aX,bH,dA]
  by_cases h1:b<b'<;>by_cases h2:b=b'<;>simp_all)
@[simp] theorem A6 (b a k c g b' a' k' c' g':Int) (q:Bool):aa C rY [.ag [iI b,iI a,iI k,iI c,iI g],.ag [iI b',iI a',iI k',iI c',iI g']] (vB q) []↔q=dA ⟨b,a,k,c,g⟩ ⟨b',a',k',c',g'⟩:=qZ (by
  refine(Kl _ _ _ _ _ _ _ _ _ _ _ ?_).run
  simp only[eA,aX,bL,bH,dA]
  by_cases h2:b=b'<;>simp_all)
@[simp] theorem Gy (b a k c g b' a' k' c' g':Int) (q:Bool):aa C oB [.ag [iI b,iI a,iI k,iI c,iI g],.ag [iI b',iI a',iI k',iI c',iI g']] (vB q) []↔q=kM ⟨b,a,k,c,g⟩ ⟨b',a',k',c',g'⟩:=qZ (by
  refine(H8 _ _ _ _ _ _ _ _ _ _ _ ?_).run
  simp only[eA,aX,bL,bH,kM]
  by_cases h2:b=b'<;>simp_all)
@[simp] theorem Gz (b a k c g b' a' k' c' g':Int) (q:Bool):aa C oA [.ag [iI b,iI a,iI k,iI c,iI g],.ag [iI b',iI a',iI k',iI c',iI g']] (vB q) []↔q=kM ⟨b,a,k,c,g⟩ ⟨b',a',k',c',g'⟩:=qZ (by
  refine(HI _ _ _ _ _ _ _ _ _ _ _ ?_).run
  simp only[eA,aX,bL,bH,kM]
  by_cases h2:b=b'<;>simp_all)
theorem lK (l:List Key) (x:Key) (hl:l.length≤1073741824):aa C aZ [cT l,Ab x] (cT (eK l x)) []:=by
 refine(LF _ _ _ _ _ _ _ ?_).run
 have key: ∀(put:Bool) (acc:List Key),acc.length+(l.drop 0).length≤l.length+(if put then 1 else 0)→acc++eJ x put (l.drop 0)=eK l x→ah C aZ aH 4 0 (eH (l.map bN) put ((0:Nat):Int) x.b x.a x.k x.c x.g (acc.map bN)) (fun u st=>aG C aZ aH u st fun r fs=>r=cT (eK l x)∧fs=[]):=by
  refine bD l (fun i=> ∀(put:Bool) (acc:List Key),acc.length+(l.drop i).length≤l.length+(if put then 1 else 0)→acc++eJ x put (l.drop i)=eK l x→ah C aZ aH 4 0 (eH (l.map bN) put i x.b x.a x.k x.c x.g (acc.map bN)) _) ?_ ?_
  ·intro put acc hb he
   refine zz _ _ _ _ _ _ _ _ _ _ (au (by simp) (HF _ _ _ _ _ _ _ _ _ _ _ ?_))
   simp only[BK,dO,pg,Bool.true_and,bL,de,List.length_map]
   have hb2:acc.length≤l.length+1:=by simp at hb;split at hb<;>omega
   rw[cZ (by omega)]
   rw[List.drop_length] at he
   cases put<;>simp[eJ] at he ⊢ <;>rw[←he]<;>simp
  ·intro i a hi ha hd _ hn put acc hb he
   rw[hd] at hb he
   simp only[List.length_cons] at hb
   have hb':acc.length+(List.drop (i+1) l).length+1≤l.length+1:=by split at hb<;>omega
   refine zz _ _ _ _ _ _ _ _ _ _ (ai (by simp;omega) ?_)
   simp only[mC,aL,ha,Option.some.injEq,exists_eq_left',A6,Gz,exists_eq_left,bL,dO,BK,pg,Bool.true_and,de,List.length_map,List.length_append,List.length_singleton]
   simp (disch:=omega) only[cZ,aJ,lG]
   simp only[eJ] at he
   cases put<;>cases hk:dA a x<;>cases hs:kM a x<;>simp only[lG,lH]<;>simp[hk,hs] at he hb<;>exact hn _ _ (by simp at hb ⊢;omega) (by simpa using he)
 exact key false [] (by simp) rfl
@[simp] theorem K6 (l:List Key) (hl:l.length≤1073741824) (b a k c g:Int) (q:RR):aa C aZ [.c (.sub 5 (l.map bN)),.ag [iI b,iI a,iI k,iI c,iI g]] (.c (.sub 5 q)) []↔q=(eK l ⟨b,a,k,c,g⟩).map bN:=Pm (lK l ⟨b,a,k,c,g⟩ hl)
theorem oI (l:List Key) (x:Key) (hl:l.length≤1073741824):aa C cw [cT l,Ab x] (cT (eK l x)) []:=by
 refine(Mj _ _ _ _ _ _ _ ?_).run
 have key: ∀(put:Bool) (acc:List Key),acc.length+(l.drop 0).length≤l.length+(if put then 1 else 0)→acc++eJ x put (l.drop 0)=eK l x→ah C cw aH 4 0 (eI put (l.map bN) ((0:Nat):Int) x.b x.a x.k x.c x.g (acc.map bN)) (fun u st=>aG C cw aH u st fun r fs=>r=cT (eK l x)∧fs=[]):=by
  refine bD l (fun i=> ∀(put:Bool) (acc:List Key),acc.length+(l.drop i).length≤l.length+(if put then 1 else 0)→acc++eJ x put (l.drop i)=eK l x→ah C cw aH 4 0 (eI put (l.map bN) i x.b x.a x.k x.c x.g (acc.map bN)) _) ?_ ?_
  ·intro put acc hb he
   refine z7 _ _ _ _ _ _ _ _ _ _ (au (by simp) (IE _ _ _ _ _ _ _ _ _ _ _ _ ?_))
   simp only[BK,dO,pg,Bool.true_and,bL,de,List.length_map]
   have hb2:acc.length≤l.length+1:=by simp at hb;split at hb<;>omega
   rw[cZ (by omega)]
   rw[List.drop_length] at he
   cases put<;>simp[eJ] at he ⊢ <;>rw[←he]<;>simp
  ·intro i a hi ha hd _ hn put acc hb he
   rw[hd] at hb he
   simp only[List.length_cons] at hb
   have hb':acc.length+(List.drop (i+1) l).length+1≤l.length+1:=by split at hb<;>omega
   refine z7 _ _ _ _ _ _ _ _ _ _ (ai (by simp;omega) ?_)
   simp only[mC,aL,ha,Option.some.injEq,exists_eq_left',A5,Gy,exists_eq_left,bL,dO,BK,pg,Bool.true_and,de,List.length_map,List.length_append,List.length_singleton]
   simp (disch:=omega) only[cZ,aJ,lG]
   simp only[eJ] at he
   cases put<;>cases hk:dA a x<;>cases hs:kM a x<;>simp only[lG,lH]<;>simp[hk,hs] at he hb<;>exact hn _ _ (by simp at hb ⊢;omega) (by simpa using he)
 exact key false [] (by simp) rfl
@[simp] theorem K7 (l:List Key) (hl:l.length≤1073741824) (b a k c g:Int) (q:RR):aa C cw [.c (.sub 5 (l.map bN)),.ag [iI b,iI a,iI k,iI c,iI g]] (.c (.sub 5 q)) []↔q=(eK l ⟨b,a,k,c,g⟩).map bN:=Pm (oI l ⟨b,a,k,c,g⟩ hl)
theorem CG (old new:List Key) (hl:old.length+new.length≤1073741824):aa C dM [cT old,cT new] (cT (cz old new)) []:=by
 refine(FW _ _ _ ?_).run
 rw[jB,cZ (by simp;omega)]
 refine ai rfl ?_
 have key: ∀(acc:List Key),acc.length+(new.drop 0).length≤old.length+new.length→cz acc (new.drop 0)=cz old new→ah C dM ak 4 0 (jt (new.map bN) ((0:Nat):Int) (acc.map bN)) (fun u st=>aG C dM ak u st fun r fs=>r=(cT (cz old new))∧fs=[]):=by
  refine bD new (fun i=> ∀(acc:List Key),acc.length+(new.drop i).length≤old.length+new.length→cz acc (new.drop i)=cz old new→ah C dM ak 4 0 (jt (new.map bN) i (acc.map bN)) (fun u st=>aG C dM ak u st fun r fs=>r=(cT (cz old new))∧fs=[])) ?_ ?_
  ·intro acc h0 h1
   refine tG _ _ _ _ (au (by simp) (C3 _ _ _ _ _ ?_))
   rw[List.drop_length] at h1
   rw[←h1]
   exact⟨rfl,by first|rfl|trivial⟩
  ·intro i a hi ha hd ht hn acc h0 h1
   refine tG _ _ _ _ (ai (by simp;omega) ?_)
   rw[hd] at h0 h1
   simp only[List.length_cons] at h0
   simp only[mC,K6 acc (by omega),aL,ha,Option.some.injEq,exists_eq_left',exists_eq_left,bL,eT,hJ,dO,eW,dP,eX,eY,ia,de,natAdd,List.length_map,List.length_append,List.length_singleton,Bool.true_and,Bool.and_true]
   rw[aJ (by omega)]
   have h2:=ng acc a
   exact hn _ (by omega) (by rw[←h1];rfl)
 exact key old (by simp) rfl
theorem EW (old new:List Key) (hl:old.length+new.length≤1073741824) (q:RR):aa C dM [cT old,cT new] (.c (.sub 5 q)) []↔q=(cz old new).map bN:=Pm (CG old new hl)
theorem vK (l:List Key) (hl:l.length≤1073741824):aa C bS [cT l] (cT (mG l)) []:=by
 refine(PN _ _ ?_).run
 have key: ∀(acc:List Key),acc.length+(l.drop 0).length≤l.length→acc++mG (l.drop 0)=mG l→ah C bS ak 4 0 (mq (l.map bN) ((0:Nat):Int) (acc.map bN)) (fun u st=>aG C bS ak u st fun r fs=>r=(cT (mG l))∧fs=[]):=by
  refine bD l (fun i=> ∀(acc:List Key),acc.length+(l.drop i).length≤l.length→acc++mG (l.drop i)=mG l→ah C bS ak 4 0 (mq (l.map bN) i (acc.map bN)) (fun u st=>aG C bS ak u st fun r fs=>r=(cT (mG l))∧fs=[])) ?_ ?_
  ·intro acc h0 h1
   refine B8 _ _ _ _ (au (by simp) (Ln _ _ _ _ _ ?_))
   rw[List.drop_length] at h1
   simp[mG] at h1
   simp[mG,h1]
  ·intro i a hi ha hd ht hn acc h0 h1
   refine B8 _ _ _ _ (ai (by simp;omega) ?_)
   rw[hd] at h0 h1
   simp only[List.length_cons] at h0
   simp only[mC,BK,pg,aX,bH,aL,ha,Option.some.injEq,exists_eq_left',exists_eq_left,bL,eT,hJ,dO,eW,dP,eX,eY,ia,de,natAdd,List.length_map,List.length_append,List.length_singleton,Bool.true_and,Bool.and_true]
   simp (disch:=omega) only[cZ,aJ,lG]
   by_cases hk:a.k=0
   ·rw[if_pos hk]
    exact hn _ (by omega) (by rw[←h1];simp[mG,hk])
   ·rw[if_neg hk]
    exact hn (acc++[a]) (by simp only[List.length_append,List.length_singleton];omega) (by rw[←h1];simp[mG,hk])
 exact key [] (by simp) rfl
theorem uo (n:List (List Key)) (hb:n.length≤1073741824) (hl:tot bB n≤1073741824):aa C aI [fC n] (cT (aQ n)) []:=by
 refine(HV _ _ ?_).run
 have key: ∀(acc:List Key),acc.length+tot bB (n.drop 0)≤tot bB n→(n.drop 0).foldl cz acc=sj n→ah C aI ak 4 0 (ke ((0:Nat):Int) (n.map bX) (acc.map bN)) (fun u st=>aG C aI ak u st fun r fs=>r=(cT (aQ n))∧fs=[]):=by
  refine bD n (fun i=> ∀(acc:List Key),acc.length+tot bB (n.drop i)≤tot bB n→(n.drop i).foldl cz acc=sj n→ah C aI ak 4 0 (ke i (n.map bX) (acc.map bN)) (fun u st=>aG C aI ak u st fun r fs=>r=(cT (aQ n))∧fs=[])) ?_ ?_
  ·intro acc h0 h1
   refine vi _ _ _ _ (au (by simp) (Ed _ _ _ _ _ ?_))
   rw[List.drop_length] at h0 h1
   simp only[List.foldl_nil] at h1
   refine⟨_,vK acc (by omega),?_⟩
   rw[h1]
   exact⟨rfl,by first|rfl|trivial⟩
  ·intro i a hi ha hd ht hn acc h0 h1
   refine vi _ _ _ _ (ai (by simp;omega) ?_)
   rw[hd] at h0 h1
   simp only[tot,bB] at h0
   simp only[qv,EW acc a (by omega),aL,ha,Option.some.injEq,exists_eq_left',exists_eq_left,bL,eT,hJ,dO,eW,dP,eX,eY,ia,de,natAdd,List.length_map,List.length_append,List.length_singleton,Bool.true_and,Bool.and_true]
   rw[aJ (by omega)]
   have h2:=qE a acc
   exact hn _ (by omega) (by rw[←h1];rfl)
 exact key [] (by simp) rfl
theorem dW (n:List (List Key)) (hb:n.length≤1073741824) (hl:tot bB n≤1073741824) (q:RR):aa C aI [.ag [.sub 1 (n.map bX)]] (.c (.sub 5 q)) []↔q=(aQ n).map bN:=Pm (uo n hb hl)
theorem uq (t:Tree) (hl:dx t≤1073741824):aa C ef [dD t] (cT (bY t)) []:=by
 refine(HR _ _ _ ?_).run
 have key: ∀(acc:List Key),acc.length+tot aP (t.nodes.drop 0)≤tot aP t.nodes→acc++(t.nodes.drop 0).flatMap aQ=bY t→ah C ef ak 4 0 (j9 ((0:Nat):Int) (t.lows.map bO) (t.nodes.map aW) (acc.map bN)) (fun u st=>aG C ef ak u st fun r fs=>r=(cT (bY t))∧fs=[]):=by
  refine bD t.nodes (fun i=> ∀(acc:List Key),acc.length+tot aP (t.nodes.drop i)≤tot aP t.nodes→acc++(t.nodes.drop i).flatMap aQ=bY t→ah C ef ak 4 0 (j9 i (t.lows.map bO) (t.nodes.map aW) (acc.map bN)) (fun u st=>aG C ef ak u st fun r fs=>r=(cT (bY t))∧fs=[])) ?_ ?_
  ·intro acc h0 h1
   refine vh _ _ _ _ _ (au (by simp) (Ec _ _ _ _ _ _ ?_))
   rw[List.drop_length] at h1
   simp at h1
   simp[h1]
  ·intro i a hi ha hd ht hn acc h0 h1
   refine vh _ _ _ _ _ (ai (by have:=hi;unfold dx pV at hl;simp;omega) ?_)
   have hz:a.length+tot bB a≤tot aP t.nodes:=jM (w:=aP) ha
   rw[hd] at h0 h1
   simp only[tot,aP] at h0
   unfold dx pV at hl
   have h2:=cM a
   simp only[RM,pU,dW a (by omega) (by omega),jB,aL,ha,Option.some.injEq,exists_eq_left',exists_eq_left,bL,eT,hJ,dO,eW,dP,eX,eY,ia,de,natAdd,List.length_map,List.length_append,List.length_singleton,Bool.true_and,Bool.and_true]
   rw[cZ (by omega),aJ (by omega)]
   refine ai rfl ?_
   rw[←List.map_append]
   exact hn _ (by simp;omega) (by rw[←h1];simp)
 exact key [] (by simp) rfl
theorem mH (l:List Key) (hl:l.length≤2147483648):aa C mo [cT l] (cT l) []:=by
 refine(Ho _ _ ?_).run
 rw[jB,cZ (by simp;omega)]
 exact⟨rfl,by first|rfl|trivial⟩
theorem CH (old new:List Key) (hl:old.length+new.length≤1073741824):aa C dN [cT old,cT new] (cT (cz old new)) []:=by
 refine(FB _ _ _ ?_).run
 refine⟨_,mH old (by omega),?_⟩
 have key: ∀(acc:List Key),acc.length+(new.drop 0).length≤old.length+new.length→cz acc (new.drop 0)=cz old new→ah C dN ak 4 0 (jr (new.map bN) ((0:Nat):Int) (acc.map bN)) (fun u st=>aG C dN ak u st fun r fs=>r=(cT (cz old new))∧fs=[]):=by
  refine bD new (fun i=> ∀(acc:List Key),acc.length+(new.drop i).length≤old.length+new.length→cz acc (new.drop i)=cz old new→ah C dN ak 4 0 (jr (new.map bN) i (acc.map bN)) (fun u st=>aG C dN ak u st fun r fs=>r=(cT (cz old new))∧fs=[])) ?_ ?_
  ·intro acc h0 h1
   refine tw _ _ _ _ (au (by simp) (CY _ _ _ _ _ _ ?_))
   rw[List.drop_length] at h1
   rw[←h1]
   exact⟨rfl,by first|rfl|trivial⟩
  ·intro i a hi ha hd ht hn acc h0 h1
   refine tw _ _ _ _ (ai (by simp;omega) ?_)
   rw[hd] at h0 h1
   simp only[List.length_cons] at h0
   simp only[mC,K7 acc (by omega),aL,ha,Option.some.injEq,exists_eq_left',exists_eq_left,bL,eT,hJ,dO,eW,dP,eX,eY,ia,de,natAdd,List.length_map,List.length_append,List.length_singleton,Bool.true_and,Bool.and_true]
   rw[aJ (by omega)]
   have h2:=ng acc a
   exact hn _ (by omega) (by rw[←h1];rfl)
 exact key old (by simp) rfl
theorem EX (old new:List Key) (hl:old.length+new.length≤1073741824) (q:RR):aa C dN [cT old,cT new] (.c (.sub 5 q)) []↔q=(cz old new).map bN:=Pm (CH old new hl)
theorem B0 (l:List Key) (hl:l.length≤1073741824):aa C iu [cT l] (cT (mG l)) []:=by
 refine(PR _ _ ?_).run
 have key: ∀(acc:List Key),acc.length+(l.drop 0).length≤l.length→acc++mG (l.drop 0)=mG l→ah C iu ak 4 0 (mu (l.map bN) ((0:Nat):Int) (acc.map bN)) (fun u st=>aG C iu ak u st fun r fs=>r=(cT (mG l))∧fs=[]):=by
  refine bD l (fun i=> ∀(acc:List Key),acc.length+(l.drop i).length≤l.length→acc++mG (l.drop i)=mG l→ah C iu ak 4 0 (mu (l.map bN) i (acc.map bN)) (fun u st=>aG C iu ak u st fun r fs=>r=(cT (mG l))∧fs=[])) ?_ ?_
  ·intro acc h0 h1
   refine B9 _ _ _ _ (au (by simp) (LM _ _ _ _ _ _ ?_))
   rw[List.drop_length] at h1
   simp[mG] at h1
   simp[mG,h1]
  ·intro i a hi ha hd ht hn acc h0 h1
   refine B9 _ _ _ _ (ai (by simp;omega) ?_)
   rw[hd] at h0 h1
   simp only[List.length_cons] at h0
   simp only[mC,BK,pg,aX,bH,aL,ha,Option.some.injEq,exists_eq_left',exists_eq_left,bL,eT,hJ,dO,eW,dP,eX,eY,ia,de,natAdd,List.length_map,List.length_append,List.length_singleton,Bool.true_and,Bool.and_true]
   simp (disch:=omega) only[cZ,aJ,lG]
   by_cases hk:a.k=0
   ·rw[if_pos hk]
    exact hn _ (by omega) (by rw[←h1];simp[mG,hk])
   ·rw[if_neg hk]
    exact hn (acc++[a]) (by simp only[List.length_append,List.length_singleton];omega) (by rw[←h1];simp[mG,hk])
 exact key [] (by simp) rfl
theorem DN (n:List (List Key)) (hb:n.length≤1073741824) (hl:tot bB n≤1073741824):aa C ck [fC n] (cT (aQ n)) []:=by
 refine(HW _ _ ?_).run
 have key: ∀(acc:List Key),acc.length+tot bB (n.drop 0)≤tot bB n→(n.drop 0).foldl cz acc=sj n→ah C ck ak 4 0 (kf (n.map bX) ((0:Nat):Int) (acc.map bN)) (fun u st=>aG C ck ak u st fun r fs=>r=(cT (aQ n))∧fs=[]):=by
  refine bD n (fun i=> ∀(acc:List Key),acc.length+tot bB (n.drop i)≤tot bB n→(n.drop i).foldl cz acc=sj n→ah C ck ak 4 0 (kf (n.map bX) i (acc.map bN)) (fun u st=>aG C ck ak u st fun r fs=>r=(cT (aQ n))∧fs=[])) ?_ ?_
  ·intro acc h0 h1
   refine vj _ _ _ _ (au (by simp) (Ee _ _ _ _ _ _ ?_))
   rw[List.drop_length] at h0 h1
   simp only[List.foldl_nil] at h1
   refine⟨_,B0 acc (by omega),?_⟩
   rw[h1]
   exact⟨rfl,by first|rfl|trivial⟩
  ·intro i a hi ha hd ht hn acc h0 h1
   refine vj _ _ _ _ (ai (by simp;omega) ?_)
   rw[hd] at h0 h1
   simp only[tot,bB] at h0
   simp only[qv,EX acc a (by omega),aL,ha,Option.some.injEq,exists_eq_left',exists_eq_left,bL,eT,hJ,dO,eW,dP,eX,eY,ia,de,natAdd,List.length_map,List.length_append,List.length_singleton,Bool.true_and,Bool.and_true]
   rw[aJ (by omega)]
   have h2:=qE a acc
   exact hn _ (by omega) (by rw[←h1];rfl)
 exact key [] (by simp) rfl
theorem iG (n:List (List Key)) (hb:n.length≤1073741824) (hl:tot bB n≤1073741824) (q:RR):aa C ck [.ag [.sub 1 (n.map bX)]] (.c (.sub 5 q)) []↔q=(aQ n).map bN:=Pm (DN n hb hl)
theorem DO (t:Tree) (hl:dx t≤1073741824):aa C eG [dD t] (cT (bY t)) []:=by
 refine(Hy _ _ _ ?_).run
 have key: ∀(acc:List Key),acc.length+tot aP (t.nodes.drop 0)≤tot aP t.nodes→acc++(t.nodes.drop 0).flatMap aQ=bY t→ah C eG ak 4 0 (j7 (t.nodes.map aW) ((0:Nat):Int) (acc.map bN)) (fun u st=>aG C eG ak u st fun r fs=>r=(cT (bY t))∧fs=[]):=by
  refine bD t.nodes (fun i=> ∀(acc:List Key),acc.length+tot aP (t.nodes.drop i)≤tot aP t.nodes→acc++(t.nodes.drop i).flatMap aQ=bY t→ah C eG ak 4 0 (j7 (t.nodes.map aW) i (acc.map bN)) (fun u st=>aG C eG ak u st fun r fs=>r=(cT (bY t))∧fs=[])) ?_ ?_
  ·intro acc h0 h1
   refine u7 _ _ _ _ (au (by simp) (D4 _ _ _ _ _ _ ?_))
   rw[List.drop_length] at h1
   simp at h1
   simp[h1]
  ·intro i a hi ha hd ht hn acc h0 h1
   refine u7 _ _ _ _ (ai (by have:=hi;unfold dx pV at hl;simp;omega) ?_)
   have hz:a.length+tot bB a≤tot aP t.nodes:=jM (w:=aP) ha
   rw[hd] at h0 h1
   simp only[tot,aP] at h0
   unfold dx pV at hl
   have h2:=cM a
   simp only[RM,pU,iG a (by omega) (by omega),jB,aL,ha,Option.some.injEq,exists_eq_left',exists_eq_left,bL,eT,hJ,dO,eW,dP,eX,eY,ia,de,natAdd,List.length_map,List.length_append,List.length_singleton,Bool.true_and,Bool.and_true]
   rw[cZ (by omega),aJ (by omega)]
   refine ai rfl ?_
   rw[←List.map_append]
   exact hn _ (by simp;omega) (by rw[←h1];simp)
 exact key [] (by simp) rfl
theorem JZ (l:List Age) (id:Int) (hl:l.length≤1073741824):aa C dV [jK l,vI id] (vI (jd l id)) []:=by
 refine(N5 _ _ _ ?_).run
 have key:fU (fun a:Age=>decide (a.id=id)) (l.drop 0) ((0:Nat):Int)=fU (fun a:Age=>decide (a.id=id)) l 0→ah C dV aj 4 0 (nj (l.map dY) id ((0:Nat):Int)) (fun u st=>aG C dV aj u st fun r fs=>r=vI (jd l id)∧fs=[]):=by
  refine bD l (fun i=>fU (fun a:Age=>decide (a.id=id)) (l.drop i) (i:Int)=fU (fun a:Age=>decide (a.id=id)) l 0→ah C dV aj 4 0 (nj (l.map dY) id i) _) ?_ ?_
  ·intro h0
   refine Bm _ _ _ _ (au (by simp) (Kk _ _ _ _ _ ?_))
   rw[List.drop_length] at h0
   simp only[fU] at h0
   change _=vI (fU (fun a:Age=>decide (a.id=id)) l 0)∧_
   rw[←h0]
   exact⟨rfl,by first|rfl|trivial⟩
  ·intro i a hi ha hd htk hn h0
   refine Bm _ _ _ _ (ai (by simp;omega) ?_)
   rw[hd] at h0
   simp only[fU] at h0
   simp only[vE,aX,bH,aL,ha,Option.some.injEq,exists_eq_left',exists_eq_left,bL,eT,hJ,dO,eW,dP,eX,eY,ia,de,natAdd,List.length_map,List.length_append,List.length_singleton,Bool.true_and,Bool.and_true]
   rw[aJ (by omega)]
   split at h0
   ·rename_i hp
    have hp:=of_decide_eq_true hp
    first|rw[if_pos hp]|rw[if_pos hp.symm]
    refine Kj _ _ ?_
    rw[h0]
    exact⟨rfl,by first|rfl|trivial⟩
   ·rename_i hp
    have hp: ¬_:=fun h=>hp (decide_eq_true h)
    first|rw[if_neg hp]|rw[if_neg (fun h=>hp h.symm)]
    exact hn h0
 exact key rfl
@[simp] theorem J0 (a b id:Int) (q:Bool):aa C rZ [.ag [iI a,iI b],.bx [iI id]] (vB q) []↔q=decide (a=id):=qZ (by
  refine(KM _ _ _ _ ?_).run
  simp)
theorem K8 (l:List Age) (id:Int) (hl:l.length≤1073741824):aa C cq [jK l,.fn rZ [[iI id]]] (vI (jd l id)) []:=by
 refine(oD _ _ _ ?_).run
 have key:fU (fun a:Age=>decide (a.id=id)) (l.drop 0) ((0:Nat):Int)=fU (fun a:Age=>decide (a.id=id)) l 0→ah C cq aj 4 0 (cO (l.map dY) ((0:Nat):Int) id) (fun u st=>aG C cq aj u st fun r fs=>r=vI (jd l id)∧fs=[]):=by
  refine bD l (fun i=>fU (fun a:Age=>decide (a.id=id)) (l.drop i) (i:Int)=fU (fun a:Age=>decide (a.id=id)) l 0→ah C cq aj 4 0 (cO (l.map dY) i id) _) ?_ ?_
  ·intro h0
   refine iF _ _ _ _ (au (by simp) (nW _ _ _ _ _ _ ?_))
   rw[List.drop_length] at h0
   simp only[fU] at h0
   change _=vI (fU (fun a:Age=>decide (a.id=id)) l 0)∧_
   rw[←h0]
   exact⟨rfl,by first|rfl|trivial⟩
  ·intro i a hi ha hd htk hn h0
   refine iF _ _ _ _ (ai (by simp;omega) ?_)
   rw[hd] at h0
   simp only[fU] at h0
   simp only[vE,aX,J0,bH,aL,ha,Option.some.injEq,exists_eq_left',exists_eq_left,bL,eT,hJ,dO,eW,dP,eX,eY,ia,de,natAdd,List.length_map,List.length_append,List.length_singleton,Bool.true_and,Bool.and_true]
   rw[aJ (by omega)]
   split at h0
   ·rename_i hp
    have hp:=of_decide_eq_true hp
    first|rw[if_pos hp]|rw[if_pos hp.symm]
    refine nV _ _ _ ?_
    rw[h0]
    exact⟨rfl,by first|rfl|trivial⟩
   ·rename_i hp
    have hp: ¬_:=fun h=>hp (decide_eq_true h)
    first|rw[if_neg hp]|rw[if_neg (fun h=>hp h.symm)]
    exact hn h0
 exact key rfl
theorem J1 (l:List Age) (id:Int) (hl:l.length≤1073741824):aa C jo [jK l,vI id] (vI (jd l id)) []:=(Oc _ _ _ ⟨_,K8 l id hl,rfl,by first|rfl|trivial⟩).run
theorem x9 (l:List Age) (id:Int) (hl:l.length≤1073741824) (q:Int):aa C dV [jK l,vI id] (vI q) []↔q=jd l id:=Uo (JZ l id hl)
theorem ya (l:List Age) (id:Int) (hl:l.length≤1073741824) (q:Int):aa C jo [jK l,vI id] (vI q) []↔q=jd l id:=Uo (J1 l id hl)
@[simp] theorem vL (a:Int) (q:Bool):aa C qO [vI a] (vB q) []↔q=jw a:=qZ ((L8 _ _ ⟨_,wm _ _ _,rfl,by first|rfl|trivial⟩).run)
theorem GA (l:List Cell) (i gen:Int) (hl:l.length≤1073741824):aa C qR [fE l,vI i,vI gen] (YI (cellAt l i gen)) []:=by
 refine(LJ _ _ _ _ ?_).run
 simp only[A4,exists_eq_left,List.length_map,Int.ofNat_eq_natCast,bL,kC]
 rw[dz (by omega)]
 by_cases h:0≤i∧i<l.length
 ·obtain⟨a,ha⟩:=qu h.1 h.2
  have e:iQ i 0 ((l.length:Int)-1)=true:=decide_eq_true (by omega)
  simp only[e,lG,ha,Option.some.injEq,exists_eq_left',aX,bH,cellAt]
  cases h1:a.u<;>by_cases h2:a.g=gen<;>simp[h1,h2]
 ·have e:iQ i 0 ((l.length:Int)-1)=false:=decide_eq_false (by omega)
  have hn:gj l i=none:=nB h
  simp[e,cellAt,hn]
theorem K9 (l:List Cell) (hl:l.length≤1073741824) (i gen:Int) (n:Int) (q:Bool):aa C qR [fE l,vI i,vI gen] (.tu [(0,[iI n]),(0,[iB q])]) []↔n=(cellAt l i gen).1∧q=(cellAt l i gen).2:=We (GA l i gen hl)
theorem CI (l:List Cell) (hl:l.length≤1073741824):aa C dK [fE l] (vI (bJ l)) []:=by
 refine(FU _ _ ?_).run
 have key: ∀(n:Nat),n+(l.drop 0).length≤l.length→n+bJ (l.drop 0)=bJ l→ah C dK ak 4 0 (gP (l.map ct) n ((0:Nat):Int)) (fun u st=>aG C dK ak u st fun r fs=>r=(vI (bJ l))∧fs=[]):=by
  refine bD l (fun i=> ∀(n:Nat),n+(l.drop i).length≤l.length→n+bJ (l.drop i)=bJ l→ah C dK ak 4 0 (gP (l.map ct) n i) (fun u st=>aG C dK ak u st fun r fs=>r=(vI (bJ l))∧fs=[])) ?_ ?_
  ·intro n h0 h1
   refine tE _ _ _ _ (au (by simp) (C1 _ _ _ _ _ ?_))
   rw[List.drop_length] at h1
   simp[bJ] at h1
   simp[h1,bJ]
  ·intro i a hi ha hd ht hn n h0 h1
   refine tE _ _ _ _ (ai (by simp;omega) ?_)
   rw[hd] at h0 h1
   simp only[List.length_cons] at h0
   simp only[kC,aL,ha,Option.some.injEq,exists_eq_left',exists_eq_left,bL,eT,hJ,dO,eW,dP,eX,eY,ia,de,natAdd,List.length_map,List.length_append,List.length_singleton,Bool.true_and,Bool.and_true]
   rw[aJ (by omega),aJ (by omega)]
   cases hu:a.u
   ·exact hn n (by omega) (by rw[←h1];simp[bJ,hu])
   ·exact hn (n+1) (by omega) (by rw[←h1];simp[bJ,hu];omega)
 exact key 0 (by simp) (by simp)
theorem EY (l:List Cell) (hl:l.length≤1073741824):aa C cV [fE l] (vB ((l.all gG&&decide (l.length=24)))) []:=by
 refine(KP _ _ ?_).run
 have key:((l.drop 0).all gG&&decide (l.length=24))=(l.all gG&&decide (l.length=24))→ah C cV aj 4 0 (gR (l.map ct) ((0:Nat):Int)) (fun u st=>aG C cV aj u st fun r fs=>r=vB ((l.all gG&&decide (l.length=24)))∧fs=[]):=by
  refine bD l (fun i=>((l.drop i).all gG&&decide (l.length=24))=(l.all gG&&decide (l.length=24))→ah C cV aj 4 0 (gR (l.map ct) i) (fun u st=>aG C cV aj u st fun r fs=>r=vB ((l.all gG&&decide (l.length=24)))∧fs=[])) ?_ ?_
  ·intro h0
   refine xp _ _ _ (au (by simp) (F2 _ _ _ _ ?_))
   rw[List.drop_length] at h0
   simp only[List.all_nil,Bool.true_and] at h0
   rw[←h0]
   simp[aX]
   try omega
  ·intro i a hi ha hd htk hn h0
   have gO:gG a=false→(l.all gG&&decide (l.length=24))=false:=fun e=>by rw[←h0,hd];simp[e]
   have gN:gG a=true→ah C cV aj 4 0 (gR (l.map ct) ((i:Int)+1)) (fun u st=>aG C cV aj u st fun r fs=>r=vB ((l.all gG&&decide (l.length=24)))∧fs=[]):=fun e=>hn (by rw[←h0,hd];simp[e])
   refine xp _ _ _ (ai (by simp;omega) ?_)
   simp only[kC,A4,vL,aX,aL,ha,Option.some.injEq,exists_eq_left',exists_eq_left,bL,eT,hJ,dO,eW,dP,eX,eY,ia,de,natAdd,List.length_map,List.length_append,List.length_singleton,Bool.true_and,Bool.and_true]
   rw[aJ (by omega)]
   cases h1:iQ a.g 0 999<;>cases h2:jw a.n<;>cases h3:a.u<;>by_cases h4:a.n=0<;>simp only[h1,h2,h3,h4,lG,lH,decide_true,decide_false,not_true_eq_false,not_false_eq_true,Bool.not_true,Bool.not_false]<;>first|exact gN (by unfold gG;rw[h1,h2,h3];simp[h4])|exact F1 _ (by rw[gO (by unfold gG;rw[h1,h2,h3];simp[h4])];exact⟨rfl,by first|rfl|trivial⟩)
 exact key rfl
theorem sK (l:List Cell) (hl:l.length≤1073741824) (q:Bool):aa C cV [fE l] (vB q) []↔q=c6 l:=qZ (EY l hl)
@[simp] theorem vM (a:Int) (q:Bool):aa C qQ [vI a] (vB q) []↔q=jw a:=qZ ((Li _ _ ⟨_,qz _ _ _,rfl,by first|rfl|trivial⟩).run)
theorem GB (l:List Cell) (i gen:Int) (hl:l.length≤1073741824):aa C qS [fE l,vI i,vI gen] (YI (cellAt l i gen)) []:=by
 refine(LK _ _ _ _ ?_).run
 simp only[qU,exists_eq_left,List.length_map,Int.ofNat_eq_natCast,bL,kC]
 rw[dz (by omega)]
 by_cases h:0≤i∧i<l.length
 ·obtain⟨a,ha⟩:=qu h.1 h.2
  have e:iQ i 0 ((l.length:Int)-1)=true:=decide_eq_true (by omega)
  simp only[e,lG,ha,Option.some.injEq,exists_eq_left',aX,bH,cellAt]
  cases h1:a.u<;>by_cases h2:a.g=gen<;>simp[h1,h2]
 ·have e:iQ i 0 ((l.length:Int)-1)=false:=decide_eq_false (by omega)
  have hn:gj l i=none:=nB h
  simp[e,cellAt,hn]
theorem La (l:List Cell) (hl:l.length≤1073741824) (i gen:Int) (n:Int) (q:Bool):aa C qS [fE l,vI i,vI gen] (.tu [(0,[iI n]),(0,[iB q])]) []↔n=(cellAt l i gen).1∧q=(cellAt l i gen).2:=We (GB l i gen hl)
theorem CJ (l:List Cell) (hl:l.length≤1073741824):aa C dL [fE l] (vI (bJ l)) []:=by
 refine(FV _ _ ?_).run
 have key: ∀(n:Nat),n+(l.drop 0).length≤l.length→n+bJ (l.drop 0)=bJ l→ah C dL ak 4 0 (gQ n (l.map ct) ((0:Nat):Int)) (fun u st=>aG C dL ak u st fun r fs=>r=(vI (bJ l))∧fs=[]):=by
  refine bD l (fun i=> ∀(n:Nat),n+(l.drop i).length≤l.length→n+bJ (l.drop i)=bJ l→ah C dL ak 4 0 (gQ n (l.map ct) i) (fun u st=>aG C dL ak u st fun r fs=>r=(vI (bJ l))∧fs=[])) ?_ ?_
  ·intro n h0 h1
   refine tF _ _ _ _ (au (by simp) (C2 _ _ _ _ _ _ ?_))
   rw[List.drop_length] at h1
   simp[bJ] at h1
   simp[h1,bJ]
  ·intro i a hi ha hd ht hn n h0 h1
   refine tF _ _ _ _ (ai (by simp;omega) ?_)
   rw[hd] at h0 h1
   simp only[List.length_cons] at h0
   simp only[kC,aL,ha,Option.some.injEq,exists_eq_left',exists_eq_left,bL,eT,hJ,dO,eW,dP,eX,eY,ia,de,natAdd,List.length_map,List.length_append,List.length_singleton,Bool.true_and,Bool.and_true]
   rw[aJ (by omega),aJ (by omega)]
   cases hu:a.u
   ·exact hn n (by omega) (by rw[←h1];simp[bJ,hu])
   ·exact hn (n+1) (by omega) (by rw[←h1];simp[bJ,hu];omega)
 exact key 0 (by simp) (by simp)
theorem EZ (l:List Cell) (hl:l.length≤1073741824):aa C cW [fE l] (vB ((l.all gG&&decide (l.length=24)))) []:=by
 refine(KE _ _ ?_).run
 have key:((l.drop 0).all gG&&decide (l.length=24))=(l.all gG&&decide (l.length=24))→ah C cW aj 4 0 (gM (l.map ct) ((0:Nat):Int)) (fun u st=>aG C cW aj u st fun r fs=>r=vB ((l.all gG&&decide (l.length=24)))∧fs=[]):=by
  refine bD l (fun i=>((l.drop i).all gG&&decide (l.length=24))=(l.all gG&&decide (l.length=24))→ah C cW aj 4 0 (gM (l.map ct) i) (fun u st=>aG C cW aj u st fun r fs=>r=vB ((l.all gG&&decide (l.length=24)))∧fs=[])) ?_ ?_
  ·intro h0
   refine xj _ _ _ (au (by simp) (FR _ _ _ _ _ ?_))
   rw[List.drop_length] at h0
   simp only[List.all_nil,Bool.true_and] at h0
   rw[←h0]
   simp[aX]
   try omega
  ·intro i a hi ha hd htk hn h0
   have gO:gG a=false→(l.all gG&&decide (l.length=24))=false:=fun e=>by rw[←h0,hd];simp[e]
   have gN:gG a=true→ah C cW aj 4 0 (gM (l.map ct) ((i:Int)+1)) (fun u st=>aG C cW aj u st fun r fs=>r=vB ((l.all gG&&decide (l.length=24)))∧fs=[]):=fun e=>hn (by rw[←h0,hd];simp[e])
   refine xj _ _ _ (ai (by simp;omega) ?_)
   simp only[kC,qU,vM,aX,aL,ha,Option.some.injEq,exists_eq_left',exists_eq_left,bL,eT,hJ,dO,eW,dP,eX,eY,ia,de,natAdd,List.length_map,List.length_append,List.length_singleton,Bool.true_and,Bool.and_true]
   rw[aJ (by omega)]
   cases h1:iQ a.g 0 999<;>cases h2:jw a.n<;>cases h3:a.u<;>by_cases h4:a.n=0<;>simp only[h1,h2,h3,h4,lG,lH,decide_true,decide_false,not_true_eq_false,not_false_eq_true,Bool.not_true,Bool.not_false]<;>first|exact gN (by unfold gG;rw[h1,h2,h3];simp[h4])|exact FQ _ _ _ _ (by rw[gO (by unfold gG;rw[h1,h2,h3];simp[h4])];exact⟨rfl,by first|rfl|trivial⟩)
 exact key rfl
theorem sL (l:List Cell) (hl:l.length≤1073741824) (q:Bool):aa C cW [fE l] (vB q) []↔q=c6 l:=qZ (EZ l hl)
theorem GC (s:ByteArray) (hl:s.size≤140737488355328):aa C dF [vS s] (vB ((cE s.size (dJ s)&&iQ s.size 1 6))) []:=by
 refine(Ma _ _ ?_).run
 have key:((List.range' 0 (s.size-0)).all (dJ s)&&iQ s.size 1 6)=(cE s.size (dJ s)&&iQ s.size 1 6)→ah C dF aj 4 0 (iN s ((0:Nat):Int)) (fun u st=>aG C dF aj u st fun r fs=>r=vB ((cE s.size (dJ s)&&iQ s.size 1 6))∧fs=[]):=by
  refine nc (s.size) (fun i=>((List.range' i (s.size-i)).all (dJ s)&&iQ s.size 1 6)=(cE s.size (dJ s)&&iQ s.size 1 6)→ah C dF aj 4 0 (iN s i) (fun u st=>aG C dF aj u st fun r fs=>r=vB ((cE s.size (dJ s)&&iQ s.size 1 6))∧fs=[])) ?_ ?_
  ·intro h0
   refine zS _ _ _ (au (by simp) (Iq _ _ _ _ ?_))
   rw[Nat.sub_self] at h0
   simp only[List.range'_zero,List.all_nil,Bool.true_and] at h0
   rw[←h0]
   simp only[A4,exists_eq_left,EO,Int.ofNat_eq_natCast]
   simp
  ·intro i hi hn h0
   rw[jl hi,List.all_cons] at h0
   have gO:(dJ s) i=false→(cE s.size (dJ s)&&iQ s.size 1 6)=false:=fun e=>by rw[←h0,e];rfl
   have gN:(dJ s) i=true→ah C dF aj 4 0 (iN s ((i:Int)+1)) (fun u st=>aG C dF aj u st fun r fs=>r=vB ((cE s.size (dJ s)&&iQ s.size 1 6))∧fs=[]):=fun e=>hn (by rw[←h0,e];rfl)
   refine zS _ _ _ (ai (by simp;omega) ?_)
   obtain⟨n,hb,hn0,hn1⟩:=MS hi
   have hw:rC .i64 n=n:=Pn (by omega)
   simp only[hb,Option.some.injEq,exists_eq_left',A4,exists_eq_left,hw,bL]
   rw[aJ (by omega)]
   have e:dJ s i=(iQ n 97 122||iQ n 48 57):=by unfold dJ;rw[hb];rfl
   rw[e] at gO gN
   cases h1:iQ n 97 122<;>cases h2:iQ n 48 57<;>simp only[lG,lH]<;>first|exact gN (by rw[h1,h2];rfl)|exact Ip _ (by rw[gO (by rw[h1,h2];rfl)];exact⟨rfl,by first|rfl|trivial⟩)
 exact key rfl
theorem B1 (s:ByteArray) (hl:s.size≤140737488355328) (q:Bool):aa C dF [vS s] (vB q) []↔q=qw s:=qZ (GC s hl)
theorem Wh (l:List Age): ∀(id:Int),id=0→iU l id=[]:=fun id h=>if_pos h
theorem GD (l:List Age) (id:Int) (hl:l.length≤1073741824):aa C eC [jK l,vI id] (qd (iU l id)) []:=by
 refine(LW _ _ _ ?_).run
 have key: ∀(acc:List Int),acc.length+(l.drop 0).length≤l.length→acc++iU (l.drop 0) id=iU l id→ah C eC ak 4 0 (iM (l.map dY) id ((0:Nat):Int) (acc.map bO)) (fun u st=>aG C eC ak u st fun r fs=>r=(qd (iU l id))∧fs=[]):=by
  refine bD l (fun i=> ∀(acc:List Int),acc.length+(l.drop i).length≤l.length→acc++iU (l.drop i) id=iU l id→ah C eC ak 4 0 (iM (l.map dY) id i (acc.map bO)) (fun u st=>aG C eC ak u st fun r fs=>r=(qd (iU l id))∧fs=[])) ?_ ?_
  ·intro acc h0 h1
   refine zK _ _ _ _ _ (au (by simp) (HY _ _ _ _ _ _ ?_))
   rw[List.drop_length] at h1
   simp[iU] at h1
   simp[iU,h1]
  ·intro i a hi ha hd ht hn acc h0 h1
   refine zK _ _ _ _ _ (ai (by simp;omega) ?_)
   rw[hd] at h0 h1
   simp only[List.length_cons] at h0
   simp only[vE,RP,Ui,aX,bH,aL,ha,Option.some.injEq,exists_eq_left',exists_eq_left,bL,eT,hJ,dO,eW,dP,eX,eY,ia,de,natAdd,List.length_map,List.length_append,List.length_singleton,Bool.true_and,Bool.and_true]
   simp (disch:=omega) only[cZ,aJ,lG]
   by_cases hz:id=0
   ·rw[Wh _ _ hz] at h1
    have e: ∀(A B:Prop),(if a.fr=id then(if id=0 then A else B) else A)=if a.fr=id then A else A:=fun A B=>by rw[if_pos hz]
    rw[e,ite_self]
    exact hn _ (by omega) (by rw[Wh _ _ hz,←h1])
   by_cases hk:a.fr=id
   ·rw[if_pos hk,if_neg hz]
    exact hn (acc++[a.id]) (by simp only[List.length_append,List.length_singleton];omega) (by rw[←h1];simp[iU,hk,hz])
   ·rw[if_neg hk]
    exact hn _ (by omega) (by rw[←h1];simp[iU,hk,hz])
 exact key [] (by simp) rfl
theorem E0 (l:List Key) (hl:l.length≤1073741824):aa C gf [cT l] (vB (cE l.length (gn l dA))) []:=by
 refine(Kz _ _ ?_).run
 have key: ∀(k i:Nat),i+k=l.length→1≤i→(List.range' i k).all (gn l dA)=cE l.length (gn l dA)→ah C gf aj 4 0 (nM (l.map bN) i) (fun u st=>aG C gf aj u st fun r fs=>r=vB (cE l.length (gn l dA))∧fs=[]):=by
  intro k
  induction k with
  |zero=>
   intro i h h1 h0
   refine qB _ _ _ (au (by simp;omega) (xg _ _ _ _ ?_))
   simp only[List.range'_zero,List.all_nil] at h0
   rw[←h0];exact⟨rfl,by first|rfl|trivial⟩
  |succ k ih=>
   intro i h h1 h0
   obtain⟨j,rfl⟩: ∃j,i=j+1:=⟨i-1,by omega⟩
   have hj:l[j]?=some l[j]:=List.getElem?_eq_getElem (by omega)
   have hj1:l[j+1]?=some l[j+1]:=List.getElem?_eq_getElem (by omega)
   have e:gn l dA (j+1)=dA l[j] l[j+1]:=by simp only[gn,hj,hj1]
   rw[List.range'_succ,List.all_cons,e] at h0
   refine qB _ _ _ (ai (by simp;omega) ?_)
   rw[dz (by omega),show((j+1:Nat):Int)-1=(j:Int) by omega]
   simp only[mC,aL,hj,hj1,Option.some.injEq,exists_eq_left',A6,exists_eq_left,dO,bL]
   rw[aJ (by omega)]
   cases hb:dA l[j] l[j+1] with
   |true=>
    rw[hb,Bool.true_and] at h0
    exact ai rfl (ih (j+1+1) (by omega) (by omega) h0)
   |false=>
    rw[hb,Bool.false_and] at h0
    refine au rfl (FN _ ?_)
    rw[←h0];exact⟨rfl,by first|rfl|trivial⟩
 cases hz:l.length with
 |zero=>
  have:l=[]:=List.eq_nil_of_length_eq_zero hz
  subst this
  exact qB _ _ _ (au (by simp) (xg _ _ _ _ ⟨rfl,by first|rfl|trivial⟩))
 |succ n=>
  rw[hz] at key
  exact key n 1 (by omega) (by omega) (by unfold cE;rw[List.range'_succ,List.all_cons];rfl)
theorem J2 (l:List Key) (hl:l.length≤1073741824):aa C ek [cT l] (vB ((l.all fW&&(cE l.length (gn l dA)&&decide (l.length≤60))))) []:=by
 refine(Ok _ _ ?_).run
 have key:((l.drop 0).all fW&&(cE l.length (gn l dA)&&decide (l.length≤60)))=(l.all fW&&(cE l.length (gn l dA)&&decide (l.length≤60)))→ah C ek aj 4 0 (kW (l.map bN) ((0:Nat):Int)) (fun u st=>aG C ek aj u st fun r fs=>r=vB ((l.all fW&&(cE l.length (gn l dA)&&decide (l.length≤60))))∧fs=[]):=by
  refine bD l (fun i=>((l.drop i).all fW&&(cE l.length (gn l dA)&&decide (l.length≤60)))=(l.all fW&&(cE l.length (gn l dA)&&decide (l.length≤60)))→ah C ek aj 4 0 (kW (l.map bN) i) (fun u st=>aG C ek aj u st fun r fs=>r=vB ((l.all fW&&(cE l.length (gn l dA)&&decide (l.length≤60))))∧fs=[])) ?_ ?_
  ·intro h0
   refine Bt _ _ _ (au (by simp) (KR _ _ _ _ ?_))
   rw[List.drop_length] at h0
   simp only[List.all_nil,Bool.true_and] at h0
   rw[←h0]
   refine⟨_,E0 l hl,?_⟩
   simp only[h9,List.length_map,Int.ofNat_eq_natCast]
   cases cE l.length (gn l dA)<;>simp
   omega
  ·intro i a hi ha hd htk hn h0
   have gO:fW a=false→(l.all fW&&(cE l.length (gn l dA)&&decide (l.length≤60)))=false:=fun e=>by rw[←h0,hd];simp[e]
   have gN:fW a=true→ah C ek aj 4 0 (kW (l.map bN) ((i:Int)+1)) (fun u st=>aG C ek aj u st fun r fs=>r=vB ((l.all fW&&(cE l.length (gn l dA)&&decide (l.length≤60))))∧fs=[]):=fun e=>hn (by rw[←h0,hd];simp[e])
   refine Bt _ _ _ (ai (by simp;omega) ?_)
   simp only[mC,DM,aL,ha,Option.some.injEq,exists_eq_left',exists_eq_left,bL,eT,hJ,dO,eW,dP,eX,eY,ia,de,natAdd,List.length_map,List.length_append,List.length_singleton,Bool.true_and,Bool.and_true]
   rw[aJ (by omega)]
   cases h1:fW a<;>simp only[lG,lH]<;>first|exact gN (by assumption)|exact KQ _ (by rw[gO (by assumption)];exact⟨rfl,by first|rfl|trivial⟩)
 exact key rfl
theorem GF (l:List Key) (hl:l.length≤1073741824):aa C ek [cT l] (vB (AG l)) []:=by
 have:=J2 l hl
 rw[JJ]
 exact this
theorem NY (l:List Key) (hl:l.length≤1073741824) (q:Bool):aa C ek [cT l] (vB q) []↔q=AG l:=qZ (GF l hl)
theorem GG (s:ByteArray) (hl:s.size≤140737488355328):aa C dG [vS s] (vB ((cE s.size (dJ s)&&iQ s.size 1 6))) []:=by
 refine(Mb _ _ ?_).run
 have key:((List.range' 0 (s.size-0)).all (dJ s)&&iQ s.size 1 6)=(cE s.size (dJ s)&&iQ s.size 1 6)→ah C dG aj 4 0 (iO s ((0:Nat):Int)) (fun u st=>aG C dG aj u st fun r fs=>r=vB ((cE s.size (dJ s)&&iQ s.size 1 6))∧fs=[]):=by
  refine nc (s.size) (fun i=>((List.range' i (s.size-i)).all (dJ s)&&iQ s.size 1 6)=(cE s.size (dJ s)&&iQ s.size 1 6)→ah C dG aj 4 0 (iO s i) (fun u st=>aG C dG aj u st fun r fs=>r=vB ((cE s.size (dJ s)&&iQ s.size 1 6))∧fs=[])) ?_ ?_
  ·intro h0
   refine zT _ _ _ (au (by simp) (Is _ _ _ _ ?_))
   rw[Nat.sub_self] at h0
   simp only[List.range'_zero,List.all_nil,Bool.true_and] at h0
   rw[←h0]
   simp only[qU,exists_eq_left,EO,Int.ofNat_eq_natCast]
   simp
  ·intro i hi hn h0
   rw[jl hi,List.all_cons] at h0
   have gO:(dJ s) i=false→(cE s.size (dJ s)&&iQ s.size 1 6)=false:=fun e=>by rw[←h0,e];rfl
   have gN:(dJ s) i=true→ah C dG aj 4 0 (iO s ((i:Int)+1)) (fun u st=>aG C dG aj u st fun r fs=>r=vB ((cE s.size (dJ s)&&iQ s.size 1 6))∧fs=[]):=fun e=>hn (by rw[←h0,e];rfl)
   refine zT _ _ _ (ai (by simp;omega) ?_)
   obtain⟨n,hb,hn0,hn1⟩:=MS hi
   have hw:rC .i64 n=n:=Pn (by omega)
   simp only[hb,Option.some.injEq,exists_eq_left',qU,exists_eq_left,hw,bL]
   rw[aJ (by omega)]
   have e:dJ s i=(iQ n 97 122||iQ n 48 57):=by unfold dJ;rw[hb];rfl
   rw[e] at gO gN
   cases h1:iQ n 97 122<;>cases h2:iQ n 48 57<;>simp only[lG,lH]<;>first|exact gN (by rw[h1,h2];rfl)|exact Ir _ (by rw[gO (by rw[h1,h2];rfl)];exact⟨rfl,by first|rfl|trivial⟩)
 exact key rfl
theorem B2 (s:ByteArray) (hl:s.size≤140737488355328) (q:Bool):aa C dG [vS s] (vB q) []↔q=qw s:=qZ (GG s hl)
theorem GH (l:List Age) (id:Int) (hl:l.length≤1073741824):aa C eD [jK l,vI id] (qd (iU l id)) []:=by
 refine(Mf _ _ _ ?_).run
 unfold iU
 by_cases hz:id=0
 ·refine ai (by simp[hz]) ?_
  rw[if_pos hz]
  exact⟨rfl,by first|rfl|trivial⟩
 refine au (by simp[hz]) ?_
 rw[if_neg hz]
 have key: ∀(acc:List Int),acc.length+(l.drop 0).length≤l.length→acc++((l.drop 0).filter fun a=>decide (a.fr=id)).map (·.id)=(l.filter fun a=>decide (a.fr=id)).map (·.id)→ah C eD aH 4 0 (jE id (l.map dY) ((0:Nat):Int) (acc.map bO)) (fun u st=>aG C eD aH u st fun r fs=>r=qd ((l.filter fun a=>decide (a.fr=id)).map (·.id))∧fs=[]):=by
  refine bD l (fun i=> ∀(acc:List Int),acc.length+(l.drop i).length≤l.length→acc++((l.drop i).filter fun a=>decide (a.fr=id)).map (·.id)=(l.filter fun a=>decide (a.fr=id)).map (·.id)→ah C eD aH 4 0 (jE id (l.map dY) i (acc.map bO)) (fun u st=>aG C eD aH u st fun r fs=>r=qd ((l.filter fun a=>decide (a.fr=id)).map (·.id))∧fs=[])) ?_ ?_
  ·intro acc h0 h1
   refine zV _ _ _ _ _ (au (by simp) (Iy _ _ _ _ _ _ _ ?_))
   rw[List.drop_length] at h1
   simp only[List.filter_nil,List.map_nil,List.append_nil] at h1
   rw[h1]
   exact⟨rfl,by first|rfl|trivial⟩
  ·intro i a hi ha hd ht hn acc h0 h1
   refine zV _ _ _ _ _ (ai (by simp;omega) ?_)
   rw[hd] at h0 h1
   simp only[List.length_cons] at h0
   simp only[vE,RP,Ui,aX,bH,aL,ha,Option.some.injEq,exists_eq_left',exists_eq_left,bL,eT,hJ,dO,eW,dP,eX,eY,ia,de,natAdd,List.length_map,List.length_append,List.length_singleton,Bool.true_and,Bool.and_true]
   simp (disch:=omega) only[cZ,aJ,lG]
   by_cases hk:a.fr=id
   ·rw[if_pos hk]
    exact hn (acc++[a.id]) (by simp only[List.length_append,List.length_singleton];omega) (by rw[←h1];simp[hk])
   ·rw[if_neg hk]
    exact hn _ (by omega) (by rw[←h1];simp[hk])
 exact key [] (by simp) rfl
theorem GI (l:List Key) (hl:l.length≤1073741824):aa C ei [cT l] (vB ((cE l.length (kD l)&&decide (l.length≤60)))) []:=by
 refine(Of _ _ ?_).run
 have key:((List.range' 0 (l.length-0)).all (kD l)&&decide (l.length≤60))=(cE l.length (kD l)&&decide (l.length≤60))→ah C ei aj 4 0 (ju (l.map bN) ((0:Nat):Int)) (fun u st=>aG C ei aj u st fun r fs=>r=vB ((cE l.length (kD l)&&decide (l.length≤60)))∧fs=[]):=by
  refine nc (l.length) (fun i=>((List.range' i (l.length-i)).all (kD l)&&decide (l.length≤60))=(cE l.length (kD l)&&decide (l.length≤60))→ah C ei aj 4 0 (ju (l.map bN) i) (fun u st=>aG C ei aj u st fun r fs=>r=vB ((cE l.length (kD l)&&decide (l.length≤60)))∧fs=[])) ?_ ?_
  ·intro h0
   refine Br _ _ _ (au (by simp) (KL _ _ _ _ _ ?_))
   rw[Nat.sub_self] at h0
   simp only[List.range'_zero,List.all_nil,Bool.true_and] at h0
   rw[←h0]
   simp[h9]
   omega
  ·intro i hi hn h0
   rw[jl hi,List.all_cons] at h0
   have gO:(kD l) i=false→(cE l.length (kD l)&&decide (l.length≤60))=false:=fun e=>by rw[←h0,e];rfl
   have gN:(kD l) i=true→ah C ei aj 4 0 (ju (l.map bN) ((i:Int)+1)) (fun u st=>aG C ei aj u st fun r fs=>r=vB ((cE l.length (kD l)&&decide (l.length≤60)))∧fs=[]):=fun e=>hn (by rw[←h0,e];rfl)
   refine Br _ _ _ (ai (by simp;omega) ?_)
   have ha:l[i]?=some l[i]:=List.getElem?_eq_getElem hi
   simp only[mC,DL,A5,aL,ha,Option.some.injEq,exists_eq_left',exists_eq_left,bL,eT,hJ,dO,eW,dP,eX,eY,ia,de,natAdd,List.length_map,List.length_append,List.length_singleton,Bool.true_and,Bool.and_true]
   rw[aJ (by omega)]
   cases i with
   |zero=>
    have e:kD l 0=fW l[0]:=by simp[kD,SU,gn,hi]
    simp only[e] at gO gN
    cases h1:fW l[0]<;>simp only[h1,lG,lH,eA,bH,Int.natCast_zero,Int.lt_irrefl,if_false]<;>first|exact gN h1|exact Bs _ _ _ _ _ _ (by rw[gO h1];exact⟨rfl,by first|rfl|trivial⟩)
   |succ k=>
    have hk:l[k]?=some l[k]:=List.getElem?_eq_getElem (by omega)
    have e:kD l (k+1)=(fW l[k+1]&&dA l[k] l[k+1]):=by simp only[kD,SU,gn,hk,ha]
    simp only[e] at gO gN
    rw[dz (by omega),show((k+1:Nat):Int)-1=(k:Int) by omega]
    simp only[aL,hk,Option.some.injEq,exists_eq_left',dO,eA,bH]
    rw[if_pos (by omega)]
    cases h1:fW l[k+1]<;>cases h2:dA l[k] l[k+1]<;>simp only[lG,lH]<;>first|exact gN (by rw[h1,h2];rfl)|exact Bs _ _ _ _ _ _ (by rw[gO (by rw[h1,h2];rfl)];exact⟨rfl,by first|rfl|trivial⟩)
 exact key rfl
theorem NZ (l:List Key) (hl:l.length≤1073741824) (q:Bool):aa C ei [cT l] (vB q) []↔q=AG l:=qZ (GI l hl)
theorem sM (p:Pool) (s:ByteArray) (hl:p.vols.length≤1073741824):aa C eB [fK p,vS s] (vI (nh p.vols s)) []:=by
 refine(N7 _ _ _ _ _ _ _ _ ?_).run
 have key:fU (fun v:Vol=>decide (v.name=s)) (p.vols.drop 0) ((0:Nat):Int)=fU (fun v:Vol=>decide (v.name=s)) p.vols 0→ah C eB aj 4 0 (nq s ((0:Nat):Int) (p.t.lows.map bO) (p.t.nodes.map aW) (p.ages.map dY) (p.cells.map ct) (p.vols.map eg) p.next) (fun u st=>aG C eB aj u st fun r fs=>r=vI (nh p.vols s)∧fs=[]):=by
  refine bD p.vols (fun i=>fU (fun v:Vol=>decide (v.name=s)) (p.vols.drop i) (i:Int)=fU (fun v:Vol=>decide (v.name=s)) p.vols 0→ah C eB aj 4 0 (nq s i (p.t.lows.map bO) (p.t.nodes.map aW) (p.ages.map dY) (p.cells.map ct) (p.vols.map eg) p.next) _) ?_ ?_
  ·intro h0
   refine Bn _ _ _ _ _ _ _ _ _ (au (by simp) (Kr _ _ _ _ _ _ _ _ _ _ ?_))
   rw[List.drop_length] at h0
   simp only[fU] at h0
   change _=vI (fU (fun v:Vol=>decide (v.name=s)) p.vols 0)∧_
   rw[←h0]
   exact⟨rfl,by first|rfl|trivial⟩
  ·intro i a hi ha hd htk hn h0
   refine Bn _ _ _ _ _ _ _ _ _ (ai (by simp;omega) ?_)
   rw[hd] at h0
   simp only[fU] at h0
   simp only[AE,EM,bH,aL,ha,Option.some.injEq,exists_eq_left',exists_eq_left,bL,eT,hJ,dO,eW,dP,eX,eY,ia,de,natAdd,List.length_map,List.length_append,List.length_singleton,Bool.true_and,Bool.and_true]
   rw[aJ (by omega)]
   split at h0
   ·rename_i hp
    have hp:=of_decide_eq_true hp
    first|rw[if_pos hp]|rw[if_pos hp.symm]
    refine Kq _ _ _ _ _ _ _ _ ?_
    rw[h0]
    exact⟨rfl,by first|rfl|trivial⟩
   ·rename_i hp
    have hp: ¬_:=fun h=>hp (decide_eq_true h)
    first|rw[if_neg hp]|rw[if_neg (fun h=>hp h.symm)]
    exact hn h0
 exact key rfl
@[simp] theorem J3 (n:ByteArray) (a z:Int) (f:Bool) (s:ByteArray) (q:Bool):aa C rX [.ag [iS n,iI a,iI z,iB f],.bx [iS s]] (vB q) []↔q=decide (n=s):=qZ (by
  refine(Ko _ _ _ _ _ _ ?_).run
  simp)
theorem Lb (l:List Vol) (s:ByteArray) (hl:l.length≤1073741824):aa C aU [yg l,.fn rX [[iS s]]] (vI (nh l s)) []:=by
 refine(oC _ _ _ ?_).run
 have key:fU (fun v:Vol=>decide (v.name=s)) (l.drop 0) ((0:Nat):Int)=fU (fun v:Vol=>decide (v.name=s)) l 0→ah C aU aj 4 0 (cN (l.map eg) ((0:Nat):Int) s) (fun u st=>aG C aU aj u st fun r fs=>r=vI (nh l s)∧fs=[]):=by
  refine bD l (fun i=>fU (fun v:Vol=>decide (v.name=s)) (l.drop i) (i:Int)=fU (fun v:Vol=>decide (v.name=s)) l 0→ah C aU aj 4 0 (cN (l.map eg) i s) _) ?_ ?_
  ·intro h0
   refine iE _ _ _ _ (au (by simp) (nU _ _ _ _ _ _ ?_))
   rw[List.drop_length] at h0
   simp only[fU] at h0
   change _=vI (fU (fun v:Vol=>decide (v.name=s)) l 0)∧_
   rw[←h0]
   exact⟨rfl,by first|rfl|trivial⟩
  ·intro i a hi ha hd htk hn h0
   refine iE _ _ _ _ (ai (by simp;omega) ?_)
   rw[hd] at h0
   simp only[fU] at h0
   simp only[AE,aX,J3,bH,aL,ha,Option.some.injEq,exists_eq_left',exists_eq_left,bL,eT,hJ,dO,eW,dP,eX,eY,ia,de,natAdd,List.length_map,List.length_append,List.length_singleton,Bool.true_and,Bool.and_true]
   rw[aJ (by omega)]
   split at h0
   ·rename_i hp
    have hp:=of_decide_eq_true hp
    first|rw[if_pos hp]|rw[if_pos hp.symm]
    refine nT _ _ _ ?_
    rw[h0]
    exact⟨rfl,by first|rfl|trivial⟩
   ·rename_i hp
    have hp: ¬_:=fun h=>hp (decide_eq_true h)
    first|rw[if_neg hp]|rw[if_neg (fun h=>hp h.symm)]
    exact hn h0
 exact key rfl
theorem A7 (p:Pool) (s:ByteArray) (hl:p.vols.length≤1073741824):aa C CC [fK p,vS s] (vI (nh p.vols s)) []:=(N3 _ _ _ _ _ _ _ _ ⟨_,Lb p.vols s hl,rfl,by first|rfl|trivial⟩).run
@[simp] theorem GJ (n:ByteArray) (a z:Int) (f:Bool) (s:ByteArray) (a' z':Int) (f':Bool) (q:Bool):aa C mm [.ag [iS n,iI a,iI z,iB f],.bx [iS s,iI a',iI z',iB f']] (vB q) []↔q=decide (a=a'):=qZ (by
  refine(II _ _ _ _ _ _ _ _ _ ?_).run
  simp)
theorem Ac (l:List Vol) (s:ByteArray) (a' z':Int) (f':Bool) (hl:l.length≤1073741824):aa C aU [yg l,.fn mm [[iS s,iI a',iI z',iB f']]] (vI (fU (fun v:Vol=>decide (v.age=a')) l 0)) []:=by
 refine(oh _ _ _ _ _ _ ?_).run
 have key:fU (fun v:Vol=>decide (v.age=a')) (l.drop 0) ((0:Nat):Int)=fU (fun v:Vol=>decide (v.age=a')) l 0→ah C aU aj 4 0 (cK (l.map eg) ((0:Nat):Int) s a' z' f') (fun u st=>aG C aU aj u st fun r fs=>r=vI (fU (fun v:Vol=>decide (v.age=a')) l 0)∧fs=[]):=by
  refine bD l (fun i=>fU (fun v:Vol=>decide (v.age=a')) (l.drop i) (i:Int)=fU (fun v:Vol=>decide (v.age=a')) l 0→ah C aU aj 4 0 (cK (l.map eg) i s a' z' f') _) ?_ ?_
  ·intro h0
   refine iq _ _ _ _ _ _ _ (au (by simp) (nt _ _ _ _ _ _ _ _ _ ?_))
   rw[List.drop_length] at h0
   simp only[fU] at h0
   change _=vI (fU (fun v:Vol=>decide (v.age=a')) l 0)∧_
   rw[←h0]
   exact⟨rfl,by first|rfl|trivial⟩
  ·intro i a hi ha hd htk hn h0
   refine iq _ _ _ _ _ _ _ (ai (by simp;omega) ?_)
   rw[hd] at h0
   simp only[fU] at h0
   simp only[AE,aX,GJ,bH,aL,ha,Option.some.injEq,exists_eq_left',exists_eq_left,bL,eT,hJ,dO,eW,dP,eX,eY,ia,de,natAdd,List.length_map,List.length_append,List.length_singleton,Bool.true_and,Bool.and_true]
   rw[aJ (by omega)]
   split at h0
   ·rename_i hp
    have hp:=of_decide_eq_true hp
    first|rw[if_pos hp]|rw[if_pos hp.symm]
    refine nr _ _ _ _ _ _ ?_
    rw[h0]
    exact⟨rfl,by first|rfl|trivial⟩
   ·rename_i hp
    have hp: ¬_:=fun h=>hp (decide_eq_true h)
    first|rw[if_neg hp]|rw[if_neg (fun h=>hp h.symm)]
    exact hn h0
 exact key rfl
theorem Ae (l:List Vol) (s:ByteArray) (a' z':Int) (f':Bool) (hl:l.length≤1073741824):aa C fQ [yg l,.fn mm [[iS s,iI a',iI z',iB f']]] (vB (l.any (fun v:Vol=>decide (v.age=a')))) []:=by
 refine(mW _ _ _ _ _ _ ⟨_,Ac l s a' z' f' hl,?_⟩).run
 rw[h9,Po _ _ _ (by omega)]
 exact⟨rfl,by first|rfl|trivial⟩
theorem E1 (n:List (List Key)) (hb:n.length≤1073741824) (hl:tot bB n≤1073741824):aa C fq [fC n] (vI (cj n)) []:=by
 refine(Kn _ _ ?_).run
 have key: ∀(c:Nat),c+tot bB (n.drop 0)=cj n→ah C fq ak 4 0 (kQ c ((0:Nat):Int) (n.map bX)) (fun u st=>aG C fq ak u st fun r fs=>r=(vI (cj n))∧fs=[]):=by
  refine bD n (fun i=> ∀(c:Nat),c+tot bB (n.drop i)=cj n→ah C fq ak 4 0 (kQ c i (n.map bX)) (fun u st=>aG C fq ak u st fun r fs=>r=(vI (cj n))∧fs=[])) ?_ ?_
  ·intro c h0
   refine w7 _ _ _ _ (au (by simp) (FE _ _ _ _ _ ?_))
   rw[List.drop_length] at h0
   simp only[tot,Nat.add_zero] at h0
   rw[h0]
   exact⟨rfl,by first|rfl|trivial⟩
  ·intro i a hi ha hd ht hn c h0
   refine w7 _ _ _ _ (ai (by simp;omega) ?_)
   rw[hd] at h0
   have e5:tot bB (a::n.drop (i+1))=a.length+tot bB (n.drop (i+1)):=rfl
   rw[e5] at h0
   unfold cj at h0
   simp only[qv,aL,ha,Option.some.injEq,exists_eq_left',exists_eq_left,bL,eT,hJ,dO,eW,dP,eX,eY,ia,de,natAdd,List.length_map,List.length_append,List.length_singleton,Bool.true_and,Bool.and_true]
   rw[aJ (by simp only[Int.ofNat_eq_natCast];omega),aJ (by omega)]
   exact hn (c+a.length) (by unfold cj;omega)
 exact key 0 (by simp[cj])
theorem E2 (n:List (List Key)) (hs:tot bB n≤1073741824) (hl:n.length≤1073741824):aa C bE [fC n] (vB ((n.all cR&&(decide (n.length≤3)&&decide (cj n≤8))))) []:=by
 refine(Mh _ _ ?_).run
 have key:((n.drop 0).all cR&&(decide (n.length≤3)&&decide (cj n≤8)))=(n.all cR&&(decide (n.length≤3)&&decide (cj n≤8)))→ah C bE aj 4 0 (jF ((0:Nat):Int) (n.map bX)) (fun u st=>aG C bE aj u st fun r fs=>r=vB ((n.all cR&&(decide (n.length≤3)&&decide (cj n≤8))))∧fs=[]):=by
  refine bD n (fun i=>((n.drop i).all cR&&(decide (n.length≤3)&&decide (cj n≤8)))=(n.all cR&&(decide (n.length≤3)&&decide (cj n≤8)))→ah C bE aj 4 0 (jF i (n.map bX)) (fun u st=>aG C bE aj u st fun r fs=>r=vB ((n.all cR&&(decide (n.length≤3)&&decide (cj n≤8))))∧fs=[])) ?_ ?_
  ·intro h0
   refine zY _ _ _ (au (by simp) (IC _ _ _ _ ?_))
   rw[List.drop_length] at h0
   simp only[List.all_nil,Bool.true_and] at h0
   rw[←h0]
   simp only[h9,List.length_map,Int.ofNat_eq_natCast,bH]
   by_cases h3:n.length≤3
   ·rw[if_pos (by omega)]
    refine⟨_,E1 n hl hs,?_⟩
    simp[h3]
    omega
   ·rw[if_neg (by omega)]
    simp[h3]
  ·intro i a hi ha hd htk hn h0
   have gO:cR a=false→(n.all cR&&(decide (n.length≤3)&&decide (cj n≤8)))=false:=fun e=>by rw[←h0,hd];simp[e]
   have gN:cR a=true→ah C bE aj 4 0 (jF ((i:Int)+1) (n.map bX)) (fun u st=>aG C bE aj u st fun r fs=>r=vB ((n.all cR&&(decide (n.length≤3)&&decide (cj n≤8))))∧fs=[]):=fun e=>hn (by rw[←h0,hd];simp[e])
   refine zY _ _ _ (ai (by simp;omega) ?_)
   have hz:a.length≤tot bB n:=jM (w:=bB) ha
   have hh: ∀q,aa C ek [cT a] (vB q) []↔q=AG a:=fun q=>NY a (by omega) q
   simp only[qv,hh,aX,Int.ofNat_eq_natCast,bH,aL,ha,Option.some.injEq,exists_eq_left',exists_eq_left,bL,eT,hJ,dO,eW,dP,eX,eY,ia,de,natAdd,List.length_map,List.length_append,List.length_singleton,Bool.true_and,Bool.and_true]
   rw[aJ (by omega)]
   cases h1:AG a<;>by_cases h2:a.length=0<;>simp only[lG,lH]<;>first|(rw[if_pos (by omega)];exact zZ _ _ (by rw[gO (by simp[cR,h1,h2])];exact⟨rfl,by first|rfl|trivial⟩))|(rw[if_neg (by omega)];exact gN (by simp[cR,h1,h2]))|exact zZ _ _ (by rw[gO (by simp[cR,h1,h2])];exact⟨rfl,by first|rfl|trivial⟩)
 exact key rfl
theorem q7 (n:List (List Key)) (hb:n.length≤1073741824) (hl:tot bB n≤1073741824):aa C bE [fC n] (vB (eM n)) []:=by
 have:=E2 n hl hb
 rw[MT]
 exact this
theorem GK (l:List Age) (hl:l.length≤1073741824):aa C dh [jK l] (vB ((cE l.length (dR l)&&decide (l.length≤16)))) []:=by
 refine(LU _ _ ?_).run
 have key:((List.range' 0 (l.length-0)).all (dR l)&&decide (l.length≤16))=(cE l.length (dR l)&&decide (l.length≤16))→ah C dh aj 4 0 (fz (l.map dY) ((0:Nat):Int)) (fun u st=>aG C dh aj u st fun r fs=>r=vB ((cE l.length (dR l)&&decide (l.length≤16)))∧fs=[]):=by
  refine nc (l.length) (fun i=>((List.range' i (l.length-i)).all (dR l)&&decide (l.length≤16))=(cE l.length (dR l)&&decide (l.length≤16))→ah C dh aj 4 0 (fz (l.map dY) i) (fun u st=>aG C dh aj u st fun r fs=>r=vB ((cE l.length (dR l)&&decide (l.length≤16)))∧fs=[])) ?_ ?_
  ·intro h0
   refine zH _ _ _ (au (by simp) (HT _ _ _ _ ?_))
   rw[Nat.sub_self] at h0
   simp only[List.range'_zero,List.all_nil,Bool.true_and] at h0
   rw[←h0]
   simp[h9]
   omega
  ·intro i hi hn h0
   rw[jl hi,List.all_cons] at h0
   have gO:(dR l) i=false→(cE l.length (dR l)&&decide (l.length≤16))=false:=fun e=>by rw[←h0,e];rfl
   have gN:(dR l) i=true→ah C dh aj 4 0 (fz (l.map dY) ((i:Int)+1)) (fun u st=>aG C dh aj u st fun r fs=>r=vB ((cE l.length (dR l)&&decide (l.length≤16)))∧fs=[]):=fun e=>hn (by rw[←h0,e];rfl)
   refine zH _ _ _ (ai (by simp;omega) ?_)
   have ha:l[i]?=some l[i]:=List.getElem?_eq_getElem hi
   have hh: ∀q,aa C dV [jK (l.take i),vI l[i].fr] (vI q) []↔q=jd (l.take i) l[i].fr:=fun q=>x9 (l.take i) l[i].fr (by simp;omega) q
   have hcut:ax (l.map dY) 0 (i:Int)=(l.take i).map dY:=by rw[cP,Int.toNat_natCast];rfl
   have hin:cG 0 (i:Int) (l.length:Int)=true:=by simp;omega
   simp only[vE,A4,hcut,aL,ha,Option.some.injEq,exists_eq_left',exists_eq_left,bL,eT,hJ,dO,eW,dP,eX,eY,ia,de,natAdd,List.length_map,List.length_append,List.length_singleton,Bool.true_and,Bool.and_true]
   simp only[ha,hin,hh,exists_eq_left,Option.some.injEq,exists_eq_left',lG,aX,h9,eA,bH,Int.ofNat_eq_natCast,List.length_map]
   rw[aJ (by omega)]
   cases i with
   |zero=>
    have e:dR l 0=(iQ l[0].id 1 60&&(decide (l[0].fr=0)|| !decide (jd (l.take 0) l[0].fr<0))):=by simp[dR,SU,gn,hi]
    rw[e] at gO gN
    have hz: ¬((0:Int)<((0:Nat):Int)):=by omega
    simp only[if_neg hz]
    cases h1:iQ l[0].id 1 60 with
    |false=>simp only[lH];exact lY _ (by rw[gO (by rw[h1];simp)];exact⟨rfl,by first|rfl|trivial⟩)
    |true=>
     simp only[lG]
     by_cases h2:l[0].fr=0
     ·rw[if_pos h2];exact gN (by rw[h1,decide_eq_true h2];simp)
     ·rw[if_neg h2]
      by_cases h3:jd (l.take 0) l[0].fr<0
      ·rw[if_pos h3];exact lY _ (by rw[gO (by rw[decide_eq_false h2,decide_eq_true h3];simp)];exact⟨rfl,by first|rfl|trivial⟩)
      ·rw[if_neg h3];exact gN (by rw[h1,decide_eq_false h3];simp)
   |succ k=>
    have hk:l[k]?=some l[k]:=List.getElem?_eq_getElem (by omega)
    have e:dR l (k+1)=(iQ l[k+1].id 1 60&&(decide (l[k].id<l[k+1].id)&&(decide (l[k+1].fr=0)|| !decide (jd (l.take (k+1)) l[k+1].fr<0)))):=by simp only[dR,SU,gn,hk,ha]
    rw[e] at gO gN
    rw[dz (by omega),show((k+1:Nat):Int)-1=(k:Int) by omega]
    simp only[aL,hk,Option.some.injEq,exists_eq_left']
    rw[if_pos (by omega)]
    cases h1:iQ l[k+1].id 1 60 with
    |false=>simp only[lH];exact lY _ (by rw[gO (by rw[h1];simp)];exact⟨rfl,by first|rfl|trivial⟩)
    |true=>
     simp only[lG]
     by_cases h4:l[k].id<l[k+1].id
     ·rw[if_neg (by omega)]
      by_cases h2:l[k+1].fr=0
      ·rw[if_pos h2];exact gN (by rw[h1,decide_eq_true h4,decide_eq_true h2];simp)
      ·rw[if_neg h2]
       by_cases h3:jd (l.take (k+1)) l[k+1].fr<0
       ·rw[if_pos h3];exact lY _ (by rw[gO (by rw[decide_eq_false h2,decide_eq_true h3];simp)];exact⟨rfl,by first|rfl|trivial⟩)
       ·rw[if_neg h3];exact gN (by rw[h1,decide_eq_true h4,decide_eq_false h3];simp)
     ·rw[if_pos (by omega)];exact lY _ (by rw[gO (by rw[decide_eq_false h4];simp)];exact⟨rfl,by first|rfl|trivial⟩)
 exact key rfl
theorem Lc (l:List Age) (hl:l.length≤1073741824) (q:Bool):aa C dh [jK l] (vB q) []↔q=lu l:=qZ (GK l hl)
theorem E3 (n:List (List Key)) (hb:n.length≤1073741824) (hl:tot bB n≤1073741824):aa C bh [fC n] (vB (n.all cR&&(decide (n.length≤3)&&decide (cj n≤8)))) []:=by
 refine(Ls _ _ ?_).run
 have key: ∀(c:Nat),c+tot bB (n.drop 0)=cj n→((n.drop 0).all cR&&(decide (n.length≤3)&&decide (cj n≤8)))=(n.all cR&&(decide (n.length≤3)&&decide (cj n≤8)))→ah C bh ak 4 0 (lM c (n.map bX) ((0:Nat):Int)) (fun u st=>aG C bh ak u st fun r fs=>r=(vB (n.all cR&&(decide (n.length≤3)&&decide (cj n≤8))))∧fs=[]):=by
  refine bD n (fun i=> ∀(c:Nat),c+tot bB (n.drop i)=cj n→((n.drop i).all cR&&(decide (n.length≤3)&&decide (cj n≤8)))=(n.all cR&&(decide (n.length≤3)&&decide (cj n≤8)))→ah C bh ak 4 0 (lM c (n.map bX) i) (fun u st=>aG C bh ak u st fun r fs=>r=(vB (n.all cR&&(decide (n.length≤3)&&decide (cj n≤8))))∧fs=[])) ?_ ?_
  ·intro c h0 h1
   refine zo _ _ _ _ (au (by simp) (Hj _ _ _ _ _ _ ?_))
   rw[List.drop_length] at h0 h1
   simp only[tot,Nat.add_zero] at h0
   simp only[List.all_nil,Bool.true_and] at h1
   rw[←h1]
   simp only[h9,List.length_map,Int.ofNat_eq_natCast,bH]
   by_cases h3:n.length≤3
   ·rw[if_pos (by omega)]
    simp[h3]
    omega
   ·rw[if_neg (by omega)]
    simp[h3]
  ·intro i a hi ha hd ht hn c h0 h1
   refine zo _ _ _ _ (ai (by simp;omega) ?_)
   have hz:a.length≤tot bB n:=jM (w:=bB) ha
   have hh: ∀q,aa C ei [cT a] (vB q) []↔q=AG a:=fun q=>NZ a (by omega) q
   rw[hd] at h0 h1
   have e5:tot bB (a::n.drop (i+1))=a.length+tot bB (n.drop (i+1)):=rfl
   rw[e5] at h0
   unfold cj at h0
   have hO:cR a=false→aG C bh ak TX.ret (oM (n.map bX)) (fun r fs=>r=vB (n.all cR&&(decide (n.length≤3)&&decide (cj n≤8)))∧fs=[]):=fun e=>Hi _ _ (by rw[←h1];simp only[List.all_cons,e];exact⟨rfl,by first|rfl|trivial⟩)
   simp only[qv,hh,aX,Int.ofNat_eq_natCast,bH,aL,ha,Option.some.injEq,exists_eq_left',exists_eq_left,bL,eT,hJ,dO,eW,dP,eX,eY,ia,de,natAdd,List.length_map,List.length_append,List.length_singleton,Bool.true_and,Bool.and_true]
   rw[aJ (by omega),aJ (by omega)]
   cases h2:AG a<;>by_cases h3:a.length=0<;>simp only[lG,lH]
   ·exact hO (by simp[cR,h2])
   ·exact hO (by simp[cR,h2])
   ·rw[if_pos (by omega)];exact hO (by simp[cR,h3])
   ·rw[if_neg (by omega)]
    exact hn (c+a.length) (by unfold cj;omega) (by rw[←h1];simp[cR,h2,h3])
 exact key 0 (by simp[cj]) rfl
theorem q8 (n:List (List Key)) (hb:n.length≤1073741824) (hl:tot bB n≤1073741824):aa C bh [fC n] (vB (eM n)) []:=by
 have:=E3 n hb hl
 rw[MT]
 exact this
theorem Ld (n:List (List Key)) (hb:n.length≤1073741824) (hl:tot bB n≤1073741824) (q:Bool):aa C bh [.ag [.sub 1 (n.map bX)]] (vB q) []↔q=eM n:=qZ (q8 n hb hl)
theorem GL (l:List Age) (hl:l.length≤1073741824):aa C di [jK l] (vB ((cE l.length (dR l)&&decide (l.length≤16)))) []:=by
 refine(LD _ _ ?_).run
 have key:((List.range' 0 (l.length-0)).all (dR l)&&decide (l.length≤16))=(cE l.length (dR l)&&decide (l.length≤16))→ah C di aj 4 0 (fy (l.map dY) ((0:Nat):Int)) (fun u st=>aG C di aj u st fun r fs=>r=vB ((cE l.length (dR l)&&decide (l.length≤16)))∧fs=[]):=by
  refine nc (l.length) (fun i=>((List.range' i (l.length-i)).all (dR l)&&decide (l.length≤16))=(cE l.length (dR l)&&decide (l.length≤16))→ah C di aj 4 0 (fy (l.map dY) i) (fun u st=>aG C di aj u st fun r fs=>r=vB ((cE l.length (dR l)&&decide (l.length≤16)))∧fs=[])) ?_ ?_
  ·intro h0
   refine zy _ _ _ (au (by simp) (HD _ _ _ _ _ ?_))
   rw[Nat.sub_self] at h0
   simp only[List.range'_zero,List.all_nil,Bool.true_and] at h0
   rw[←h0]
   simp[h9]
   omega
  ·intro i hi hn h0
   rw[jl hi,List.all_cons] at h0
   have gO:(dR l) i=false→(cE l.length (dR l)&&decide (l.length≤16))=false:=fun e=>by rw[←h0,e];rfl
   have gN:(dR l) i=true→ah C di aj 4 0 (fy (l.map dY) ((i:Int)+1)) (fun u st=>aG C di aj u st fun r fs=>r=vB ((cE l.length (dR l)&&decide (l.length≤16)))∧fs=[]):=fun e=>hn (by rw[←h0,e];rfl)
   refine zy _ _ _ (ai (by simp;omega) ?_)
   have ha:l[i]?=some l[i]:=List.getElem?_eq_getElem hi
   have hh: ∀q,aa C jo [jK (l.take i),vI l[i].fr] (vI q) []↔q=jd (l.take i) l[i].fr:=fun q=>ya (l.take i) l[i].fr (by simp;omega) q
   have hcut:ax (l.map dY) 0 (i:Int)=(l.take i).map dY:=by rw[cP,Int.toNat_natCast];rfl
   have hin:cG 0 (i:Int) (l.length:Int)=true:=by simp;omega
   simp only[vE,qU,hcut,aL,ha,Option.some.injEq,exists_eq_left',exists_eq_left,bL,eT,hJ,dO,eW,dP,eX,eY,ia,de,natAdd,List.length_map,List.length_append,List.length_singleton,Bool.true_and,Bool.and_true]
   simp only[ha,hin,hh,exists_eq_left,Option.some.injEq,exists_eq_left',lG,aX,h9,eA,bH,Int.ofNat_eq_natCast,List.length_map]
   rw[aJ (by omega)]
   cases i with
   |zero=>
    have e:dR l 0=(iQ l[0].id 1 60&&(decide (l[0].fr=0)|| !decide (jd (l.take 0) l[0].fr<0))):=by simp[dR,SU,gn,hi]
    rw[e] at gO gN
    have hz: ¬((0:Int)<((0:Nat):Int)):=by omega
    simp only[if_neg hz]
    cases h1:iQ l[0].id 1 60 with
    |false=>simp only[lH];exact lX _ _ _ (by rw[gO (by rw[h1];simp)];exact⟨rfl,by first|rfl|trivial⟩)
    |true=>
     simp only[lG]
     by_cases h2:l[0].fr=0
     ·rw[if_pos h2];exact gN (by rw[h1,decide_eq_true h2];simp)
     ·rw[if_neg h2]
      by_cases h3:jd (l.take 0) l[0].fr<0
      ·rw[if_pos h3];exact lX _ _ _ (by rw[gO (by rw[decide_eq_false h2,decide_eq_true h3];simp)];exact⟨rfl,by first|rfl|trivial⟩)
      ·rw[if_neg h3];exact gN (by rw[h1,decide_eq_false h3];simp)
   |succ k=>
    have hk:l[k]?=some l[k]:=List.getElem?_eq_getElem (by omega)
    have e:dR l (k+1)=(iQ l[k+1].id 1 60&&(decide (l[k].id<l[k+1].id)&&(decide (l[k+1].fr=0)|| !decide (jd (l.take (k+1)) l[k+1].fr<0)))):=by simp only[dR,SU,gn,hk,ha]
    rw[e] at gO gN
    rw[dz (by omega),show((k+1:Nat):Int)-1=(k:Int) by omega]
    simp only[aL,hk,Option.some.injEq,exists_eq_left']
    rw[if_pos (by omega)]
    cases h1:iQ l[k+1].id 1 60 with
    |false=>simp only[lH];exact lX _ _ _ (by rw[gO (by rw[h1];simp)];exact⟨rfl,by first|rfl|trivial⟩)
    |true=>
     simp only[lG]
     by_cases h4:l[k].id<l[k+1].id
     ·rw[if_neg (by omega)]
      by_cases h2:l[k+1].fr=0
      ·rw[if_pos h2];exact gN (by rw[h1,decide_eq_true h4,decide_eq_true h2];simp)
      ·rw[if_neg h2]
       by_cases h3:jd (l.take (k+1)) l[k+1].fr<0
       ·rw[if_pos h3];exact lX _ _ _ (by rw[gO (by rw[decide_eq_false h2,decide_eq_true h3];simp)];exact⟨rfl,by first|rfl|trivial⟩)
       ·rw[if_neg h3];exact gN (by rw[h1,decide_eq_true h4,decide_eq_false h3];simp)
     ·rw[if_pos (by omega)];exact lX _ _ _ (by rw[gO (by rw[decide_eq_false h4];simp)];exact⟨rfl,by first|rfl|trivial⟩)
 exact key rfl
theorem Le (l:List Age) (hl:l.length≤1073741824) (q:Bool):aa C di [jK l] (vB q) []↔q=lu l:=qZ (GL l hl)
@[simp] theorem B3 (b a q:Int):aa C um [vI b,vI a] (vI q) []↔q=fX b a:=Uo ((LL _ _ _ ⟨rfl,by first|rfl|trivial⟩).run)
@[simp] theorem B4 (b a k c g q:Int):aa C dn [.ag [iI b,iI a,iI k,iI c,iI g]] (vI q) []↔q=fX b a:=Uo (by
  refine(Md _ _ _ _ _ _ ?_).run
  simp only[B3,exists_eq_left]
  simp)
@[simp] theorem vN (b a q:Int):aa C pM [vI b,vI a] (vI q) []↔q=fX b a:=Uo ((Lo _ _ _ ⟨rfl,by first|rfl|trivial⟩).run)
theorem E4 (t:Tree) (i:Nat) (n:List (List Key)) (hi:i<t.lows.length) (hl:dx t≤1073741824) (hn:n.length≤1073741824) (hz:tot bB n≤1073741824):ah C bn aH 4 0 (gv i ((0:Nat):Int) (t.lows.map bO) (t.nodes.map aW) (n.map bX)) (fun u st=>aG C bn aH u st fun r fs=>r=vB (n.all (bR t.lows i))∧fs=[]):=by
 have hll:t.lows.length≤1073741824:=by unfold dx at hl;omega
 have hlo:t.lows[i]?=some t.lows[i]:=List.getElem?_eq_getElem hi
 have key:(n.drop 0).all (bR t.lows i)=n.all (bR t.lows i)→ah C bn aH 4 0 (gv i ((0:Nat):Int) (t.lows.map bO) (t.nodes.map aW) (n.map bX)) (fun u st=>aG C bn aH u st fun r fs=>r=vB (n.all (bR t.lows i))∧fs=[]):=by
  refine bD n (fun k=>(n.drop k).all (bR t.lows i)=n.all (bR t.lows i)→ah C bn aH 4 0 (gv i k (t.lows.map bO) (t.nodes.map aW) (n.map bX)) (fun u st=>aG C bn aH u st fun r fs=>r=vB (n.all (bR t.lows i))∧fs=[])) ?_ ?_
  ·intro h0
   refine zm _ _ _ _ _ _ (au (by simp) (He _ _ _ _ _ _ _ ?_))
   rw[List.drop_length] at h0
   simp only[List.all_nil] at h0
   rw[←h0]
   exact⟨rfl,by first|rfl|trivial⟩
  ·intro k s hk hs hd htk hnext h0
   have hsl:s.length≤tot bB n:=jM (w:=bB) hs
   rw[hd,List.all_cons] at h0
   refine zm _ _ _ _ _ _ (ai (by simp;omega) ?_)
   have keyI:(s.drop 0).all (fM t.lows i)=s.all (fM t.lows i)→ah C bn kr 3 2 (iJ i k ((0:Nat):Int) (t.lows.map bO) (t.nodes.map aW) (n.map bX)) (fun u st=>qb C bn aH 4 0 CR u st (fun u st=>aG C bn aH u st fun r fs=>r=vB (n.all (bR t.lows i))∧fs=[])):=by
    refine bD s (fun j=>(s.drop j).all (fM t.lows i)=s.all (fM t.lows i)→ah C bn kr 3 2 (iJ i k j (t.lows.map bO) (t.nodes.map aW) (n.map bX)) (fun u st=>qb C bn aH 4 0 CR u st (fun u st=>aG C bn aH u st fun r fs=>r=vB (n.all (bR t.lows i))∧fs=[]))) ?_ ?_
    ·intro h1
     rw[List.drop_length] at h1
     simp only[List.all_nil] at h1
     refine zn _ _ _ _ _ _ _ (⟨_,cF hs,au (by simp) (Hg _ _ _ _ _ _ _ _ ?_)⟩)
     rw[aJ (by omega)]
     exact hnext (by rw[←h0];unfold bR;rw[←h1];simp)
    ·intro j x hj hx hdj htj hn2 h1
     rw[hdj,List.all_cons] at h1
     have gO:fM t.lows i x=false→qb C bn aH 4 0 CR TX.ret (oL (t.lows.map bO) (t.nodes.map aW) (n.map bX)) (fun u st=>aG C bn aH u st fun r fs=>r=vB (n.all (bR t.lows i))∧fs=[]):=fun e=>Hf _ _ _ _ (Hh _ _ _ _ (by
      have e2:bR t.lows i s=false:=by unfold bR;rw[←h1,e];rfl
      rw[←h0,e2];exact⟨rfl,by first|rfl|trivial⟩))
     have gN:fM t.lows i x=true→ah C bn kr 3 2 (iJ i k ((j:Int)+1) (t.lows.map bO) (t.nodes.map aW) (n.map bX)) (fun u st=>qb C bn aH 4 0 CR u st (fun u st=>aG C bn aH u st fun r fs=>r=vB (n.all (bR t.lows i))∧fs=[])):=fun e=>hn2 (by rw[←h1,e];rfl)
     have e:fM t.lows i x=(!decide (fX x.b x.a<t.lows[i])&&(match t.lows[i+1]? with|some hi=>decide (fX x.b x.a<hi)|none=>true)):=by simp only[fM,QH,hlo];rfl
     rw[e] at gO gN
     refine zn _ _ _ _ _ _ _ (⟨_,cF hs,ai (by simp;omega) ⟨_,cF hs,?_⟩⟩)
     rw[aJ (a:=(i:Int)) (by omega),aJ (a:=(j:Int)) (by omega)]
     simp only[mC,vD,aL,hx,hlo,Option.some.injEq,exists_eq_left',B4,exists_eq_left,eA,h9,bH,List.length_map,Int.ofNat_eq_natCast]
     by_cases h2:fX x.b x.a<t.lows[i]
     ·rw[if_pos h2]
      exact gO (by rw[decide_eq_true h2];rfl)
     ·rw[if_neg h2]
      by_cases h3:i+1<t.lows.length
      ·have hhi:t.lows[i+1]?=some t.lows[i+1]:=List.getElem?_eq_getElem h3
       rw[if_pos (by omega),show((i:Int)+1)=((i+1:Nat):Int) by omega,aL,hhi]
       simp only[Option.some.injEq,exists_eq_left']
       rw[hhi] at gO gN
       by_cases h4:fX x.b x.a<t.lows[i+1]
       ·rw[if_neg (by omega)]
        exact gN (by rw[decide_eq_false h2];simp[h4])
       ·rw[if_pos (by omega)]
        exact gO (by simp[h4])
      ·rw[if_neg (by omega)]
       have hno:t.lows[i+1]?=none:=List.getElem?_eq_none (by omega)
       rw[hno] at gN
       exact gN (by rw[decide_eq_false h2];rfl)
   exact keyI rfl
 exact key rfl
theorem CK (t:Tree) (i:Nat) (n:List (List Key)) (hi:i<t.lows.length) (hl:dx t≤1073741824) (hn:n.length≤1073741824) (hz:tot bB n≤1073741824):ah C bf aj 4 0 (iA i (n.map bX) (n.length:Int) ((0:Nat):Int) (t.lows.map bO) (t.nodes.map aW)) (fun u st=>aG C bf aj u st fun r fs=>r=vB (n.all (bR t.lows i))∧fs=[]):=by
 have hll:t.lows.length≤1073741824:=by unfold dx at hl;omega
 have hlo:t.lows[i]?=some t.lows[i]:=List.getElem?_eq_getElem hi
 have key:(n.drop 0).all (bR t.lows i)=n.all (bR t.lows i)→ah C bf aj 4 0 (iA i (n.map bX) (n.length:Int) ((0:Nat):Int) (t.lows.map bO) (t.nodes.map aW)) (fun u st=>aG C bf aj u st fun r fs=>r=vB (n.all (bR t.lows i))∧fs=[]):=by
  refine bD n (fun k=>(n.drop k).all (bR t.lows i)=n.all (bR t.lows i)→ah C bf aj 4 0 (iA i (n.map bX) (n.length:Int) k (t.lows.map bO) (t.nodes.map aW)) (fun u st=>aG C bf aj u st fun r fs=>r=vB (n.all (bR t.lows i))∧fs=[])) ?_ ?_
  ·intro h0
   refine vf _ _ _ _ _ _ _ (au (by simp) (D8 _ _ _ _ _ _ _ _ ?_))
   rw[List.drop_length] at h0
   simp only[List.all_nil] at h0
   rw[←h0]
   exact⟨rfl,by first|rfl|trivial⟩
  ·intro k s hk hs hd htk hnext h0
   have hsl:s.length≤tot bB n:=jM (w:=bB) hs
   rw[hd,List.all_cons] at h0
   refine vf _ _ _ _ _ _ _ (ai (by simp;omega) ⟨_,cF hs,?_⟩)
   have keyI:(s.drop 0).all (fM t.lows i)=s.all (fM t.lows i)→ah C bf ko 3 2 (gh i (n.map bX) (n.length:Int) k (s.map bN) ((0:Nat):Int) (t.lows.map bO) (t.nodes.map aW)) (fun u st=>qb C bf aj 4 0 sQ u st (fun u st=>aG C bf aj u st fun r fs=>r=vB (n.all (bR t.lows i))∧fs=[])):=by
    refine bD s (fun j=>(s.drop j).all (fM t.lows i)=s.all (fM t.lows i)→ah C bf ko 3 2 (gh i (n.map bX) (n.length:Int) k (s.map bN) j (t.lows.map bO) (t.nodes.map aW)) (fun u st=>qb C bf aj 4 0 sQ u st (fun u st=>aG C bf aj u st fun r fs=>r=vB (n.all (bR t.lows i))∧fs=[]))) ?_ ?_
    ·intro h1
     rw[List.drop_length] at h1
     simp only[List.all_nil] at h1
     refine vg _ _ _ _ _ _ _ _ _ (au (by simp) (Ea _ _ _ _ _ _ _ _ _ _ _ ?_))
     rw[aJ (by omega)]
     exact hnext (by rw[←h0];unfold bR;rw[←h1];simp)
    ·intro j x hj hx hdj htj hn2 h1
     rw[hdj,List.all_cons] at h1
     have gO:fM t.lows i x=false→qb C bf aj 4 0 sQ TX.ret (mR (t.lows.map bO) (t.nodes.map aW) x.b x.a x.k x.c x.g) (fun u st=>aG C bf aj u st fun r fs=>r=vB (n.all (bR t.lows i))∧fs=[]):=fun e=>D9 _ _ _ _ _ _ _ _ (Eb _ _ _ _ _ _ _ _ (by
      have e2:bR t.lows i s=false:=by unfold bR;rw[←h1,e];rfl
      rw[←h0,e2];exact⟨rfl,by first|rfl|trivial⟩))
     have gN:fM t.lows i x=true→ah C bf ko 3 2 (gh i (n.map bX) (n.length:Int) k (s.map bN) ((j:Int)+1) (t.lows.map bO) (t.nodes.map aW)) (fun u st=>qb C bf aj 4 0 sQ u st (fun u st=>aG C bf aj u st fun r fs=>r=vB (n.all (bR t.lows i))∧fs=[])):=fun e=>hn2 (by rw[←h1,e];rfl)
     have e:fM t.lows i x=(!decide (fX x.b x.a<t.lows[i])&&(match t.lows[i+1]? with|some hi=>decide (fX x.b x.a<hi)|none=>true)):=by simp only[fM,QH,hlo];rfl
     rw[e] at gO gN
     refine vg _ _ _ _ _ _ _ _ _ (ai (by simp;omega) ?_)
     rw[aJ (a:=(i:Int)) (by omega),aJ (a:=(j:Int)) (by omega)]
     simp only[mC,vD,aL,hx,hlo,Option.some.injEq,exists_eq_left',vN,exists_eq_left,eA,h9,bH,List.length_map,Int.ofNat_eq_natCast]
     by_cases h2:fX x.b x.a<t.lows[i]
     ·rw[if_pos h2]
      exact gO (by rw[decide_eq_true h2];rfl)
     ·rw[if_neg h2]
      by_cases h3:i+1<t.lows.length
      ·have hhi:t.lows[i+1]?=some t.lows[i+1]:=List.getElem?_eq_getElem h3
       rw[if_pos (by omega),show((i:Int)+1)=((i+1:Nat):Int) by omega,aL,hhi]
       simp only[Option.some.injEq,exists_eq_left']
       rw[hhi] at gO gN
       by_cases h4:fX x.b x.a<t.lows[i+1]
       ·rw[if_neg (by omega)]
        exact gN (by rw[decide_eq_false h2];simp[h4])
       ·rw[if_pos (by omega)]
        exact gO (by simp[h4])
      ·rw[if_neg (by omega)]
       have hno:t.lows[i+1]?=none:=List.getElem?_eq_none (by omega)
       rw[hno] at gN
       exact gN (by rw[decide_eq_false h2];rfl)
   exact keyI rfl
 exact key rfl
theorem GM (t:Tree) (i:Nat) (n:List (List Key)) (ha:t.nodes[i]?=some n) (hlo:i<t.lows.length) (hl:dx t≤1073741824):aa C bn [dD t,vI i] (vB (eM n&&((decide (i=0)|| !decide ((aQ n).length=0))&&n.all (bR t.lows i)))) []:=by
 have hz:aP n≤tot aP t.nodes:=jM (w:=aP) ha
 have e1:aP n=n.length+tot bB n:=rfl
 have e2:dx t=t.lows.length+(t.nodes.length+tot aP t.nodes):=rfl
 have hnk:=cM n
 refine(Lr _ _ _ _ ⟨_,cF (e:=aW) ha,_,q7 n (by omega) (by omega),?_⟩).run
 cases h1:eM n with
 |false=>exact ai rfl ⟨rfl,by first|rfl|trivial⟩
 |true=>
  refine au rfl ?_
  have hloop:=E4 t i n hlo hl (by omega) (by omega)
  have conv: ∀B:Bool,B=n.all (bR t.lows i)→ah C bn aH 4 0 (gv i 0 (t.lows.map bO) (t.nodes.map aW) (n.map bX)) (fun u st=>aG C bn aH u st fun r fs=>r=vB B∧fs=[]):=fun B hB=>by subst hB;exact hloop
  cases i with
  |zero=>exact au (by simp) (conv _ (by simp))
  |succ k=>
   refine ai (by first|(simp;done)|(simp;omega)) ⟨_,uo n (by omega) (by omega),?_⟩
   by_cases h2:(aQ n).length=0
   ·refine ai (by simp[h2]) ?_
    simp[h2]
   ·exact au (by simpa using h2) (conv _ (by simp[h2]))
theorem q9 (t:Tree) (hl:dx t≤1073741824):aa C an [dD t] (vB (dS t)) []:=by
 have e2:dx t=t.lows.length+(t.nodes.length+tot aP t.nodes):=rfl
 refine(LB _ _ _ ?_).run
 simp only[A4,exists_eq_left,List.length_map,Int.ofNat_eq_natCast,aX,bL]
 unfold dS
 cases h1:iQ (t.nodes.length:Int) 1 20 with
 |false=>exact au rfl ⟨rfl,by first|rfl|trivial⟩
 |true=>
  refine ai rfl ?_
  have hn1:1≤t.nodes.length:=by have:=of_decide_eq_true h1;omega
  by_cases h2:t.lows.length=t.nodes.length
  ·refine ai (by simp[h2]) ?_
   have h0:t.lows[0]?=some t.lows[0]:=List.getElem?_eq_getElem (by omega)
   have hz0:gj t.lows 0=some t.lows[0]:=by rw[show(0:Int)=((0:Nat):Int) from rfl,aL];exact h0
   simp only[vD,hz0,h0,Option.some.injEq,exists_eq_left',bH]
   by_cases h3:t.lows[0]=0
   ·rw[if_pos (by simpa using h3)]
    have hw:(true&&(decide (t.lows.length=t.nodes.length)&&((decide (t.lows[0]=0))&&(cE t.nodes.length (cH t)&&decide ((bY t).length≤60)))))=(cE t.nodes.length (cH t)&&decide ((bY t).length≤60)):=by simp[h2,h3]
    rw[hw]
    have key:((List.range' 0 (t.nodes.length-0)).all (cH t)&&decide ((bY t).length≤60))=(cE t.nodes.length (cH t)&&decide ((bY t).length≤60))→ah C an ak 4 0 (iK ((0:Nat):Int) (t.lows.map bO) (t.nodes.map aW)) (fun u st=>aG C an ak u st fun r fs=>r=vB (cE t.nodes.length (cH t)&&decide ((bY t).length≤60))∧fs=[]):=by
     refine nc t.nodes.length (fun i=>((List.range' i (t.nodes.length-i)).all (cH t)&&decide ((bY t).length≤60))=(cE t.nodes.length (cH t)&&decide ((bY t).length≤60))→ah C an ak 4 0 (iK i (t.lows.map bO) (t.nodes.map aW)) _) ?_ ?_
     ·intro h0
      rw[Nat.sub_self] at h0
      simp only[List.range'_zero,List.all_nil,Bool.true_and] at h0
      refine zx _ _ _ _ (au (by simp) (HC _ _ _ _ _ ⟨_,uq t hl,?_⟩))
      rw[←h0]
      simp[h9]
      omega
     ·intro i hi hn h0
      rw[jl hi,List.all_cons] at h0
      have ha:t.nodes[i]?=some t.nodes[i]:=List.getElem?_eq_getElem hi
      have hli:t.lows[i]?=some t.lows[i]:=List.getElem?_eq_getElem (by omega)
      have gO:cH t i=false→aG C an ak TX.ret (lO (t.lows.map bO) (t.nodes.map aW)) (fun r fs=>r=vB (cE t.nodes.length (cH t)&&decide ((bY t).length≤60))∧fs=[]):=fun e=>HB _ _ _ (by rw[←h0,e];exact⟨rfl,by first|rfl|trivial⟩)
      have gN:cH t i=true→ah C an ak 4 0 (iK ((i:Int)+1) (t.lows.map bO) (t.nodes.map aW)) (fun u st=>aG C an ak u st fun r fs=>r=vB (cE t.nodes.length (cH t)&&decide ((bY t).length≤60))∧fs=[]):=fun e=>hn (by rw[←h0,e];rfl)
      have hh: ∀q,aa C bn [dD t,vI i] (vB q) []↔q=_:=fun q=>qZ (GM t i t.nodes[i] ha (by omega) hl)
      refine zx _ _ _ _ (ai (by simp;omega) ?_)
      rw[aJ (by omega)]
      simp only[hh,exists_eq_left,eA,h9,bH,bL]
      cases i with
      |zero=>
       have e:cH t 0=(eM t.nodes[0]&&((decide (0=0)|| !decide ((aQ t.nodes[0]).length=0))&&t.nodes[0].all (bR t.lows 0))):=by simp only[cH,gn,ha,Bool.true_and]
       rw[e] at gO gN
       rw[if_neg (by omega)]
       exact ov gN gO
      |succ k=>
       have hk:t.lows[k]?=some t.lows[k]:=List.getElem?_eq_getElem (by omega)
       have e:cH t (k+1)=(decide (t.lows[k]<t.lows[k+1])&&(eM t.nodes[k+1]&&((decide (k+1=0)|| !decide ((aQ t.nodes[k+1]).length=0))&&t.nodes[k+1].all (bR t.lows (k+1))))):=by simp only[cH,gn,ha,hk,hli]
       rw[e] at gO gN
       rw[if_pos (by omega),dz (by omega),show((k+1:Nat):Int)-1=(k:Int) by omega]
       simp only[vD,aL,hk,hli,Option.some.injEq,exists_eq_left']
       by_cases h4:t.lows[k]<t.lows[k+1]
       ·rw[if_neg (by omega)]
        rw[decide_eq_true h4,Bool.true_and] at gO gN
        exact ov gN gO
       ·rw[if_pos (by omega)]
        exact gO (by rw[decide_eq_false h4];rfl)
    exact key rfl
   ·rw[if_neg (by simpa using h3)]
    simp[h3]
  ·refine au (by simp;omega) ?_
   simp[h2]
theorem DP (t:Tree) (i:Nat) (n:List (List Key)) (ha:t.nodes[i]?=some n) (hlo:i<t.lows.length) (hl:dx t≤1073741824):aa C bf [dD t,vI i] (vB (n.all (bR t.lows i))) []:=by
 have hz:aP n≤tot aP t.nodes:=jM (w:=aP) ha
 have e1:aP n=n.length+tot bB n:=rfl
 have e2:dx t=t.lows.length+(t.nodes.length+tot aP t.nodes):=rfl
 refine(HH _ _ _ _ ⟨_,cF (e:=aW) ha,?_⟩).run
 simp only[List.length_map,Int.ofNat_eq_natCast]
 exact CK t i n hlo hl (by omega) (by omega)
theorem rj (t:Tree) (hl:dx t≤1073741824):aa C bC [dD t] (vB (dS t)) []:=by
 have e2:dx t=t.lows.length+(t.nodes.length+tot aP t.nodes):=rfl
 refine(Lm _ _ _ ?_).run
 simp only[qU,exists_eq_left,List.length_map,Int.ofNat_eq_natCast,aX,bL]
 unfold dS
 cases h1:iQ (t.nodes.length:Int) 1 20 with
 |false=>exact au rfl ⟨rfl,by first|rfl|trivial⟩
 |true=>
  refine ai rfl ?_
  have hn1:1≤t.nodes.length:=by have:=of_decide_eq_true h1;omega
  by_cases h2:t.lows.length=t.nodes.length
  ·refine ai (by simp[h2]) ?_
   have h0:t.lows[0]?=some t.lows[0]:=List.getElem?_eq_getElem (by omega)
   have hz0:gj t.lows 0=some t.lows[0]:=by rw[show(0:Int)=((0:Nat):Int) from rfl,aL];exact h0
   simp only[vD,hz0,h0,Option.some.injEq,exists_eq_left',bH]
   by_cases h3:t.lows[0]=0
   ·rw[if_pos (by simpa using h3)]
    have hw:(true&&(decide (t.lows.length=t.nodes.length)&&((decide (t.lows[0]=0))&&(cE t.nodes.length (cH t)&&decide ((bY t).length≤60)))))=(cE t.nodes.length (cH t)&&decide ((bY t).length≤60)):=by simp[h2,h3]
    rw[hw]
    have key: ∀c:Nat,c+((t.nodes.drop 0).flatMap aQ).length=(bY t).length→((List.range' 0 (t.nodes.length-0)).all (cH t)&&decide ((bY t).length≤60))=(cE t.nodes.length (cH t)&&decide ((bY t).length≤60))→ah C bC aH 4 0 (fu c (t.nodes.map aW) ((0:Nat):Int) (t.lows.map bO)) (fun u st=>aG C bC aH u st fun r fs=>r=vB (cE t.nodes.length (cH t)&&decide ((bY t).length≤60))∧fs=[]):=by
     refine nc t.nodes.length (fun i=> ∀c:Nat,c+((t.nodes.drop i).flatMap aQ).length=(bY t).length→((List.range' i (t.nodes.length-i)).all (cH t)&&decide ((bY t).length≤60))=(cE t.nodes.length (cH t)&&decide ((bY t).length≤60))→ah C bC aH 4 0 (fu c (t.nodes.map aW) i (t.lows.map bO)) _) ?_ ?_
     ·intro c hc h0
      rw[Nat.sub_self] at h0
      simp only[List.range'_zero,List.all_nil,Bool.true_and] at h0
      rw[List.drop_length] at hc
      simp at hc
      refine zl _ _ _ _ _ (au (by simp) (G9 _ _ _ _ _ _ _ ?_))
      rw[←h0]
      simp[h9]
      omega
     ·intro i hi hn c hc h0
      rw[jl hi,List.all_cons] at h0
      have ha:t.nodes[i]?=some t.nodes[i]:=List.getElem?_eq_getElem hi
      have hli:t.lows[i]?=some t.lows[i]:=List.getElem?_eq_getElem (by omega)
      rw[List.drop_eq_getElem_cons hi,List.flatMap_cons,List.length_append] at hc
      have hz:aP t.nodes[i]≤tot aP t.nodes:=jM (w:=aP) ha
      have e1:aP t.nodes[i]=t.nodes[i].length+tot bB t.nodes[i]:=rfl
      have hnk:=cM t.nodes[i]
      have htk:=rT t
      have gO1:cH t i=false→aG C bC aH TX.ret (iH (t.lows.map bO) (t.nodes.map aW) (t.nodes[i].map bX)) (fun r fs=>r=vB (cE t.nodes.length (cH t)&&decide ((bY t).length≤60))∧fs=[]):=fun e=>G7 _ _ _ _ (by rw[←h0,e];exact⟨rfl,by first|rfl|trivial⟩)
      have gO2:cH t i=false→aG C bC aH TX.ret (oK (t.lows.map bO) (t.nodes.map aW) (t.nodes[i].map bX) ((aQ t.nodes[i]).map bN)) (fun r fs=>r=vB (cE t.nodes.length (cH t)&&decide ((bY t).length≤60))∧fs=[]):=fun e=>G8 _ _ _ _ _ (by rw[←h0,e];exact⟨rfl,by first|rfl|trivial⟩)
      have gN:cH t i=true→ah C bC aH 4 0 (fu ((c:Int)+((aQ t.nodes[i]).length:Int)) (t.nodes.map aW) ((i:Int)+1) (t.lows.map bO)) (fun u st=>aG C bC aH u st fun r fs=>r=vB (cE t.nodes.length (cH t)&&decide ((bY t).length≤60))∧fs=[]):=fun e=>hn (c+(aQ t.nodes[i]).length) (by omega) (by rw[←h0,e];rfl)
      have hb: ∀q,aa C bf [dD t,vI i] (vB q) []↔q=_:=fun q=>qZ (DP t i t.nodes[i] ha (by omega) hl)
      have hk: ∀q,aa C ck [fC t.nodes[i]] (.c (.sub 5 q)) []↔q=(aQ t.nodes[i]).map bN:=fun q=>iG t.nodes[i] (by omega) (by omega) q
      have ho: ∀q,aa C bh [fC t.nodes[i]] (vB q) []↔q=eM t.nodes[i]:=fun q=>Ld t.nodes[i] (by omega) (by omega) q
      refine zl _ _ _ _ _ (ai (by simp;omega) ?_)
      simp only[pU,aL,ha,Option.some.injEq,exists_eq_left',hb,hk,ho,exists_eq_left,eA,h9,aX,bH,bL,List.length_map,Int.ofNat_eq_natCast]
      rw[aJ (a:=(c:Int)) (by omega),aJ (a:=(i:Int)) (by omega)]
      cases i with
      |zero=>
       have e:cH t 0=(eM t.nodes[0]&&((decide (0=0)|| !decide ((aQ t.nodes[0]).length=0))&&t.nodes[0].all (bR t.lows 0))):=by simp only[cH,gn,ha,Bool.true_and]
       rw[e] at gO1 gN
       have hzz: ¬((0:Int)<((0:Nat):Int)):=by omega
       simp only[if_neg hzz]
       cases h4:eM t.nodes[0] with
       |false=>exact au rfl (gO1 (by rw[h4];rfl))
       |true=>
        refine ai rfl ?_
        cases h5:t.nodes[0].all (bR t.lows 0) with
        |false=>exact au rfl (gO1 (by rw[h4,h5];simp))
        |true=>exact ai rfl (gN (by rw[h4,h5];simp))
      |succ k=>
       have hk1:t.lows[k]?=some t.lows[k]:=List.getElem?_eq_getElem (by omega)
       have e:cH t (k+1)=(decide (t.lows[k]<t.lows[k+1])&&(eM t.nodes[k+1]&&((decide (k+1=0)|| !decide ((aQ t.nodes[k+1]).length=0))&&t.nodes[k+1].all (bR t.lows (k+1))))):=by simp only[cH,gn,ha,hk1,hli]
       rw[e] at gO1 gO2 gN
       have hzz:(0:Int)<((k+1:Nat):Int):=by omega
       simp only[if_pos hzz]
       rw[dz (by omega),show((k+1:Nat):Int)-1=(k:Int) by omega]
       simp only[vD,aL,hk1,hli,Option.some.injEq,exists_eq_left']
       by_cases h6:t.lows[k]<t.lows[k+1]
       ·rw[if_neg (by omega)]
        cases h4:eM t.nodes[k+1] with
        |false=>exact au rfl (gO1 (by rw[h4];simp))
        |true=>
         refine ai rfl ?_
         cases h5:t.nodes[k+1].all (bR t.lows (k+1)) with
         |false=>exact au rfl (gO1 (by rw[h4,h5];simp))
         |true=>
          refine ai rfl ?_
          by_cases h7:(aQ t.nodes[k+1]).length=0
          ·rw[if_pos (by omega)];exact gO2 (by rw[h4,h5];simp[h7])
          ·rw[if_neg (by omega)];exact gN (by rw[h4,h5,decide_eq_true h6];simp[h7])
       ·rw[if_pos (by omega)]
        exact gO1 (by rw[decide_eq_false h6];rfl)
    exact key 0 (by simp[bY]) rfl
   ·rw[if_neg (by simpa using h3)]
    simp[h3]
  ·refine au (by simp;omega) ?_
   simp[h2]
theorem E5 (p:Pool) (hS:cL p≤4194304):aa C bk [fK p] (vB (fY p)) []:=by
 have hP:=iR hS
 have hname: ∀v∈p.vols,v.name.size≤140737488355328:=fun v hv=>by have:=mF (w:=pJ) hv;have e:pJ v=v.name.size:=rfl;omega
 refine(Ke _ _ _ _ _ _ _ ?_).run
 unfold fY
 have key:((List.range' 0 (p.vols.length-0)).all (bW p)&&decide (p.vols.length≤6))=(cE p.vols.length (bW p)&&decide (p.vols.length≤6))→ah C bk aj 4 0 (jf ((0:Nat):Int) (p.t.lows.map bO) (p.t.nodes.map aW) (p.ages.map dY) (p.cells.map ct) (p.vols.map eg) p.next) (fun u st=>aG C bk aj u st fun r fs=>r=vB (cE p.vols.length (bW p)&&decide (p.vols.length≤6))∧fs=[]):=by
  refine nc p.vols.length (fun i=>((List.range' i (p.vols.length-i)).all (bW p)&&decide (p.vols.length≤6))=(cE p.vols.length (bW p)&&decide (p.vols.length≤6))→ah C bk aj 4 0 (jf i (p.t.lows.map bO) (p.t.nodes.map aW) (p.ages.map dY) (p.cells.map ct) (p.vols.map eg) p.next) (fun u st=>aG C bk aj u st fun r fs=>r=vB (cE p.vols.length (bW p)&&decide (p.vols.length≤6))∧fs=[])) ?_ ?_
  ·intro h0
   rw[Nat.sub_self] at h0
   simp only[List.range'_zero,List.all_nil,Bool.true_and] at h0
   refine wY _ _ _ _ _ _ _ _ (au (by simp) (Fu _ _ _ _ _ _ _ _ _ ?_))
   rw[←h0]
   simp[h9]
   omega
  ·intro i hi hn h0
   rw[jl hi,List.all_cons] at h0
   have ha:p.vols[i]?=some p.vols[i]:=List.getElem?_eq_getElem hi
   have hv:=hname p.vols[i] (List.getElem_mem hi)
   have hkl:=JK p.ages p.vols[i].age
   have gO1:bW p i=false→aG C bk aj TX.ret (jg (p.t.lows.map bO) (p.t.nodes.map aW) (p.ages.map dY) (p.cells.map ct) (p.vols.map eg) p.next p.vols[i].name p.vols[i].age p.vols[i].size p.vols[i].fx) (fun r fs=>r=vB (cE p.vols.length (bW p)&&decide (p.vols.length≤6))∧fs=[]):=fun e=>Fs _ _ _ _ _ _ _ _ _ _ _ (by rw[←h0,e];exact⟨rfl,by first|rfl|trivial⟩)
   have gO2:bW p i=false→aG C bk aj TX.ret (nJ (p.t.lows.map bO) (p.t.nodes.map aW) (p.ages.map dY) (p.cells.map ct) (p.vols.map eg) p.next p.vols[i].name p.vols[i].age p.vols[i].size p.vols[i].fx ((iU p.ages p.vols[i].age).map bO)) (fun r fs=>r=vB (cE p.vols.length (bW p)&&decide (p.vols.length≤6))∧fs=[]):=fun e=>Ft _ _ _ _ _ _ _ _ _ _ _ _ (by rw[←h0,e];exact⟨rfl,by first|rfl|trivial⟩)
   have gN:bW p i=true→ah C bk aj 4 0 (jf ((i:Int)+1) (p.t.lows.map bO) (p.t.nodes.map aW) (p.ages.map dY) (p.cells.map ct) (p.vols.map eg) p.next) (fun u st=>aG C bk aj u st fun r fs=>r=vB (cE p.vols.length (bW p)&&decide (p.vols.length≤6))∧fs=[]):=fun e=>hn (by rw[←h0,e];rfl)
   have hin: ∀b:Bool,((p.vols.take i).any fun u=>decide (u.age=p.vols[i].age))=b→(b=true→bW p i=false)→(b=false→bW p i=true)→ah C bk kk 3 2 (gH i 0 (p.t.lows.map bO) (p.t.nodes.map aW) (p.ages.map dY) (p.cells.map ct) (p.vols.map eg) p.next p.vols[i].name p.vols[i].age p.vols[i].size p.vols[i].fx) (fun u st=>qb C bk aj 4 0 sP u st (fun u st=>aG C bk aj u st fun r fs=>r=vB (cE p.vols.length (bW p)&&decide (p.vols.length≤6))∧fs=[])):=by
    intro b hb hbt hbf
    have keyI:(((p.vols.take i).drop 0).any fun u=>decide (u.age=p.vols[i].age))=b→ah C bk kk 3 2 (gH i ((0:Nat):Int) (p.t.lows.map bO) (p.t.nodes.map aW) (p.ages.map dY) (p.cells.map ct) (p.vols.map eg) p.next p.vols[i].name p.vols[i].age p.vols[i].size p.vols[i].fx) (fun u st=>qb C bk aj 4 0 sP u st (fun u st=>aG C bk aj u st fun r fs=>r=vB (cE p.vols.length (bW p)&&decide (p.vols.length≤6))∧fs=[])):=by
     have hle:(p.vols.take i).length=i:=by simp;omega
     refine bD (p.vols.take i) (fun k=>(((p.vols.take i).drop k).any fun u=>decide (u.age=p.vols[i].age))=b→ah C bk kk 3 2 (gH i k (p.t.lows.map bO) (p.t.nodes.map aW) (p.ages.map dY) (p.cells.map ct) (p.vols.map eg) p.next p.vols[i].name p.vols[i].age p.vols[i].size p.vols[i].fx) (fun u st=>qb C bk aj 4 0 sP u st (fun u st=>aG C bk aj u st fun r fs=>r=vB (cE p.vols.length (bW p)&&decide (p.vols.length≤6))∧fs=[]))) ?_ ?_
     ·intro h1
      rw[List.drop_length] at h1
      simp only[List.any_nil] at h1
      refine wZ _ _ _ _ _ _ _ _ _ _ _ _ _ (au (by simp;omega) (Fw _ _ _ _ _ _ _ _ _ _ _ _ _ ?_))
      rw[aJ (by omega)]
      exact gN (hbf h1.symm)
     ·intro k u hk hu hd htk hn2 h1
      have hu':p.vols[k]?=some u:=by rw[←hu,List.getElem?_take];simp;omega
      rw[hd,List.any_cons] at h1
      refine wZ _ _ _ _ _ _ _ _ _ _ _ _ _ (ai (by simp;omega) ?_)
      rw[aJ (by omega)]
      simp only[AE,aL,hu',Option.some.injEq,exists_eq_left',aX,bH]
      by_cases h2:u.age=p.vols[i].age
      ·rw[if_pos h2]
       rw[decide_eq_true h2,Bool.true_or] at h1
       exact Fv _ _ _ _ _ _ _ _ _ _ _ (gO1 (hbt h1.symm))
      ·rw[if_neg h2]
       rw[decide_eq_false h2,Bool.false_or] at h1
       exact hn2 h1
    exact keyI hb
   have hage: ∀z,aa C dV [jK p.ages,vI p.vols[i].age] (vI z) []↔z=jd p.ages p.vols[i].age:=fun z=>x9 p.ages p.vols[i].age (by omega) z
   have hkid: ∀z,aa C eC [jK p.ages,vI p.vols[i].age] (.c (.sub 1 z)) []↔z=(iU p.ages p.vols[i].age).map bO:=fun z=>Pm (GD p.ages p.vols[i].age (by omega))
   refine wY _ _ _ _ _ _ _ _ (ai (by simp;omega) ?_)
   simp only[AE,aL,ha,Option.some.injEq,exists_eq_left',B1 p.vols[i].name hv,A4,hage,hkid,exists_eq_left,bL,eA,bH,List.length_map,Int.ofNat_eq_natCast]
   cases h1:qw p.vols[i].name with
   |false=>exact au rfl (gO1 (by simp[bW,ha,h1]))
   |true=>
    refine ai rfl ?_
    cases h2:iQ p.vols[i].size 1 12 with
    |false=>exact au rfl (gO1 (by simp[bW,ha,h2]))
    |true=>
     refine ai rfl ?_
     by_cases h3:jd p.ages p.vols[i].age<0
     ·rw[if_pos h3];exact gO1 (by simp[bW,ha,h3])
     ·rw[if_neg h3]
      by_cases h4:(iU p.ages p.vols[i].age).length=0
      ·rw[if_neg (by omega)]
       cases i with
       |zero=>
        rw[if_neg (by omega)]
        exact hin _ rfl (fun e=>by simp at e) (fun e=>by simp[bW,ha,h1,h2,h3,h4,gn])
       |succ k=>
        have hk:p.vols[k]?=some p.vols[k]:=List.getElem?_eq_getElem (by omega)
        rw[if_pos (by omega),dz (by omega),show((k+1:Nat):Int)-1=(k:Int) by omega]
        simp only[aL,hk,Option.some.injEq,exists_eq_left']
        cases h5:KS p.vols[k].name p.vols[k+1].name with
        |false=>exact au rfl (gO2 (by simp[bW,ha,hk,gn,h5]))
        |true=>exact ai rfl (hin _ rfl (fun e=>by simp only[bW,ha,e];simp) (fun e=>by simp only[bW,ha,hk,gn,h5,h1,h2,e];simp[h3,h4]))
      ·rw[if_pos (by omega)];exact gO2 (by simp[bW,ha,h4])
 exact key rfl
theorem GN (p:Pool) (hS:cL p≤4194304):aa C dj [fK p] (vB (fY p)) []:=by
 have hP:=iR hS
 have hname: ∀v∈p.vols,v.name.size≤140737488355328:=fun v hv=>by have:=mF (w:=pJ) hv;have e:pJ v=v.name.size:=rfl;omega
 refine(Mc _ _ _ _ _ _ _ ?_).run
 unfold fY
 have key:((List.range' 0 (p.vols.length-0)).all (bW p)&&decide (p.vols.length≤6))=(cE p.vols.length (bW p)&&decide (p.vols.length≤6))→ah C dj aj 4 0 (iP (p.vols.map eg) ((0:Nat):Int) (p.t.lows.map bO) (p.t.nodes.map aW) (p.ages.map dY) (p.cells.map ct) p.next) (fun u st=>aG C dj aj u st fun r fs=>r=vB (cE p.vols.length (bW p)&&decide (p.vols.length≤6))∧fs=[]):=by
  refine nc p.vols.length (fun i=>((List.range' i (p.vols.length-i)).all (bW p)&&decide (p.vols.length≤6))=(cE p.vols.length (bW p)&&decide (p.vols.length≤6))→ah C dj aj 4 0 (iP (p.vols.map eg) i (p.t.lows.map bO) (p.t.nodes.map aW) (p.ages.map dY) (p.cells.map ct) p.next) (fun u st=>aG C dj aj u st fun r fs=>r=vB (cE p.vols.length (bW p)&&decide (p.vols.length≤6))∧fs=[])) ?_ ?_
  ·intro h0
   rw[Nat.sub_self] at h0
   simp only[List.range'_zero,List.all_nil,Bool.true_and] at h0
   refine zU _ _ _ _ _ _ _ _ (au (by simp) (Iw _ _ _ _ _ _ _ _ _ _ ?_))
   rw[←h0]
   simp[h9]
   omega
  ·intro i hi hn h0
   rw[jl hi,List.all_cons] at h0
   have ha:p.vols[i]?=some p.vols[i]:=List.getElem?_eq_getElem hi
   have hv:=hname p.vols[i] (List.getElem_mem hi)
   have hkl:=JK p.ages p.vols[i].age
   have gO1:bW p i=false→aG C dj aj TX.ret (gx (p.t.lows.map bO) (p.t.nodes.map aW) (p.ages.map dY) (p.cells.map ct) (p.vols.map eg) p.next p.vols[i].name p.vols[i].age p.vols[i].size p.vols[i].fx) (fun r fs=>r=vB (cE p.vols.length (bW p)&&decide (p.vols.length≤6))∧fs=[]):=fun e=>Iu _ _ _ _ _ _ _ _ _ _ _ (by rw[←h0,e];exact⟨rfl,by first|rfl|trivial⟩)
   have gO2:bW p i=false→aG C dj aj TX.ret (jD (p.t.lows.map bO) (p.t.nodes.map aW) (p.ages.map dY) (p.cells.map ct) (p.vols.map eg) p.next p.vols[i].name p.vols[i].age p.vols[i].size p.vols[i].fx ((iU p.ages p.vols[i].age).map bO)) (fun r fs=>r=vB (cE p.vols.length (bW p)&&decide (p.vols.length≤6))∧fs=[]):=fun e=>Iv _ _ _ _ _ _ _ _ _ _ _ _ (by rw[←h0,e];exact⟨rfl,by first|rfl|trivial⟩)
   have gN:bW p i=true→ah C dj aj 4 0 (iP (p.vols.map eg) ((i:Int)+1) (p.t.lows.map bO) (p.t.nodes.map aW) (p.ages.map dY) (p.cells.map ct) p.next) (fun u st=>aG C dj aj u st fun r fs=>r=vB (cE p.vols.length (bW p)&&decide (p.vols.length≤6))∧fs=[]):=fun e=>hn (by rw[←h0,e];rfl)
   have hage: ∀z,aa C jo [jK p.ages,vI p.vols[i].age] (vI z) []↔z=jd p.ages p.vols[i].age:=fun z=>ya p.ages p.vols[i].age (by omega) z
   have hkid: ∀z,aa C eD [jK p.ages,vI p.vols[i].age] (.c (.sub 1 z)) []↔z=(iU p.ages p.vols[i].age).map bO:=fun z=>Pm (GH p.ages p.vols[i].age (by omega))
   have hcut:ax (p.vols.map eg) 0 (i:Int)=(p.vols.take i).map eg:=by rw[cP,Int.toNat_natCast];rfl
   have hcin:cG 0 (i:Int) (p.vols.length:Int)=true:=by simp;omega
   have hhas: ∀z,aa C fQ [yg (p.vols.take i),.fn mm [[iS p.vols[i].name,iI p.vols[i].age,iI p.vols[i].size,iB p.vols[i].fx]]] (vB z) []↔z=(p.vols.take i).any fun u=>decide (u.age=p.vols[i].age):=fun z=>qZ (Ae (p.vols.take i) _ _ _ _ (by simp;omega))
   refine zU _ _ _ _ _ _ _ _ (ai (by simp;omega) ?_)
   simp only[hcut,AE,aL,ha,Option.some.injEq,exists_eq_left',B2 p.vols[i].name hv,qU,hage,hkid,hhas,exists_eq_left,bL,eA,bH,List.length_map,Int.ofNat_eq_natCast]
   rw[aJ (by omega)]
   cases h1:qw p.vols[i].name with
   |false=>exact au rfl (gO1 (by simp[bW,ha,h1]))
   |true=>
    refine ai rfl ?_
    cases i with
    |zero=>
     rw[if_neg (by omega)]
     cases h2:iQ p.vols[0].size 1 12 with
     |false=>exact au rfl (gO1 (by simp[bW,ha,h2]))
     |true=>
      refine ai rfl ?_
      by_cases h3:jd p.ages p.vols[0].age<0
      ·rw[if_pos h3];exact gO1 (by simp[bW,ha,h3])
      ·rw[if_neg h3]
       by_cases h4:(iU p.ages p.vols[0].age).length=0
       ·rw[if_neg (by omega)]
        refine ai hcin ?_
        cases h6:(p.vols.take (0)).any fun u=>decide (u.age=p.vols[0].age) with
        |true=>exact ai rfl (gO2 (by simp only[bW,ha,h6];simp))
        |false=>exact au rfl (gN (by simp only[bW,ha,h6,h1,h2,gn];simp[h3,h4]))
       ·rw[if_pos (by omega)];exact gO2 (by simp[bW,ha,h4])
    |succ k=>
     have hk:p.vols[k]?=some p.vols[k]:=List.getElem?_eq_getElem (by omega)
     rw[if_pos (by omega),dz (by omega),show((k+1:Nat):Int)-1=(k:Int) by omega]
     simp only[aL,hk,Option.some.injEq,exists_eq_left']
     cases h5:KS p.vols[k].name p.vols[k+1].name with
     |false=>exact au rfl (gO1 (by simp[bW,ha,hk,gn,h5]))
     |true=>
      refine ai rfl ?_
      cases h2:iQ p.vols[k+1].size 1 12 with
      |false=>exact au rfl (gO1 (by simp[bW,ha,h2]))
      |true=>
       refine ai rfl ?_
       by_cases h3:jd p.ages p.vols[k+1].age<0
       ·rw[if_pos h3];exact gO1 (by simp[bW,ha,h3])
       ·rw[if_neg h3]
        by_cases h4:(iU p.ages p.vols[k+1].age).length=0
        ·rw[if_neg (by omega)]
         refine ai hcin ?_
         cases h6:(p.vols.take (k+1)).any fun u=>decide (u.age=p.vols[k+1].age) with
         |true=>exact ai rfl (gO2 (by simp only[bW,ha,h6];simp))
         |false=>exact au rfl (gN (by simp only[bW,ha,h6,h1,h2,gn,hk,h5];simp[h3,h4]))
        ·rw[if_pos (by omega)];exact gO2 (by simp[bW,ha,h4])
 exact key rfl
theorem UC:nZ 24=24:=by unfold nZ;rfl
theorem YM {n:Nat} (h:n≤1000):(true&&cU 24 24&&oE 0 24&&fits (nZ 24) n)=true:=by rw[UC,cZ (by omega)];simp
theorem Xm:(nC []).map Gi=List.replicate 24 [iB false]:=by rw[Pq];rfl
theorem E6 (p:Pool) (hS:cL p≤4194304):aa C bA [fK p] (vB (gU p)) []:=by
 have hP:=iR hS
 have htl:=rT p.t
 refine(Kt _ _ _ _ _ _ _ ?_).run
 refine⟨_,uq p.t (by omega),?_⟩
 unfold gU
 generalize bY p.t=L at*
 have hdk:bZ L≤L.length:=List.length_filter_le _ _
 have key: ∀c:Nat,c+bZ (L.drop 0)=bZ L→((List.range' 0 (L.length-0)).all (cA p L)&&decide ((bJ p.cells:Int)=bZ L))=(cE L.length (cA p L)&&decide ((bJ p.cells:Int)=bZ L))→ah C bA aH 4 0 (gK (c:Int) ((0:Nat):Int) (p.t.lows.map bO) (p.t.nodes.map aW) (p.ages.map dY) (p.cells.map ct) (p.vols.map eg) p.next (L.map bN)) (fun u st=>aG C bA aH u st fun r fs=>r=vB (cE L.length (cA p L)&&decide ((bJ p.cells:Int)=bZ L))∧fs=[]):=by
  refine nc L.length (fun i=> ∀c:Nat,c+bZ (L.drop i)=bZ L→((List.range' i (L.length-i)).all (cA p L)&&decide ((bJ p.cells:Int)=bZ L))=(cE L.length (cA p L)&&decide ((bJ p.cells:Int)=bZ L))→ah C bA aH 4 0 (gK (c:Int) i (p.t.lows.map bO) (p.t.nodes.map aW) (p.ages.map dY) (p.cells.map ct) (p.vols.map eg) p.next (L.map bN)) (fun u st=>aG C bA aH u st fun r fs=>r=vB (cE L.length (cA p L)&&decide ((bJ p.cells:Int)=bZ L))∧fs=[])) ?_ ?_
  ·intro c hc h0
   rw[Nat.sub_self] at h0
   simp only[List.range'_zero,List.all_nil,Bool.true_and] at h0
   rw[List.drop_length] at hc
   have hc0:c=bZ L:=by simpa [bZ] using hc
   subst hc0
   refine w9 _ _ _ _ _ _ _ _ _ _ (au (by simp) (FI _ _ _ _ _ _ _ _ _ _ _ ⟨_,CI p.cells (by omega),?_⟩))
   rw[←h0]
   refine⟨?_,by first|rfl|trivial⟩
   simp[aX,eq_comm]
  ·intro i hi hn c hc h0
   rw[jl hi,List.all_cons] at h0
   have ha:L[i]?=some L[i]:=List.getElem?_eq_getElem hi
   rw[List.drop_eq_getElem_cons hi,BX] at hc
   have gO1:cA p L i=false→aG C bA aH TX.ret (kT (p.t.lows.map bO) (p.t.nodes.map aW) (p.ages.map dY) (p.cells.map ct) (p.vols.map eg) p.next (L.map bN)) (fun r fs=>r=vB (cE L.length (cA p L)&&decide ((bJ p.cells:Int)=bZ L))∧fs=[]):=fun e=>FH _ _ _ _ _ _ _ _ (by rw[←h0,e];exact⟨rfl,by first|rfl|trivial⟩)
   have gN: ∀c':Nat,c'+bZ (L.drop (i+1))=bZ L→cA p L i=true→ah C bA aH 4 0 (gK (c':Int) ((i:Int)+1) (p.t.lows.map bO) (p.t.nodes.map aW) (p.ages.map dY) (p.cells.map ct) (p.vols.map eg) p.next (L.map bN)) (fun u st=>aG C bA aH u st fun r fs=>r=vB (cE L.length (cA p L)&&decide ((bJ p.cells:Int)=bZ L))∧fs=[]):=fun c' e' e=>hn c' e' (by rw[←h0,e];rfl)
   have hin: ∀b:Bool,((L.take i).any fun x=>decide (x.k=1)&&decide (x.c=L[i].c))=b→(b=true→cA p L i=false)→(b=false→cA p L i=true)→L[i].k=1→ah C bA fH 3 2 (gL c i 0 (p.t.lows.map bO) (p.t.nodes.map aW) (p.ages.map dY) (p.cells.map ct) (p.vols.map eg) p.next (L.map bN)) (fun u st=>qb C bA aH 4 0 pN u st (fun u st=>aG C bA aH u st fun r fs=>r=vB (cE L.length (cA p L)&&decide ((bJ p.cells:Int)=bZ L))∧fs=[])):=by
    intro b hb hbt hbf hk1
    rw[if_pos hk1] at hc
    have keyI:(((L.take i).drop 0).any fun x=>decide (x.k=1)&&decide (x.c=L[i].c))=b→ah C bA fH 3 2 (gL c i ((0:Nat):Int) (p.t.lows.map bO) (p.t.nodes.map aW) (p.ages.map dY) (p.cells.map ct) (p.vols.map eg) p.next (L.map bN)) (fun u st=>qb C bA aH 4 0 pN u st (fun u st=>aG C bA aH u st fun r fs=>r=vB (cE L.length (cA p L)&&decide ((bJ p.cells:Int)=bZ L))∧fs=[])):=by
     have hle:(L.take i).length=i:=by simp;omega
     refine bD (L.take i) (fun k=>(((L.take i).drop k).any fun x=>decide (x.k=1)&&decide (x.c=L[i].c))=b→ah C bA fH 3 2 (gL c i k (p.t.lows.map bO) (p.t.nodes.map aW) (p.ages.map dY) (p.cells.map ct) (p.vols.map eg) p.next (L.map bN)) (fun u st=>qb C bA aH 4 0 pN u st (fun u st=>aG C bA aH u st fun r fs=>r=vB (cE L.length (cA p L)&&decide ((bJ p.cells:Int)=bZ L))∧fs=[]))) ?_ ?_
     ·intro h1
      rw[List.drop_length] at h1
      simp only[List.any_nil] at h1
      refine xb _ _ _ _ _ _ _ _ _ _ _ (au (by simp;omega) (FK _ _ _ _ _ _ _ _ _ _ _ ?_))
      rw[aJ (by omega),aJ (by omega)]
      exact gN (c+1) (by omega) (hbf h1.symm)
     ·intro k u hk hu hd htk hn2 h1
      have hu':L[k]?=some u:=by rw[←hu,List.getElem?_take];simp;omega
      rw[hd,List.any_cons] at h1
      refine xb _ _ _ _ _ _ _ _ _ _ _ (ai (by simp;omega) ?_)
      rw[aJ (by omega)]
      simp only[mC,aL,hu',ha,Option.some.injEq,exists_eq_left',aX,bH]
      by_cases h3:u.k=1
      ·rw[if_pos h3]
       by_cases h2:u.c=L[i].c
       ·rw[if_pos h2]
        rw[decide_eq_true h3,decide_eq_true h2,Bool.and_self,Bool.true_or] at h1
        exact FJ _ _ _ _ _ _ _ _ (gO1 (hbt h1.symm))
       ·rw[if_neg h2]
        rw[decide_eq_false h2,Bool.and_false,Bool.false_or] at h1
        exact hn2 h1
      ·rw[if_neg h3]
       rw[decide_eq_false h3,Bool.false_and,Bool.false_or] at h1
       exact hn2 h1
    exact keyI hb
   have hage: ∀z,aa C dV [jK p.ages,vI L[i].a] (vI z) []↔z=jd p.ages L[i].a:=fun z=>x9 p.ages L[i].a (by omega) z
   have hcell: ∀n b,aa C qR [fE p.cells,vI L[i].c,vI L[i].g] (.tu [(0,[iI n]),(0,[iB b])]) []↔n=(cellAt p.cells L[i].c L[i].g).1∧b=(cellAt p.cells L[i].c L[i].g).2:=fun n b=>K9 p.cells (by omega) _ _ n b
   refine w9 _ _ _ _ _ _ _ _ _ _ (ai (by simp;omega) ?_)
   simp only[mC,aL,ha,Option.some.injEq,exists_eq_left',hage,hcell,and_assoc,exists_and_left,exists_eq_left,eA,aX,bL,bH]
   rw[aJ (a:=(i:Int)) (by omega)]
   by_cases h1:jd p.ages L[i].a<0
   ·rw[if_pos h1];exact gO1 (by simp[cA,ha,h1])
   ·rw[if_neg h1]
    by_cases h2:L[i].k=1
    ·rw[if_pos h2]
     cases h3:(cellAt p.cells L[i].c L[i].g).2 with
     |false=>exact au rfl (gO1 (by simp[cA,ha,h2,h3]))
     |true=>
      refine ai rfl ?_
      exact hin _ rfl (fun e=>by simp only[cA,ha,e,h2];simp) (fun e=>by simp only[cA,ha,e,h2,h3];simp[h1]) h2
    ·rw[if_neg h2]
     rw[if_neg h2] at hc
     exact gN c (by omega) (by simp[cA,ha,h1,h2])
 exact key 0 (by simp) rfl
theorem E7 (p:Pool) (hS:cL p≤4194304) (h24:p.cells.length=24):aa C dm [fK p] (vB (gU p)) []:=by
 have hP:=iR hS
 have htl:=rT p.t
 refine(Kf _ _ _ _ _ _ _ ?_).run
 refine ai (YM (by omega)) ⟨_,DO p.t (by omega),?_⟩
 unfold gU
 generalize bY p.t=L at*
 have hdk:bZ L≤L.length:=List.length_filter_le _ _
 have key: ∀c:Nat,c+bZ (L.drop 0)=bZ L→((List.range' 0 (L.length-0)).all (cA p L)&&decide ((bJ p.cells:Int)=bZ L))=(cE L.length (cA p L)&&decide ((bJ p.cells:Int)=bZ L))→ah C dm aH 4 0 (gJ (c:Int) (L.map bN) ((0:Nat):Int) (p.t.lows.map bO) (p.t.nodes.map aW) (p.ages.map dY) (p.cells.map ct) (p.vols.map eg) p.next ((nC (L.take 0)).map Gi)) (fun u st=>aG C dm aH u st fun r fs=>r=vB (cE L.length (cA p L)&&decide ((bJ p.cells:Int)=bZ L))∧fs=[]):=by
  refine nc L.length (fun i=> ∀c:Nat,c+bZ (L.drop i)=bZ L→((List.range' i (L.length-i)).all (cA p L)&&decide ((bJ p.cells:Int)=bZ L))=(cE L.length (cA p L)&&decide ((bJ p.cells:Int)=bZ L))→ah C dm aH 4 0 (gJ (c:Int) (L.map bN) i (p.t.lows.map bO) (p.t.nodes.map aW) (p.ages.map dY) (p.cells.map ct) (p.vols.map eg) p.next ((nC (L.take i)).map Gi)) (fun u st=>aG C dm aH u st fun r fs=>r=vB (cE L.length (cA p L)&&decide ((bJ p.cells:Int)=bZ L))∧fs=[])) ?_ ?_
  ·intro c hc h0
   rw[Nat.sub_self] at h0
   simp only[List.range'_zero,List.all_nil,Bool.true_and] at h0
   rw[List.drop_length] at hc
   have hc0:c=bZ L:=by simpa [bZ] using hc
   subst hc0
   refine w4 _ _ _ _ _ _ _ _ _ _ _ (au (by simp) (Fy _ _ _ _ _ _ _ _ _ _ _ _ _ ⟨_,CJ p.cells (by omega),?_⟩))
   rw[←h0]
   refine⟨?_,by first|rfl|trivial⟩
   simp[aX,eq_comm]
  ·intro i hi hn c hc h0
   rw[jl hi,List.all_cons] at h0
   have ha:L[i]?=some L[i]:=List.getElem?_eq_getElem hi
   rw[List.drop_eq_getElem_cons hi,BX] at hc
   have gO1: ∀u,cA p L i=false→aG C dm aH TX.ret (kO (p.t.lows.map bO) (p.t.nodes.map aW) (p.ages.map dY) (p.cells.map ct) (p.vols.map eg) p.next L[i].b L[i].a L[i].k L[i].c L[i].g u (L.map bN)) (fun r fs=>r=vB (cE L.length (cA p L)&&decide ((bJ p.cells:Int)=bZ L))∧fs=[]):=fun u e=>Fx _ _ _ _ _ _ _ _ _ _ _ _ _ _ (by rw[←h0,e];exact⟨rfl,by first|rfl|trivial⟩)
   have ht1:L.take (i+1)=L.take i++[L[i]]:=by rw[List.take_add_one,ha];rfl
   have gN: ∀c':Nat,c'+bZ (L.drop (i+1))=bZ L→cA p L i=true→ah C dm aH 4 0 (gJ (c':Int) (L.map bN) ((i:Int)+1) (p.t.lows.map bO) (p.t.nodes.map aW) (p.ages.map dY) (p.cells.map ct) (p.vols.map eg) p.next ((nC (L.take (i+1))).map Gi)) (fun u st=>aG C dm aH u st fun r fs=>r=vB (cE L.length (cA p L)&&decide ((bJ p.cells:Int)=bZ L))∧fs=[]):=fun c' e' e=>hn c' e' (by rw[←h0,e];rfl)
   have hage: ∀z,aa C jo [jK p.ages,vI L[i].a] (vI z) []↔z=jd p.ages L[i].a:=fun z=>ya p.ages L[i].a (by omega) z
   have hcell: ∀n b,aa C qS [fE p.cells,vI L[i].c,vI L[i].g] (.tu [(0,[iI n]),(0,[iB b])]) []↔n=(cellAt p.cells L[i].c L[i].g).1∧b=(cellAt p.cells L[i].c L[i].g).2:=fun n b=>La p.cells (by omega) _ _ n b
   refine w4 _ _ _ _ _ _ _ _ _ _ _ (ai (by simp;omega) ?_)
   simp only[mC,aL,ha,Option.some.injEq,exists_eq_left',hage,hcell,and_assoc,exists_and_left,exists_eq_left,eA,aX,bL,bH]
   rw[aJ (a:=(i:Int)) (by omega)]
   by_cases h1:jd p.ages L[i].a<0
   ·rw[if_pos h1];exact gO1 _ (by simp[cA,ha,h1])
   ·rw[if_neg h1]
    by_cases h2:L[i].k=1
    ·rw[if_pos h2]
     cases h3:(cellAt p.cells L[i].c L[i].g).2 with
     |false=>exact au rfl (gO1 _ (by simp[cA,ha,h2,h3]))
     |true=>
      refine ai rfl ?_
      have hci:=Sp h3
      rw[h24] at hci
      simp only[VC,Pt (L.take i) hci,Option.some.injEq,exists_eq_left',exists_eq_left,VD]
      cases h4:(L.take i).any fun x=>decide (x.k=1)&&decide (x.c=L[i].c) with
      |true=>exact ai rfl (gO1 _ (by simp only[cA,ha,h4,h2];simp))
      |false=>
       refine au rfl ?_
       rw[Pu (L.take i) L[i] h2 hci,←ht1,aJ (a:=(c:Int)) (by omega)]
       rw[if_pos h2] at hc
       exact gN (c+1) (by omega) (by simp only[cA,ha,h4,h2,h3];simp[h1])
    ·rw[if_neg h2]
     rw[if_neg h2] at hc
     have hg:=gN c (by omega) (by simp[cA,ha,h1,h2])
     rw[ht1,NK _ _ h2] at hg
     exact hg
 rw[UC,←Xm];exact key 0 (by simp) rfl
def jc (n:Int) (a:Age):Bool:=decide (a.id<n)
theorem SA (p:Pool):mD p=(p.ages.all (jc p.next)&&(dS p.t&&(lu p.ages&&(c6 p.cells&&(iQ p.next 1 61&&(fY p&&gU p)))))):=rfl
theorem VW {l:List Cell} (h:c6 l=true):l.length=24:=by simp[c6] at h;omega
theorem E8 (p:Pool) (hS:cL p≤4194304):aa C dQ [fK p] (vB ((p.ages.all (jc p.next)&&(dS p.t&&(lu p.ages&&(c6 p.cells&&(iQ p.next 1 61&&(fY p&&gU p)))))))) []:=by
 refine(L6 _ _ _ _ _ _ _ ?_).run
 have hP:=iR hS
 have htl:=rT p.t
 have key:((p.ages.drop 0).all (jc p.next)&&(dS p.t&&(lu p.ages&&(c6 p.cells&&(iQ p.next 1 61&&(fY p&&gU p))))))=(p.ages.all (jc p.next)&&(dS p.t&&(lu p.ages&&(c6 p.cells&&(iQ p.next 1 61&&(fY p&&gU p))))))→ah C dQ aj 4 0 (jC ((0:Nat):Int) (p.t.lows.map bO) (p.t.nodes.map aW) (p.ages.map dY) (p.cells.map ct) (p.vols.map eg) p.next) (fun u st=>aG C dQ aj u st fun r fs=>r=vB ((p.ages.all (jc p.next)&&(dS p.t&&(lu p.ages&&(c6 p.cells&&(iQ p.next 1 61&&(fY p&&gU p)))))))∧fs=[]):=by
  refine bD p.ages (fun i=>((p.ages.drop i).all (jc p.next)&&(dS p.t&&(lu p.ages&&(c6 p.cells&&(iQ p.next 1 61&&(fY p&&gU p))))))=(p.ages.all (jc p.next)&&(dS p.t&&(lu p.ages&&(c6 p.cells&&(iQ p.next 1 61&&(fY p&&gU p))))))→ah C dQ aj 4 0 (jC i (p.t.lows.map bO) (p.t.nodes.map aW) (p.ages.map dY) (p.cells.map ct) (p.vols.map eg) p.next) (fun u st=>aG C dQ aj u st fun r fs=>r=vB ((p.ages.all (jc p.next)&&(dS p.t&&(lu p.ages&&(c6 p.cells&&(iQ p.next 1 61&&(fY p&&gU p)))))))∧fs=[])) ?_ ?_
  ·intro h0
   refine zP _ _ _ _ _ _ _ _ (au (by simp) (Ii _ _ _ _ _ _ _ _ _ ?_))
   rw[List.drop_length] at h0
   simp only[List.all_nil,Bool.true_and] at h0
   rw[←h0]
   refine⟨_,q9 p.t (by omega),?_⟩
   cases h1:dS p.t with
   |false=>exact au rfl ⟨rfl,by first|rfl|trivial⟩
   |true=>
    refine ai rfl ⟨_,(Lc p.ages (by omega) (lu p.ages)).2 rfl,?_⟩
    cases h2:lu p.ages with
    |false=>exact au rfl ⟨rfl,by first|rfl|trivial⟩
    |true=>
     refine ai rfl ⟨_,(sK p.cells (by omega) (c6 p.cells)).2 rfl,?_⟩
     cases h3:c6 p.cells with
     |false=>exact au rfl ⟨rfl,by first|rfl|trivial⟩
     |true=>
      refine ai rfl ⟨_,wm p.next 1 61,?_⟩
      cases h4:iQ p.next 1 61 with
      |false=>exact au rfl ⟨rfl,by first|rfl|trivial⟩
      |true=>
       refine ai rfl ⟨_,E5 p hS,?_⟩
       cases h5:fY p with
       |false=>exact au rfl ⟨rfl,by first|rfl|trivial⟩
       |true=>exact ai rfl ⟨_,E6 p hS,⟨rfl,by first|rfl|trivial⟩⟩
  ·intro i a hi ha hd htk hn h0
   have gO:(jc p.next) a=false→(p.ages.all (jc p.next)&&(dS p.t&&(lu p.ages&&(c6 p.cells&&(iQ p.next 1 61&&(fY p&&gU p))))))=false:=fun e=>by rw[←h0,hd];simp[e]
   have gN:(jc p.next) a=true→ah C dQ aj 4 0 (jC ((i:Int)+1) (p.t.lows.map bO) (p.t.nodes.map aW) (p.ages.map dY) (p.cells.map ct) (p.vols.map eg) p.next) (fun u st=>aG C dQ aj u st fun r fs=>r=vB ((p.ages.all (jc p.next)&&(dS p.t&&(lu p.ages&&(c6 p.cells&&(iQ p.next 1 61&&(fY p&&gU p)))))))∧fs=[]):=fun e=>hn (by rw[←h0,hd];simp[e])
   refine zP _ _ _ _ _ _ _ _ (ai (by simp;omega) ?_)
   simp only[vE,aL,ha,Option.some.injEq,exists_eq_left',h9,bH]
   rw[aJ (by omega)]
   by_cases h1:p.next≤a.id
   ·rw[if_pos h1];exact Ih _ _ _ _ _ _ _ (by rw[gO (by simp[jc];omega)];exact⟨rfl,by first|rfl|trivial⟩)
   ·rw[if_neg h1];exact gN (by simp[jc];omega)
 exact key rfl
theorem yj (p:Pool) (hS:cL p≤4194304):aa C dQ [fK p] (vB (mD p)) []:=E8 p hS
theorem yl (p:Pool) (hS:cL p≤4194304):aa C eZ [fK p] (vB (mD p)) []:=by
 have hP:=iR hS
 rw[SA]
 refine(Lx _ _ _ _ _ _ _ ?_).run
 refine⟨_,rj p.t (by omega),?_⟩
 cases h1:dS p.t with
 |false=>exact ai rfl ⟨by simp,by first|rfl|trivial⟩
 |true=>
  refine au rfl ⟨_,(Le p.ages (by omega) (lu p.ages)).2 rfl,?_⟩
  cases h2:lu p.ages with
  |false=>exact ai rfl ⟨by simp,by first|rfl|trivial⟩
  |true=>
   refine au rfl ⟨_,(sL p.cells (by omega) (c6 p.cells)).2 rfl,?_⟩
   cases h3:c6 p.cells with
   |false=>exact ai rfl ⟨by simp,by first|rfl|trivial⟩
   |true=>
    refine au rfl ⟨_,qz p.next 1 61,?_⟩
    cases h4:iQ p.next 1 61 with
    |false=>exact ai rfl ⟨by simp,by first|rfl|trivial⟩
    |true=>
     refine au rfl ?_
     simp only[Bool.true_and]
     have key:((p.ages.drop 0).all (jc p.next)&&(fY p&&gU p))=(p.ages.all (jc p.next)&&(fY p&&gU p))→ah C eZ ak 4 0 (lN (p.ages.map dY) ((0:Nat):Int) (p.t.lows.map bO) (p.t.nodes.map aW) (p.cells.map ct) (p.vols.map eg) p.next) (fun u st=>aG C eZ ak u st fun r fs=>r=vB (p.ages.all (jc p.next)&&(fY p&&gU p))∧fs=[]):=by
      refine bD p.ages (fun i=>((p.ages.drop i).all (jc p.next)&&(fY p&&gU p))=(p.ages.all (jc p.next)&&(fY p&&gU p))→ah C eZ ak 4 0 (lN (p.ages.map dY) i (p.t.lows.map bO) (p.t.nodes.map aW) (p.cells.map ct) (p.vols.map eg) p.next) (fun u st=>aG C eZ ak u st fun r fs=>r=vB (p.ages.all (jc p.next)&&(fY p&&gU p))∧fs=[])) ?_ ?_
      ·intro h0
       rw[List.drop_length] at h0
       simp only[List.all_nil,Bool.true_and] at h0
       refine zu _ _ _ _ _ _ _ _ (au (by simp) (Hv _ _ _ _ _ _ _ _ _ _ ⟨_,GN p hS,?_⟩))
       rw[←h0]
       cases h5:fY p with
       |false=>exact au rfl ⟨rfl,by first|rfl|trivial⟩
       |true=>exact ai rfl ⟨_,E7 p hS (VW h3),⟨rfl,by first|rfl|trivial⟩⟩
      ·intro i a hi ha hd htk hn h0
       rw[hd,List.all_cons] at h0
       refine zu _ _ _ _ _ _ _ _ (ai (by simp;omega) ?_)
       simp only[vE,aL,ha,Option.some.injEq,exists_eq_left',h9,bH]
       rw[aJ (by omega)]
       by_cases h5:p.next≤a.id
       ·rw[if_pos h5]
        have e:jc p.next a=false:=by simp[jc];omega
        exact Hu _ _ _ _ _ _ _ _ _ (by rw[←h0,e];exact⟨rfl,by first|rfl|trivial⟩)
       ·rw[if_neg h5]
        have e:jc p.next a=true:=by simp[jc];omega
        exact hn (by rw[←h0,e];rfl)
     exact key rfl
theorem rm (l:List Cell) (hl:l.length≤1073741824):aa C e7 [fE l] (fE l) []:=by
 refine(Lk _ _ ?_).run
 rw[show bQ (l.map ct)=true from by simp[Cq],cZ (by simp;omega)]
 exact⟨rfl,by first|rfl|trivial⟩
theorem pz (l:List Cell) (hl:l.length≤1073741824):aa C ie [fE l] (fE l) []:=by
 refine(F3 _ _ ?_).run
 rw[show bQ (l.map ct)=true from by simp[Cq],cZ (by simp;omega)]
 exact⟨rfl,by first|rfl|trivial⟩
theorem DQ (l:List Cell) (i:Int) (hl:l.length≤1073741824):aa C vH [fE l,vI i] (fE (fO l i)) []:=by
 refine(Hw _ _ _ ⟨_,rm l hl,_,(sK l hl (c6 l)).2 rfl,?_⟩).run
 cases h1:c6 l with
 |false=>exact au rfl ⟨by rw[DC h1],by first|rfl|trivial⟩
 |true=>
  refine ai rfl ⟨_,wm _ _ _,?_⟩
  rw[List.length_map,show cQ (Int.ofNat l.length) 1=(l.length:Int)-1 from dz (by simp;omega)]
  by_cases h2:0≤i∧i<l.length
  ·obtain⟨c,hc⟩:=qu h2.1 h2.2
   refine ai (by simp[iQ];omega) ?_
   simp only[kC,hc,Option.some.injEq,exists_eq_left']
   cases h3:c.u with
   |false=>exact au rfl ⟨by rw[Gk hc h3],by first|rfl|trivial⟩
   |true=>
    refine ai rfl (au (by simp) ?_)
    simp only[kC,hc,Option.some.injEq,exists_eq_left',NJ]
    exact⟨by rw[DD hc h1 h3],by first|rfl|trivial⟩
  ·exact au (by simp[iQ];omega) ⟨by rw[BY (nB h2)],by first|rfl|trivial⟩
theorem DR (l:List Cell) (i:Int) (hl:l.length≤1073741824):aa C mj [fE l,vI i] (fE (fO l i)) []:=by
 refine(Ik _ _ _ ⟨_,pz l hl,_,(sL l hl (c6 l)).2 rfl,?_⟩).run
 cases h1:c6 l with
 |false=>exact ai rfl ⟨by rw[DC h1],by first|rfl|trivial⟩
 |true=>
  have h24:l.length=24:=by simp[c6] at h1;omega
  refine au rfl ⟨_,qz _ _ _,?_⟩
  by_cases h2:0≤i∧i<l.length
  ·obtain⟨c,hc⟩:=qu h2.1 h2.2
   refine au (by simp[iQ];omega) ?_
   simp only[kC,hc,Option.some.injEq,exists_eq_left']
   cases h3:c.u with
   |false=>exact ai rfl ⟨by rw[Gk hc h3],by first|rfl|trivial⟩
   |true=>
    refine au rfl (au (by simp) ?_)
    simp only[kC,hc,Option.some.injEq,exists_eq_left',NJ]
    exact⟨by rw[DD hc h1 h3],by first|rfl|trivial⟩
  ·exact ai (by simp[iQ];omega) ⟨by rw[BY (nB h2)],by first|rfl|trivial⟩
theorem GO (l:List Cell) (hl:l.length≤1073741824):aa C fP [fE l] (vI (kN l)) []:=by
 refine(LR _ _ ?_).run
 have key:fU sF (l.drop 0) ((0:Nat):Int)=kN l→ah C fP aj 4 0 (lS (l.map ct) ((0:Nat):Int)) (fun u st=>aG C fP aj u st fun r fs=>r=vI (kN l)∧fs=[]):=by
  refine bD l (fun i=>fU sF (l.drop i) (i:Int)=kN l→ah C fP aj 4 0 (lS (l.map ct) i) (fun u st=>aG C fP aj u st fun r fs=>r=vI (kN l)∧fs=[])) ?_ ?_
  ·intro h0
   rw[List.drop_length] at h0
   simp only[fU] at h0
   exact zF _ _ _ (au (by simp) (HP _ _ _ _ _ (by rw[←h0];exact⟨rfl,by first|rfl|trivial⟩)))
  ·intro i a hi ha hd htk hn h0
   rw[hd] at h0
   simp only[fU] at h0
   refine zF _ _ _ (ai (by simp;omega) ?_)
   simp only[kC,aL,ha,Option.some.injEq,exists_eq_left']
   rw[aJ (by omega)]
   cases h1:a.u with
   |false=>rw[if_pos (by simp[sF,h1])] at h0;exact ai rfl (HO _ _ _ _ _ (by rw[←h0];exact⟨rfl,by first|rfl|trivial⟩))
   |true=>rw[if_neg (by simp[sF,h1])] at h0;exact au rfl (hn h0)
 exact key rfl
theorem DS (l:List Cell) (n:Int) (hl:l.length≤1073741824):aa C oy [fE l,vI n] (VI (iT l n)) []:=by
 refine(G6 _ _ _ ⟨_,pz l hl,_,GO l hl,?_⟩).run
 by_cases h0:kN l<0
 ·exact ai (by simp[h0]) ⟨by rw[ni (fun h=>by omega)],by first|rfl|trivial⟩
 ·refine au (by simp;omega) ⟨_,(vM n (jw n)).2 rfl,?_⟩
  cases h1:jw n with
  |false=>exact ai rfl ⟨by rw[ni (fun h=>by rw[h1] at h;cases h.2.1)],by first|rfl|trivial⟩
  |true=>
   refine au rfl ⟨_,(sL l hl (c6 l)).2 rfl,?_⟩
   cases h2:c6 l with
   |false=>exact ai rfl ⟨by rw[ni (fun h=>by rw[h2] at h;cases h.1)],by first|rfl|trivial⟩
   |true=>
    obtain⟨c,hc,hf⟩:=Pp sF l h0
    change gj l (kN l)=some c at hc
    refine au rfl ?_
    simp only[kC,ES,ET,hc,lI,gm,Option.some.injEq,exists_eq_left',mod_mod]
    exact⟨by rw[xU ⟨h2,h1,by omega⟩],by first|rfl|trivial⟩
theorem DT (l:List Cell) (n:Int) (hl:l.length≤1073741824):aa C c7 [fE l,vI n] (VI (iT l n)) []:=by
 refine(Ij _ _ _ ⟨_,rm l hl,?_⟩).run
 have key:fU sF (l.drop 0) ((0:Nat):Int)=kN l→ah C c7 ak 4 0 (kg (l.map ct) n ((0:Nat):Int) (l.map ct)) (fun u st=>aG C c7 ak u st fun r fs=>r=VI (iT l n)∧fs=[]):=by
  refine bD l (fun i=>fU sF (l.drop i) (i:Int)=kN l→ah C c7 ak 4 0 (kg (l.map ct) n i (l.map ct)) (fun u st=>aG C c7 ak u st fun r fs=>r=VI (iT l n)∧fs=[])) ?_ ?_
  ·intro h0
   rw[List.drop_length] at h0
   simp only[fU] at h0
   exact vm _ _ _ _ _ (au (by simp) (vn _ _ _ _ _ ⟨by rw[ni (fun h=>by omega)],by first|rfl|trivial⟩))
  ·intro i a hi ha hd htk hn h0
   rw[hd] at h0
   simp only[fU] at h0
   refine vm _ _ _ _ _ (ai (by simp;omega) ⟨_,(sK l hl (c6 l)).2 rfl,?_⟩)
   cases h2:c6 l with
   |false=>exact au rfl (vn _ _ _ _ _ ⟨by rw[ni (fun h=>by rw[h2] at h;cases h.1)],by first|rfl|trivial⟩)
   |true=>
    refine ai rfl ⟨_,(vL n (jw n)).2 rfl,?_⟩
    cases h1:jw n with
    |false=>exact au rfl (Ei _ _ _ _ _ _ ⟨by rw[ni (fun h=>by rw[h1] at h;cases h.2.1)],by first|rfl|trivial⟩)
    |true=>
     refine ai rfl ?_
     have hc:gj l (i:Int)=some a:=by rw[aL];exact ha
     simp only[kC,hc,Option.some.injEq,exists_eq_left']
     rw[aJ (by omega)]
     cases h3:a.u with
     |false=>
      rw[if_pos (by simp[sF,h3])] at h0
      refine ai rfl ?_
      simp only[kC,ES,ET,hc,lI,gm,Option.some.injEq,exists_eq_left',mod_mod]
      refine Eh _ _ _ ⟨?_,by first|rfl|trivial⟩
      rw[xU ⟨h2,h1,by omega⟩,←h0]
     |true=>rw[if_neg (by simp[sF,h3])] at h0;exact au rfl (hn h0)
 exact key rfl
theorem ur (l:List Int) (hl:l.length≤1073741824):aa C qH [qd l] (qd l) []:=by
 refine(IB _ _ ?_).run
 rw[show bQ (l.map bO)=true from jA _,cZ (by simp;omega)]
 exact⟨rfl,by first|rfl|trivial⟩
theorem A8 (l:List Key) (b a:Int) (hl:l.length≤1073741824):aa C fG [cT l,vI b,vI a] (SV (wk l b a)) []:=by
 refine(Od _ _ _ _ ?_).run
 have key:setAt (l.drop 0) b a=setAt l b a→ah C fG aj 4 0 (kU (l.map bN) b a ((0:Nat):Int)) (fun u st=>aG C fG aj u st fun r fs=>r=(SV (wk l b a))∧fs=[]):=by
  refine bD l (fun i=>setAt (l.drop i) b a=setAt l b a→ah C fG aj 4 0 (kU (l.map bN) b a i) (fun u st=>aG C fG aj u st fun r fs=>r=(SV (wk l b a))∧fs=[])) ?_ ?_
  ·intro h0
   rw[List.drop_length] at h0
   refine Bp _ _ _ _ _ (au (by simp) (KH _ _ _ _ _ _ ⟨?_,by first|rfl|trivial⟩))
   unfold wk;rw[←h0];rfl
  ·intro i x hi hx hd htk hn h0
   rw[hd] at h0
   simp only[setAt,List.find?_cons] at h0
   refine Bp _ _ _ _ _ (ai (by simp;omega) ?_)
   simp only[mC,aL,hx,Option.some.injEq,exists_eq_left',aX,bH]
   rw[aJ (by omega)]
   by_cases h1:x.b=b
   ·rw[if_pos h1]
    by_cases h2:x.a=a
    ·rw[if_pos h2]
     rw[decide_eq_true ⟨h1,h2⟩] at h0
     refine KG _ _ _ _ _ _ ⟨?_,by first|rfl|trivial⟩
     unfold wk setAt;rw[←h0]
    ·rw[if_neg h2]
     rw[decide_eq_false (fun h=>h2 h.2)] at h0
     exact hn h0
   ·rw[if_neg h1]
    rw[decide_eq_false (fun h=>h1 h.1)] at h0
    exact hn h0
 exact key rfl
theorem GP (n:List (List Key)) (b a:Int) (hl:n.length≤1073741824) (hs: ∀s∈n,s.length≤1073741824):aa C gr [fC n,vI b,vI a] (SV (lJ n b a n.length)) []:=by
 refine(LN _ _ _ _ ?_).run
 have key: ∀k:Nat,k≤n.length→lJ n b a k=lJ n b a n.length→ah C gr aj 4 0 (lR b a ((k:Int)-1) (n.map bX)) (fun u st=>aG C gr aj u st fun r fs=>r=(SV (lJ n b a n.length))∧fs=[]):=by
  intro k
  induction k with
  |zero=>
   intro _ hk
   refine zC _ _ _ _ _ (au (by simp) (HJ _ _ _ _ _ _ ⟨?_,by first|rfl|trivial⟩))
   rw[←hk];rfl
  |succ k ih=>
   intro hle hk
   have hx:n[k]?=some n[k]:=List.getElem?_eq_getElem (by omega)
   rw[show((k+1:Nat):Int)-1=(k:Int) by omega]
   have hss:=hs n[k] (List.getElem_mem (by omega))
   generalize n[k]=s at hx hss
   simp only[lJ,hx] at hk
   refine zC _ _ _ _ _ (ai (by simp) ?_)
   simp only[qv,aL,hx,Option.some.injEq,exists_eq_left']
   rw[dz (by omega)]
   refine⟨_,_,_,_,_,_,A8 s b a hss,?_⟩
   cases h2:(wk s b a).2 with
   |false=>
    rw[h2] at hk
    exact au rfl (au rfl (ih (by omega) (by simpa using hk)))
   |true=>
    rw[h2] at hk
    simp only[if_true] at hk
    refine ai rfl ?_
    by_cases h3:(wk s b a).1.k=0
    ·refine ai (by simp[h3]) (zD _ _ _ _ _ _ _ _ _ _ _ _ _ ⟨?_,by first|rfl|trivial⟩)
     rw[if_pos h3] at hk
     rw[←hk];rfl
    ·refine au (by simp[h3]) (ai rfl (zD _ _ _ _ _ _ _ _ _ _ _ _ _ ⟨?_,by first|rfl|trivial⟩))
     rw[if_neg h3] at hk
     rw[←hk,←h2]
 rw[List.length_map,show cQ (Int.ofNat n.length) 1=(n.length:Int)-1 from dz (by simp;omega)]
 exact key n.length (Nat.le_refl _) rfl
theorem wo (t:Tree) (b a:Int) (hl:t.lows.length≤1073741824):aa C dU [dD t,vI b,vI a] (vI (kE t b a)) []:=by
 refine(Ku _ _ _ _ _ ?_).run
 unfold kE
 have key:ah C dU ak 4 0 (jh b a (pW (fun x=>decide (x≤fX b a)) t.lows 0) ((0:Nat):Int) (t.lows.map bO) (t.nodes.map aW)) (fun u st=>aG C dU ak u st fun r fs=>r=(vI (pW (fun x=>decide (x≤fX b a)) t.lows t.lows.length))∧fs=[]):=by
  refine bD t.lows (fun i=>ah C dU ak 4 0 (jh b a (pW (fun x=>decide (x≤fX b a)) t.lows i) i (t.lows.map bO) (t.nodes.map aW)) (fun u st=>aG C dU ak u st fun r fs=>r=(vI (pW (fun x=>decide (x≤fX b a)) t.lows t.lows.length))∧fs=[])) ?_ ?_
  ·exact xd _ _ _ _ _ _ _ (au (by simp) (FL _ _ _ _ _ _ _ _ ⟨rfl,by first|rfl|trivial⟩))
  ·intro i x hi hx hd htk hn
   simp only[pW,hx] at hn
   refine xd _ _ _ _ _ _ _ (ai (by simp;omega) ?_)
   simp only[vD,aL,hx,Option.some.injEq,exists_eq_left',B3,exists_eq_left,h9,bH]
   rw[aJ (by omega)]
   by_cases h1:x≤fX b a
   ·rw[if_pos h1]
    rw[if_pos (decide_eq_true h1)] at hn
    exact hn
   ·rw[if_neg h1]
    rw[if_neg (by simpa using h1)] at hn
    exact hn
 exact key
theorem GQ (t:Tree) (b a:Int) (hl:dx t≤1073741824):aa C uj [dD t,vI b,vI a] (SV (xV t b a)) []:=by
 have e2:dx t=t.lows.length+(t.nodes.length+tot aP t.nodes):=rfl
 refine(Me _ _ _ _ _ ⟨_,wo t b a (by omega),_,wm _ _ _,?_⟩).run
 unfold xV
 rw[List.length_map,show cQ (Int.ofNat t.nodes.length) 1=(t.nodes.length:Int)-1 from dz (by simp;omega)]
 by_cases h1:0≤kE t b a∧kE t b a<t.nodes.length
 ·obtain⟨n,hn⟩:=qu h1.1 h1.2
  have hz:aP n≤tot aP t.nodes:=mF (w:=aP) (Pg hn)
  have e1:aP n=n.length+tot bB n:=rfl
  refine au (by simp[iQ];omega) ?_
  simp only[pU,hn,Option.some.injEq,exists_eq_left']
  refine⟨_,_,_,_,_,_,GP n b a (by omega) (fun s hs=> ?_),⟨rfl,by first|rfl|trivial⟩⟩
  have h3:bB s≤tot bB n:=mF (w:=bB) hs
  have h4:bB s=s.length:=rfl
  omega
 ·rw[nB h1]
  exact ai (by simp[iQ];omega) ⟨rfl,by first|rfl|trivial⟩
theorem A9 (l:List Key) (b a:Int) (hl:l.length≤1073741824):aa C eE [cT l,vI b,vI a] (SV (wk l b a)) []:=by
 refine(Oe _ _ _ _ ?_).run
 have key:setAt (l.drop 0) b a=setAt l b a→ah C eE aj 4 0 (kV b a (l.map bN) ((0:Nat):Int)) (fun u st=>aG C eE aj u st fun r fs=>r=(SV (wk l b a))∧fs=[]):=by
  refine bD l (fun i=>setAt (l.drop i) b a=setAt l b a→ah C eE aj 4 0 (kV b a (l.map bN) i) (fun u st=>aG C eE aj u st fun r fs=>r=(SV (wk l b a))∧fs=[])) ?_ ?_
  ·intro h0
   rw[List.drop_length] at h0
   refine Bq _ _ _ _ _ (au (by simp) (KJ _ _ _ _ _ _ _ ⟨?_,by first|rfl|trivial⟩))
   unfold wk;rw[←h0];rfl
  ·intro i x hi hx hd htk hn h0
   rw[hd] at h0
   simp only[setAt,List.find?_cons] at h0
   refine Bq _ _ _ _ _ (ai (by simp;omega) ?_)
   simp only[mC,aL,hx,Option.some.injEq,exists_eq_left',aX,bH]
   rw[aJ (by omega)]
   by_cases h1:x.b=b
   ·rw[if_pos h1]
    by_cases h2:x.a=a
    ·rw[if_pos h2]
     rw[decide_eq_true ⟨h1,h2⟩] at h0
     refine KI _ _ _ _ _ _ ⟨?_,by first|rfl|trivial⟩
     unfold wk setAt;rw[←h0]
    ·rw[if_neg h2]
     rw[decide_eq_false (fun h=>h2 h.2)] at h0
     exact hn h0
   ·rw[if_neg h1]
    rw[decide_eq_false (fun h=>h1 h.1)] at h0
    exact hn h0
 exact key rfl
theorem GR (n:List (List Key)) (b a:Int) (hl:n.length≤1073741824) (hs: ∀s∈n,s.length≤1073741824):aa C gu [fC n,vI b,vI a] (SV (lJ n b a n.length)) []:=by
 refine(LY _ _ _ _ ?_).run
 have key: ∀k:Nat,k≤n.length→lJ n b a k=lJ n b a n.length→ah C gu aj 4 0 (oS b a ((k:Int)-1) (n.map bX)) (fun u st=>aG C gu aj u st fun r fs=>r=(SV (lJ n b a n.length))∧fs=[]):=by
  intro k
  induction k with
  |zero=>
   intro _ hk
   refine zL _ _ _ _ _ (au (by simp) (H7 _ _ _ _ _ _ ⟨?_,by first|rfl|trivial⟩))
   rw[←hk];rfl
  |succ k ih=>
   intro hle hk
   have hx:n[k]?=some n[k]:=List.getElem?_eq_getElem (by omega)
   rw[show((k+1:Nat):Int)-1=(k:Int) by omega]
   have hss:=hs n[k] (List.getElem_mem (by omega))
   generalize n[k]=s at hx hss
   simp only[lJ,hx] at hk
   refine zL _ _ _ _ _ (ai (by simp) ?_)
   simp only[qv,aL,hx,Option.some.injEq,exists_eq_left']
   rw[dz (by omega)]
   refine⟨_,_,_,_,_,_,A9 s b a hss,?_⟩
   cases h2:(wk s b a).2 with
   |false=>
    rw[h2] at hk
    exact ai rfl (ih (by omega) (by simpa using hk))
   |true=>
    rw[h2] at hk
    simp only[if_true] at hk
    refine au rfl ?_
    by_cases h3:(wk s b a).1.k=0
    ·refine ai (by simp[h3]) (HZ _ _ _ _ _ _ _ _ ⟨?_,by first|rfl|trivial⟩)
     rw[if_pos h3] at hk
     rw[←hk];rfl
    ·refine au (by simp[h3]) (H6 _ _ _ _ _ _ _ ⟨?_,by first|rfl|trivial⟩)
     rw[if_neg h3] at hk
     rw[←hk,←h2]
 rw[List.length_map,show cQ (Int.ofNat n.length) 1=(n.length:Int)-1 from dz (by simp;omega)]
 exact key n.length (Nat.le_refl _) rfl
theorem wq (t:Tree) (b a:Int) (hl:t.lows.length≤1073741824):aa C eO [dD t,vI b,vI a] (vI (kE t b a)) []:=by
 refine(Kh _ _ _ _ _ ?_).run
 have key: ∀k:Nat,k≤t.lows.length→pW (fun x=>decide (x≤fX b a)) t.lows k=kE t b a→ah C eO aj 4 0 (nK b a ((k:Int)-1) (t.lows.map bO) (t.nodes.map aW)) (fun u st=>aG C eO aj u st fun r fs=>r=(vI (kE t b a))∧fs=[]):=by
  intro k
  induction k with
  |zero=>
   intro _ hk
   refine w5 _ _ _ _ _ _ (au (by simp) (FA _ _ _ _ _ _ _ ⟨?_,by first|rfl|trivial⟩))
   rw[←hk];rfl
  |succ k ih=>
   intro hle hk
   have hx:t.lows[k]?=some t.lows[k]:=List.getElem?_eq_getElem (by omega)
   rw[show((k+1:Nat):Int)-1=(k:Int) by omega]
   generalize t.lows[k]=x at hx
   simp only[pW,hx] at hk
   refine w5 _ _ _ _ _ _ (ai (by simp) ?_)
   simp only[vD,aL,hx,Option.some.injEq,exists_eq_left',vN,exists_eq_left,h9,bH]
   rw[dz (by omega)]
   by_cases h1:x≤fX b a
   ·rw[if_pos h1]
    rw[if_pos (decide_eq_true h1)] at hk
    exact Fz _ _ _ _ ⟨by rw[←hk],by first|rfl|trivial⟩
   ·rw[if_neg h1]
    rw[if_neg (by simpa using h1)] at hk
    exact ih (by omega) hk
 rw[List.length_map,show cQ (Int.ofNat t.lows.length) 1=(t.lows.length:Int)-1 from dz (by simp;omega)]
 exact key t.lows.length (Nat.le_refl _) rfl
theorem GS (t:Tree) (b a:Int) (hl:dx t≤1073741824):aa C uk [dD t,vI b,vI a] (SV (xV t b a)) []:=by
 have e2:dx t=t.lows.length+(t.nodes.length+tot aP t.nodes):=rfl
 refine(LH _ _ _ _ _ ⟨_,wq t b a (by omega),_,qz _ _ _,?_⟩).run
 unfold xV
 rw[List.length_map,show cQ (Int.ofNat t.nodes.length) 1=(t.nodes.length:Int)-1 from dz (by simp;omega)]
 by_cases h1:0≤kE t b a∧kE t b a<t.nodes.length
 ·obtain⟨n,hn⟩:=qu h1.1 h1.2
  have hz:aP n≤tot aP t.nodes:=mF (w:=aP) (Pg hn)
  have e1:aP n=n.length+tot bB n:=rfl
  refine au (by simp[iQ];omega) ?_
  simp only[pU,hn,Option.some.injEq,exists_eq_left']
  refine⟨_,_,_,_,_,_,GR n b a (by omega) (fun s hs=> ?_),⟨rfl,by first|rfl|trivial⟩⟩
  have h3:bB s≤tot bB n:=mF (w:=bB) hs
  have h4:bB s=s.length:=rfl
  omega
 ·rw[nB h1]
  exact ai (by simp[iQ];omega) ⟨rfl,by first|rfl|trivial⟩
theorem DU (l:List Age) (hl:l.length≤1073741824):aa C oz [jK l] (jK l) []:=by
 refine(HU _ _ ?_).run
 rw[show bQ (l.map dY)=true from BI _,cZ (by simp;omega)]
 exact⟨rfl,by first|rfl|trivial⟩
theorem pZ (n:List (List Key)) (hl:n.length≤1073741824) (hs: ∀s∈n,s.length≤1073741824):aa C aR [fC n] (fC n) []:=by
 refine(Hl _ _ ?_).run
 skip
 have key:((0:Nat)=0→ah C aR ak 4 0 (mK (n.map bX)) (fun u st=>aG C aR ak u st fun r fs=>r=(fC n)∧fs=[]))∧(0<(0:Nat)→ah C aR ak 4 0 (j5 (n.map bX) ((0:Nat):Int) ((n.take 0).map bX)) (fun u st=>aG C aR ak u st fun r fs=>r=(fC n)∧fs=[])):=by
  refine bD n (fun i=>(i=0→ah C aR ak 4 0 (mK (n.map bX)) (fun u st=>aG C aR ak u st fun r fs=>r=(fC n)∧fs=[]))∧(0<i→ah C aR ak 4 0 (j5 (n.map bX) i ((n.take i).map bX)) (fun u st=>aG C aR ak u st fun r fs=>r=(fC n)∧fs=[]))) ?_ ?_
  ·refine⟨fun h=> ?_,fun h=> ?_⟩
   ·have hnil:n=[]:=List.length_eq_zero_iff.1 h
    refine uX _ _ (au (by simp[h]) (DZ _ _ _ _ ⟨?_,by first|rfl|trivial⟩))
    simp[hnil]
   ·rw[List.take_length]
    exact uY _ _ _ _ (au (by simp) (D0 _ _ _ _ _ _ ⟨rfl,by first|rfl|trivial⟩))
  ·intro i a hi ha hd htk hn
   have hmem:=List.mem_of_getElem? ha
   refine⟨fun h=> ?_,fun h=> ?_⟩
   ·subst h
    have hz:gj n 0=some a:=(aL n 0).trans ha
    have hn2:=hn.2 (by omega)
    rw[htk] at hn2
    refine uX _ _ (ai (by simp;omega) ?_)
    simp only[qv,hz,Option.some.injEq,exists_eq_left']
    refine⟨_,mH a (by have:=hs a hmem;omega),ai (cZ (by simp;try omega)) ?_⟩
    rw[aJ (by omega)]
    exact hn2
   ·have hn2:=hn.2 (by omega)
    rw[htk] at hn2
    refine uY _ _ _ _ (ai (by simp;omega) ?_)
    simp only[qv,aL,ha,Option.some.injEq,exists_eq_left']
    refine⟨_,mH a (by have:=hs a hmem;omega),ai (cZ (by simp;try omega)) ?_⟩
    rw[aJ (by omega)]
    rw[List.map_append] at hn2
    exact hn2
 exact key.1 rfl
theorem ru (n:List (List Key)) (hl:n.length≤1073741824) (hs: ∀s∈n,s.length≤1073741824):aa C bw [fC n] (fC n) []:=by
 refine(Mg _ _ ?_).run
 skip
 have key:((0:Nat)=0→ah C bw ak 4 0 (oW (n.map bX)) (fun u st=>aG C bw ak u st fun r fs=>r=(fC n)∧fs=[]))∧(0<(0:Nat)→ah C bw ak 4 0 (lW ((0:Nat):Int) (n.map bX) ((n.take 0).map bX)) (fun u st=>aG C bw ak u st fun r fs=>r=(fC n)∧fs=[])):=by
  refine bD n (fun i=>(i=0→ah C bw ak 4 0 (oW (n.map bX)) (fun u st=>aG C bw ak u st fun r fs=>r=(fC n)∧fs=[]))∧(0<i→ah C bw ak 4 0 (lW i (n.map bX) ((n.take i).map bX)) (fun u st=>aG C bw ak u st fun r fs=>r=(fC n)∧fs=[]))) ?_ ?_
  ·refine⟨fun h=> ?_,fun h=> ?_⟩
   ·have hnil:n=[]:=List.length_eq_zero_iff.1 h
    refine zW _ _ (au (by simp[h]) (Iz _ _ _ ⟨?_,by first|rfl|trivial⟩))
    simp[hnil]
   ·rw[List.take_length]
    exact zX _ _ _ _ (au (by simp) (IA _ _ _ _ _ ⟨rfl,by first|rfl|trivial⟩))
  ·intro i a hi ha hd htk hn
   have hmem:=List.mem_of_getElem? ha
   refine⟨fun h=> ?_,fun h=> ?_⟩
   ·subst h
    have hz:gj n 0=some a:=(aL n 0).trans ha
    have hn2:=hn.2 (by omega)
    rw[htk] at hn2
    refine zW _ _ (ai (by simp;omega) ?_)
    simp only[qv,hz,Option.some.injEq,exists_eq_left']
    have hsa:=hs a hmem
    refine ai (by rw[show bQ (a.map bN)=true from jB _,cZ (by simp;omega)];rfl) (ai (cZ (by simp;try omega)) ?_)
    rw[aJ (by omega)]
    exact hn2
   ·have hn2:=hn.2 (by omega)
    rw[htk] at hn2
    refine zX _ _ _ _ (ai (by simp;omega) ?_)
    simp only[qv,aL,ha,Option.some.injEq,exists_eq_left']
    have hsa:=hs a hmem
    refine ai (by rw[show bQ (a.map bN)=true from jB _,cZ (by simp;omega)];rfl) (ai (cZ (by simp;try omega)) ?_)
    rw[aJ (by omega)]
    rw[List.map_append] at hn2
    exact hn2
 exact key.1 rfl
theorem uu (t:Tree) (hl:t.lows.length≤1073741824∧t.nodes.length≤1073741824) (hs: ∀n∈t.nodes,n.length≤1073741824∧ ∀s∈n,s.length≤1073741824):aa C aV [dD t] (dD t) []:=by
 refine(HE _ _ _ ?_).run
 refine⟨_,ur t.lows hl.1,?_⟩
 have key:((0:Nat)=0→ah C aV ak 4 0 (mQ (t.nodes.map aW) (t.lows.map bO)) (fun u st=>aG C aV ak u st fun r fs=>r=(dD t)∧fs=[]))∧(0<(0:Nat)→ah C aV ak 4 0 (j8 (t.nodes.map aW) ((0:Nat):Int) (t.lows.map bO) ((t.nodes.take 0).map aW)) (fun u st=>aG C aV ak u st fun r fs=>r=(dD t)∧fs=[])):=by
  refine bD t.nodes (fun i=>(i=0→ah C aV ak 4 0 (mQ (t.nodes.map aW) (t.lows.map bO)) (fun u st=>aG C aV ak u st fun r fs=>r=(dD t)∧fs=[]))∧(0<i→ah C aV ak 4 0 (j8 (t.nodes.map aW) i (t.lows.map bO) ((t.nodes.take i).map aW)) (fun u st=>aG C aV ak u st fun r fs=>r=(dD t)∧fs=[]))) ?_ ?_
  ·refine⟨fun h=> ?_,fun h=> ?_⟩
   ·have hnil:t.nodes=[]:=List.length_eq_zero_iff.1 h
    refine va _ _ _ (au (by simp[h]) (D6 _ _ _ _ _ ⟨?_,by first|rfl|trivial⟩))
    simp[hnil]
   ·rw[List.take_length]
    exact ve _ _ _ _ _ (au (by simp) (D7 _ _ _ _ _ _ _ ⟨rfl,by first|rfl|trivial⟩))
  ·intro i a hi ha hd htk hn
   have hmem:=List.mem_of_getElem? ha
   refine⟨fun h=> ?_,fun h=> ?_⟩
   ·subst h
    have hz:gj t.nodes 0=some a:=(aL t.nodes 0).trans ha
    have hn2:=hn.2 (by omega)
    rw[htk] at hn2
    refine va _ _ _ (ai (by simp;omega) ?_)
    simp only[pU,hz,Option.some.injEq,exists_eq_left']
    refine⟨_,pZ a (hs a hmem).1 (hs a hmem).2,ai (cZ (by simp;try omega)) ?_⟩
    rw[aJ (by omega)]
    exact hn2
   ·have hn2:=hn.2 (by omega)
    rw[htk] at hn2
    refine ve _ _ _ _ _ (ai (by simp;omega) ?_)
    simp only[pU,aL,ha,Option.some.injEq,exists_eq_left']
    refine⟨_,pZ a (hs a hmem).1 (hs a hmem).2,ai (cZ (by simp;try omega)) ?_⟩
    rw[aJ (by omega)]
    rw[List.map_append] at hn2
    exact hn2
 exact key.1 rfl
theorem ym (t:Tree) (hl:t.lows.length≤1073741824∧t.nodes.length≤1073741824) (hs: ∀n∈t.nodes,n.length≤1073741824∧ ∀s∈n,s.length≤1073741824):aa C cn [dD t] (dD t) []:=by
 refine(L9 _ _ _ ?_).run
 refine ai (by rw[show bQ (t.lows.map bO)=true from jA _,cZ (by simp;omega)];rfl) ?_
 have key:((0:Nat)=0→ah C cn ak 4 0 (oV (t.lows.map bO) (t.nodes.map aW)) (fun u st=>aG C cn ak u st fun r fs=>r=(dD t)∧fs=[]))∧(0<(0:Nat)→ah C cn ak 4 0 (lV ((0:Nat):Int) (t.lows.map bO) (t.nodes.map aW) ((t.nodes.take 0).map aW)) (fun u st=>aG C cn ak u st fun r fs=>r=(dD t)∧fs=[])):=by
  refine bD t.nodes (fun i=>(i=0→ah C cn ak 4 0 (oV (t.lows.map bO) (t.nodes.map aW)) (fun u st=>aG C cn ak u st fun r fs=>r=(dD t)∧fs=[]))∧(0<i→ah C cn ak 4 0 (lV i (t.lows.map bO) (t.nodes.map aW) ((t.nodes.take i).map aW)) (fun u st=>aG C cn ak u st fun r fs=>r=(dD t)∧fs=[]))) ?_ ?_
  ·refine⟨fun h=> ?_,fun h=> ?_⟩
   ·have hnil:t.nodes=[]:=List.length_eq_zero_iff.1 h
    refine zQ _ _ _ (au (by simp[h]) (Il _ _ _ _ ⟨?_,by first|rfl|trivial⟩))
    simp[hnil]
   ·rw[List.take_length]
    exact zR _ _ _ _ _ (au (by simp) (Im _ _ _ _ _ _ ⟨rfl,by first|rfl|trivial⟩))
  ·intro i a hi ha hd htk hn
   have hmem:=List.mem_of_getElem? ha
   refine⟨fun h=> ?_,fun h=> ?_⟩
   ·subst h
    have hz:gj t.nodes 0=some a:=(aL t.nodes 0).trans ha
    have hn2:=hn.2 (by omega)
    rw[htk] at hn2
    refine zQ _ _ _ (ai (by simp;omega) ?_)
    simp only[pU,hz,Option.some.injEq,exists_eq_left']
    refine⟨_,ru a (hs a hmem).1 (hs a hmem).2,ai (cZ (by simp;try omega)) ?_⟩
    rw[aJ (by omega)]
    exact hn2
   ·have hn2:=hn.2 (by omega)
    rw[htk] at hn2
    refine zR _ _ _ _ _ (ai (by simp;omega) ?_)
    simp only[pU,aL,ha,Option.some.injEq,exists_eq_left']
    refine⟨_,ru a (hs a hmem).1 (hs a hmem).2,ai (cZ (by simp;try omega)) ?_⟩
    rw[aJ (by omega)]
    rw[List.map_append] at hn2
    exact hn2
 exact key.1 rfl
theorem uv {t:Tree} (h:dx t≤4194304):(t.lows.length≤1073741824∧t.nodes.length≤1073741824)∧ ∀n∈t.nodes,n.length≤1073741824∧ ∀s∈n,s.length≤1073741824:=by
 have e2:dx t=t.lows.length+(t.nodes.length+tot aP t.nodes):=rfl
 refine⟨⟨by omega,by omega⟩,fun n hn=> ?_⟩
 have h1:aP n≤tot aP t.nodes:=mF (w:=aP) hn
 have h2:aP n=n.length+tot bB n:=rfl
 refine⟨by omega,fun s hs=> ?_⟩
 have h3:bB s≤tot bB n:=mF (w:=bB) hs
 have h4:bB s=s.length:=rfl
 omega
theorem qA (p:Pool) (hS:cL p≤4194304):aa C pY [fK p] (fK p) []:=by
 have hP:=iR hS
 have hN:=uv hP.1
 have hT:=ym p.t hN.1 hN.2
 have hA:(bQ (p.ages.map dY)&&fits (Nat.add 0 (p.ages.map dY).length) 16)=true:=by rw[BI,cZ (by simp;omega)];rfl
 have hC:=rm p.cells (by omega)
 have hV:(bQ (p.vols.map eg)&&fits (Nat.add 0 (p.vols.map eg).length) 40)=true:=by rw[BJ,cZ (by simp;omega)];rfl
 refine(Ka _ _ _ _ _ _ _ ?_).run
 repeat' first
  |exact rfl
  |refine⟨(fK p,[]),?_,?_,⟨rfl,by first|rfl|trivial⟩⟩
  |refine⟨(fK p,[]),?_,?_,by first|rfl|trivial⟩
  |refine⟨_,_,hT,?_⟩
  |refine ai hA ?_
  |refine⟨_,hC,?_⟩
  |refine ai hV ?_
theorem p0 (p:Pool) (hS:cL p≤4194304):aa C dZ [fK p] (fK p) []:=by
 have hP:=iR hS
 have hN:=uv hP.1
 have hT:=uu p.t hN.1 hN.2
 have hA:=DU p.ages (by omega)
 have hC:=pz p.cells (by omega)
 have hV:(bQ (p.vols.map eg)&&fits (Nat.add 0 (p.vols.map eg).length) 40)=true:=by rw[BJ,cZ (by simp;omega)];rfl
 refine(HN _ _ _ _ _ _ _ ?_).run
 repeat' first
  |exact rfl
  |refine⟨(fK p,[]),?_,?_,⟨rfl,by first|rfl|trivial⟩⟩
  |refine⟨(fK p,[]),?_,?_,by first|rfl|trivial⟩
  |refine⟨_,_,hT,?_⟩
  |refine⟨_,hA,?_⟩
  |refine⟨_,hC,?_⟩
  |refine ai hV ?_
theorem GU (p x:Pool) (hS:cL p≤4194304) (hX:cL x≤4194304):aa C jU [fK p,fK x,vB true] (Xz (QI p x)) []:=by
 refine(Ca _ _ _ _ _ _ _ _ _ _ _ _ _ _ ?_).run
 refine au rfl ⟨_,yj x hX,?_⟩
 unfold QI
 cases h1:mD x with
 |false=>exact ai rfl ⟨_,_,_,_,_,_,qA p hS,⟨rfl,by first|rfl|trivial⟩⟩
 |true=>exact au rfl ⟨rfl,by first|rfl|trivial⟩
theorem E9 (p x:Pool) (hS:cL p≤4194304) (hX:cL x≤4194304):aa C nG [fK p,fK x,vB true] (Xz (QI p x)) []:=by
 refine(Bo _ _ _ _ _ _ _ _ _ _ _ _ _ _ ?_).run
 refine au rfl ⟨_,yl x hX,?_⟩
 unfold QI
 cases h1:mD x with
 |false=>exact ai rfl ⟨_,_,_,_,_,_,p0 p hS,⟨rfl,by first|rfl|trivial⟩⟩
 |true=>exact au rfl ⟨rfl,by first|rfl|trivial⟩
theorem J4 {l:List Vol} {s:ByteArray} (h: ¬nh l s<0): ∃v,gj l (nh l s)=some v:=by
 obtain⟨m,h1,_⟩:=Pp _ l h
 exact⟨m,h1⟩
theorem Fa (p:Pool) (s:ByteArray) (hS:cL p≤4194304) (hz:s.size≤140737488355328):aa C xZ [fK p,vS s] (vI (if DF p s=true then 0 else 1)) []:=by
 refine(KD _ _ _ _ _ _ _ _ ⟨_,yj p hS,?_⟩).run
 unfold DF
 cases h1:mD p with
 |false=>exact ai rfl ⟨rfl,by first|rfl|trivial⟩
 |true=>
  refine au rfl ⟨_,(B1 s hz (qw s)).2 rfl,?_⟩
  cases h2:qw s with
  |false=>exact ai rfl ⟨rfl,by first|rfl|trivial⟩
  |true=>exact au rfl ⟨rfl,by first|rfl|trivial⟩
theorem GV (p:Pool) (s:ByteArray) (hS:cL p≤4194304) (hz:s.size≤140737488355328):aa C AV [fK p,vS s] (vI (if DF p s=true then(if nh p.vols s<0 then 2 else 0) else 1)) []:=by
 have hP:=iR hS
 refine(LC _ _ _ _ _ _ _ _ ⟨_,Fa p s hS hz,?_⟩).run
 cases h1:DF p s with
 |false=>exact au (by simp) ⟨rfl,by first|rfl|trivial⟩
 |true=>
  refine ai (by simp) ⟨_,sM p s (by omega),?_⟩
  by_cases h2:nh p.vols s<0
  ·exact ai (by simp[h2]) ⟨by simp[h2],by first|rfl|trivial⟩
  ·exact au (by simp;omega) ⟨by simp[h2],by first|rfl|trivial⟩
theorem uw (p x:Pool) (ok:Bool) (hS:cL p≤4194304) (hX:cL x≤4194304):aa C jU [fK p,fK x,vB ok] (Xz (QJ p x ok)) []:=by
 cases ok with
 |true=>exact GU p x hS hX
 |false=>
  refine(Ca _ _ _ _ _ _ _ _ _ _ _ _ _ _ ?_).run
  exact ai rfl ⟨_,_,_,_,_,_,qA p hS,⟨rfl,by first|rfl|trivial⟩⟩
theorem sN (p x:Pool) (ok:Bool) (hS:cL p≤4194304) (hX:cL x≤4194304):aa C nG [fK p,fK x,vB ok] (Xz (QJ p x ok)) []:=by
 cases ok with
 |true=>exact E9 p x hS hX
 |false=>
  refine(Bo _ _ _ _ _ _ _ _ _ _ _ _ _ _ ?_).run
  exact ai rfl ⟨_,_,_,_,_,_,p0 p hS,⟨rfl,by first|rfl|trivial⟩⟩
theorem iw (l:List Key) (hl:l.length≤1073741824):aa C az [cT l] (fC (cv l)) []:=by
 refine(Kg _ _ ?_).run
 unfold cv
 by_cases h:l.length=0
 ·exact ai (by simp[h]) ⟨by rw[if_pos h];rfl,rfl⟩
 ·refine au (by rw[List.length_map,Int.ofNat_eq_natCast,aX];exact decide_eq_false (by omega)) ?_
  rw[show bQ (l.map bN)=true from jB _,cZ (by simp;omega)]
  exact⟨by rw[if_neg h];rfl,rfl⟩
theorem mI (l:List Key) (hl:l.length≤1073741824):aa C bP [cT l] (fC (cv l)) []:=by
 refine(Kw _ _ ?_).run
 unfold cv
 by_cases h:l.length=0
 ·exact ai (by simp[h]) ⟨by rw[if_pos h];rfl,rfl⟩
 ·refine au (by rw[List.length_map,Int.ofNat_eq_natCast,aX];exact decide_eq_false (by omega)) ?_
  exact⟨_,mH l (by omega),⟨by rw[if_neg h];rfl,rfl⟩⟩
theorem ux (n:List (List Key)) (k:Key) (hb:n.length≤1073740000) (hl:tot bB n≤1073740000):aa C c8 [fC n,Ab k] (cT (cm n k)) []:=by
 have h1:=cM n
 have h2:=ng (aQ n) k
 exact(HX _ _ _ _ _ _ _ ⟨_,(iG n (by omega) (by omega) _).2 rfl,_,oI (aQ n) k (by omega),_,B0 (eK (aQ n) k) (by omega),⟨rfl,by first|rfl|trivial⟩⟩).run
theorem Fb (n:List (List Key)) (k:Key) (hb:n.length≤1073740000) (hl:tot bB n≤1073740000):aa C rW [fC n,Ab k] (Ss (cc n k)) []:=by
 have hs: ∀s∈n,s.length≤1073741824:=fun s hm=>by have:=mF (w:=bB) hm;unfold bB at this hl;omega
 have hcp:=pZ n (by omega) hs
 have hXl:=Cs n k
 have hXt:=Ct n k
 have tail: ∀(X:List (List Key)) (Q:QV),X=iV n k→Q (Ss (cc n k)) []→ ∃(b18:Bool),aa C bh ([TV.ag [TC.sub 1 (X.map bX)]]) (TV.c (iB b18)) []∧(aD b18 (Q (TV.tu [(1,[TC.sub 1 (X.map bX)]),(0,[iB true])]) ([])) (∃(l19:RR),aa C c8 ([TV.ag [TC.sub 1 (n.map bX)],Ab k]) (TV.c (TC.sub 5 l19)) []∧(∃(l20:RR),aa C bP ([TV.c (TC.sub 5 l19)]) (TV.ag [TC.sub 1 l20]) []∧(aD (bG 8 (Int.ofNat (List.length l19))) (∃(l21:RR),aa C aR ([TV.ag [TC.sub 1 (n.map bX)]]) (TV.ag [TC.sub 1 l21]) []∧(Q (TV.tu [(1,[TC.sub 1 l21]),(0,[iB false])]) ([]))) (∃(b22:Bool),aa C bh ([TV.ag [TC.sub 1 l20]]) (TV.c (iB b22)) []∧(aD (!b22) (∃(l23:RR),aa C aR ([TV.ag [TC.sub 1 (n.map bX)]]) (TV.ag [TC.sub 1 l23]) []∧(Q (TV.tu [(1,[TC.sub 1 l23]),(0,[iB false])]) ([]))) (Q (TV.tu [(1,[TC.sub 1 l20]),(0,[iB true])]) ([])))))))):=by
  intro X Q hX hQ
  rw[←hX] at hXl hXt
  have hok:aa C bh [fC X] (vB (eM X)) []:=q8 X (by omega) (by omega)
  have hkl:=nD n k
  have hnl:=ue (cm n k)
  have hnt:=uf (cm n k)
  have hok2:aa C bh [fC (cv (cm n k))] (vB (eM (cv (cm n k)))) []:=q8 _ (by omega) (by omega)
  refine⟨_,hok,?_⟩
  unfold cc at hQ
  rw[←hX] at hQ
  cases h1:eM X with
  |true=>
   rw[if_pos h1] at hQ
   exact ai rfl hQ
  |false=>
   rw[if_neg (by rw[h1];simp)] at hQ
   refine au rfl ⟨_,ux n k (by omega) (by omega),_,mI (cm n k) (by omega),?_⟩
   by_cases h2:8<(cm n k).length
   ·rw[if_pos h2] at hQ
    exact ai (by simp<;>omega) ⟨_,hcp,hQ⟩
   ·rw[if_neg h2] at hQ
    refine au (by simp<;>omega) ⟨_,hok2,?_⟩
    cases h3:eM (cv (cm n k)) with
    |true=>
     rw[if_pos h3] at hQ
     exact au rfl hQ
    |false=>
     rw[if_neg (by rw[h3];simp)] at hQ
     exact ai rfl ⟨_,hcp,hQ⟩
 refine(Kv _ _ _ _ _ _ _ ⟨_,hcp,?_⟩).run
 rw[List.length_map]
 cases hlast:n[n.length-1]? with
 |none=>
  have h0:n.length=0:=Classical.byContradiction fun h=>by rw[List.getElem?_eq_getElem (by omega)] at hlast;cases hlast
  have hX:n++[[k]]=iV n k:=by unfold iV;rw[hlast]
  refine au (by rw[h0,dz (by simp)];simp) ((ai (cZ (by simp<;>omega)) ?_))
  rw[show List.append (n.map bX) [[TC.sub 5 [[iI k.b,iI k.a,iI k.k,iI k.c,iI k.g]]]]=(n++[[k]]).map bX from by simp[bX,bN]]
  exact tail _ (fun r fs=>r=Ss (cc n k)∧fs=[]) hX ⟨rfl,by first|rfl|trivial⟩
 |some s=>
  have hlt:=(List.getElem?_eq_some_iff.1 hlast).1
  have hsub:cQ (Int.ofNat n.length) 1=((n.length-1:Nat):Int):=by rw[dz (by simp<;>omega)];simp;omega
  have hrow:rowAt (n.map bX) ((n.length-1:Nat):Int)=some [TC.sub 5 (s.map bN)]:=by rw[bM,aL,hlast];rfl
  have hsl:=hs s (List.mem_of_getElem? hlast)
  have hset:setRow (n.map bX) ((n.length-1:Nat):Int) 0 [TC.sub 5 ((eK s k).map bN)]=(n.set (n.length-1) (eK s k)).map bX:=JI (a:=s) (a':=eK s k) hlast rfl
  have happ:List.append (n.map bX) [[TC.sub 5 [[iI k.b,iI k.a,iI k.k,iI k.c,iI k.g]]]]=(n++[[k]]).map bX:=by simp[bX,bN]
  have hfit:fits (Nat.succ n.length) 24=true:=cZ (by simp<;>omega)
  rw[hsub]
  refine ai (by simp) ⟨_,hrow,?_⟩
  have key: ∀Q:QV,Q (Ss (cc n k)) []→ ∃(n8:Int) (n9:Int) (n10:Int) (n11:Int) (n12:Int) (b13:Bool),aa C eE ([TV.c (TC.sub 5 (s.map bN)),TV.c (iI k.b),TV.c (iI k.a)]) (TV.tu [(1,[iI n8,iI n9,iI n10,iI n11,iI n12]),(0,[iB b13])]) []∧(aD b13 (∃(l14:RR),rowAt (n.map bX) ((n.length-1:Nat):Int)=some [TC.sub 5 l14]∧(∃(l15:RR),aa C cw ([TV.c (TC.sub 5 l14),Ab k]) (TV.c (TC.sub 5 l15)) []∧(∃(l16:RR),rowAt (n.map bX) ((n.length-1:Nat):Int)=some [TC.sub 5 l16]∧(∃(l17:RR),rowAt (n.map bX) ((n.length-1:Nat):Int)=some [TC.sub 5 l17]∧(∃(b18:Bool),aa C bh ([TV.ag [TC.sub 1 (setRow (n.map bX) ((n.length-1:Nat):Int) 0 [TC.sub 5 l15])]]) (TV.c (iB b18)) []∧(aD b18 (Q (TV.tu [(1,[TC.sub 1 (setRow (n.map bX) ((n.length-1:Nat):Int) 0 [TC.sub 5 l15])]),(0,[iB true])]) ([])) (∃(l19:RR),aa C c8 ([TV.ag [TC.sub 1 (n.map bX)],Ab k]) (TV.c (TC.sub 5 l19)) []∧(∃(l20:RR),aa C bP ([TV.c (TC.sub 5 l19)]) (TV.ag [TC.sub 1 l20]) []∧(aD (bG 8 (Int.ofNat (List.length l19))) (∃(l21:RR),aa C aR ([TV.ag [TC.sub 1 (n.map bX)]]) (TV.ag [TC.sub 1 l21]) []∧(Q (TV.tu [(1,[TC.sub 1 l21]),(0,[iB false])]) ([]))) (∃(b22:Bool),aa C bh ([TV.ag [TC.sub 1 l20]]) (TV.c (iB b22)) []∧(aD (!b22) (∃(l23:RR),aa C aR ([TV.ag [TC.sub 1 (n.map bX)]]) (TV.ag [TC.sub 1 l23]) []∧(Q (TV.tu [(1,[TC.sub 1 l23]),(0,[iB false])]) ([]))) (Q (TV.tu [(1,[TC.sub 1 l20]),(0,[iB true])]) ([])))))))))))))
   (∃(l24:RR),rowAt (n.map bX) ((n.length-1:Nat):Int)=some [TC.sub 5 l24]∧(aD (bG (Int.ofNat (List.length l24)) 4) (∃(l25:RR),rowAt (n.map bX) ((n.length-1:Nat):Int)=some [TC.sub 5 l25]∧(∃(l26:RR),aa C cw ([TV.c (TC.sub 5 l25),Ab k]) (TV.c (TC.sub 5 l26)) []∧(∃(l27:RR),rowAt (n.map bX) ((n.length-1:Nat):Int)=some [TC.sub 5 l27]∧(∃(l28:RR),rowAt (n.map bX) ((n.length-1:Nat):Int)=some [TC.sub 5 l28]∧(∃(b18:Bool),aa C bh ([TV.ag [TC.sub 1 (setRow (n.map bX) ((n.length-1:Nat):Int) 0 [TC.sub 5 l26])]]) (TV.c (iB b18)) []∧(aD b18 (Q (TV.tu [(1,[TC.sub 1 (setRow (n.map bX) ((n.length-1:Nat):Int) 0 [TC.sub 5 l26])]),(0,[iB true])]) ([])) (∃(l19:RR),aa C c8 ([TV.ag [TC.sub 1 (n.map bX)],Ab k]) (TV.c (TC.sub 5 l19)) []∧(∃(l20:RR),aa C bP ([TV.c (TC.sub 5 l19)]) (TV.ag [TC.sub 1 l20]) []∧(aD (bG 8 (Int.ofNat (List.length l19))) (∃(l21:RR),aa C aR ([TV.ag [TC.sub 1 (n.map bX)]]) (TV.ag [TC.sub 1 l21]) []∧(Q (TV.tu [(1,[TC.sub 1 l21]),(0,[iB false])]) ([]))) (∃(b22:Bool),aa C bh ([TV.ag [TC.sub 1 l20]]) (TV.c (iB b22)) []∧(aD (!b22) (∃(l23:RR),aa C aR ([TV.ag [TC.sub 1 (n.map bX)]]) (TV.ag [TC.sub 1 l23]) []∧(Q (TV.tu [(1,[TC.sub 1 l23]),(0,[iB false])]) ([]))) (Q (TV.tu [(1,[TC.sub 1 l20]),(0,[iB true])]) ([]))))))))))))) (aD (fits (Nat.succ (List.length n)) 24) (∃(b18:Bool),aa C bh ([TV.ag [TC.sub 1 (List.append (n.map bX) [[TC.sub 5 [[iI k.b,iI k.a,iI k.k,iI k.c,iI k.g]]]])]]) (TV.c (iB b18)) []∧(aD b18 (Q (TV.tu [(1,[TC.sub 1 (List.append (n.map bX) [[TC.sub 5 [[iI k.b,iI k.a,iI k.k,iI k.c,iI k.g]]]])]),(0,[iB true])]) ([])) (∃(l19:RR),aa C c8 ([TV.ag [TC.sub 1 (n.map bX)],Ab k]) (TV.c (TC.sub 5 l19)) []∧(∃(l20:RR),aa C bP ([TV.c (TC.sub 5 l19)]) (TV.ag [TC.sub 1 l20]) []∧(aD (bG 8 (Int.ofNat (List.length l19))) (∃(l21:RR),aa C aR ([TV.ag [TC.sub 1 (n.map bX)]]) (TV.ag [TC.sub 1 l21]) []∧(Q (TV.tu [(1,[TC.sub 1 l21]),(0,[iB false])]) ([]))) (∃(b22:Bool),aa C bh ([TV.ag [TC.sub 1 l20]]) (TV.c (iB b22)) []∧(aD (!b22) (∃(l23:RR),aa C aR ([TV.ag [TC.sub 1 (n.map bX)]]) (TV.ag [TC.sub 1 l23]) []∧(Q (TV.tu [(1,[TC.sub 1 l23]),(0,[iB false])]) ([]))) (Q (TV.tu [(1,[TC.sub 1 l20]),(0,[iB true])]) ([]))))))))) (False))))):=by
   intro Q hQ
   refine⟨_,_,_,_,_,_,A9 s k.b k.a hsl,?_⟩
   cases h1:(wk s k.b k.a).2 with
   |true=>
    have hX:n.set (n.length-1) (eK s k)=iV n k:=by unfold iV Cr;rw[hlast];simp[h1]
    refine ai rfl ⟨_,hrow,_,oI s k hsl,_,hrow,_,hrow,?_⟩
    rw[hset]
    exact tail _ _ hX hQ
   |false=>
    refine au rfl ⟨_,hrow,?_⟩
    by_cases h2:s.length<4
    ·have hX:n.set (n.length-1) (eK s k)=iV n k:=by unfold iV Cr;rw[hlast];simp[h1,h2]
     refine ai (by simp<;>omega) ⟨_,hrow,_,oI s k hsl,_,hrow,_,hrow,?_⟩
     rw[hset]
     exact tail _ _ hX hQ
    ·have hX:n++[[k]]=iV n k:=by unfold iV Cr;rw[hlast];simp[h1,h2]
     refine au (by simp<;>omega) (ai hfit ?_)
     rw[happ]
     exact tail _ _ hX hQ
  exact⟨(Ss (cc n k),[]),key (fun a b=>(a,b)=(Ss (cc n k),([]:List TV))) rfl,key (fun a b=>(a,b)=(Ss (cc n k),([]:List TV))) rfl,⟨rfl,rfl⟩⟩
theorem Fc (n:List (List Key)) (k:Key) (hb:n.length≤1073740000) (hl:tot bB n≤1073740000):aa C rV [fC n,Ab k] (Ss (cc n k)) []:=by
 have hs: ∀s∈n,s.length≤1073741824:=fun s hm=>by have:=mF (w:=bB) hm;unfold bB at this hl;omega
 have hcp:=ru n (by omega) hs
 have hXl:=Cs n k
 have hXt:=Ct n k
 have tail: ∀(X:List (List Key)) (Q:QV),X=iV n k→Q (Ss (cc n k)) []→ ∃(b22:Bool),aa C bE ([TV.ag [TC.sub 1 (X.map bX)]]) (TV.c (iB b22)) []∧(aD b22 (Q (TV.tu [(1,[TC.sub 1 (X.map bX)]),(0,[iB true])]) ([])) (∃(l23:RR),aa C aI ([TV.ag [TC.sub 1 (n.map bX)]]) (TV.c (TC.sub 5 l23)) []∧(∃(l24:RR),aa C aZ ([TV.c (TC.sub 5 l23),Ab k]) (TV.c (TC.sub 5 l24)) []∧(∃(l25:RR),aa C bS ([TV.c (TC.sub 5 l24)]) (TV.c (TC.sub 5 l25)) []∧(aD (bG 8 (Int.ofNat (List.length l25))) (∃(l26:RR),aa C bw ([TV.ag [TC.sub 1 (n.map bX)]]) (TV.ag [TC.sub 1 l26]) []∧(Q (TV.tu [(1,[TC.sub 1 l26]),(0,[iB false])]) ([]))) (∃(l27:RR),aa C az ([TV.c (TC.sub 5 l25)]) (TV.ag [TC.sub 1 l27]) []∧(∃(b28:Bool),aa C bE ([TV.ag [TC.sub 1 l27]]) (TV.c (iB b28)) []∧(aD (!b28) (∃(l29:RR),aa C bw ([TV.ag [TC.sub 1 (n.map bX)]]) (TV.ag [TC.sub 1 l29]) []∧(Q (TV.tu [(1,[TC.sub 1 l29]),(0,[iB false])]) ([]))) (∃(l30:RR),aa C az ([TV.c (TC.sub 5 l25)]) (TV.ag [TC.sub 1 l30]) []∧(Q (TV.tu [(1,[TC.sub 1 l30]),(0,[iB true])]) ([]))))))))))):=by
  intro X Q hX hQ
  rw[←hX] at hXl hXt
  have hok:aa C bE [fC X] (vB (eM X)) []:=q7 X (by omega) (by omega)
  have hkl:=nD n k
  have hnl:=ue (cm n k)
  have hnt:=uf (cm n k)
  have hok2:aa C bE [fC (cv (cm n k))] (vB (eM (cv (cm n k)))) []:=q7 _ (by omega) (by omega)
  refine⟨_,hok,?_⟩
  unfold cc at hQ
  rw[←hX] at hQ
  cases h1:eM X with
  |true=>
   rw[if_pos h1] at hQ
   exact ai rfl hQ
  |false=>
   rw[if_neg (by rw[h1];simp)] at hQ
   have g1:=cM n
   have g2:=ng (aQ n) k
   refine au rfl ⟨_,(dW n (by omega) (by omega) _).2 rfl,_,lK (aQ n) k (by omega),_,vK (eK (aQ n) k) (by omega),?_⟩
   change aD (bG 8 (Int.ofNat (List.length ((cm n k).map bN)))) _ _
   by_cases h2:8<(cm n k).length
   ·rw[if_pos h2] at hQ
    exact ai (by simp<;>omega) ⟨_,hcp,hQ⟩
   ·rw[if_neg h2] at hQ
    refine au (by simp<;>omega) ⟨_,iw (cm n k) (by omega),_,hok2,?_⟩
    cases h3:eM (cv (cm n k)) with
    |true=>
     rw[if_pos h3] at hQ
     exact au rfl ⟨_,iw (cm n k) (by omega),hQ⟩
    |false=>
     rw[if_neg (by rw[h3];simp)] at hQ
     exact ai rfl ⟨_,hcp,hQ⟩
 refine(KF _ _ _ _ _ _ _ ⟨_,hcp,?_⟩).run
 rw[List.length_map]
 cases hlast:n[n.length-1]? with
 |none=>
  have h0:n.length=0:=Classical.byContradiction fun h=>by rw[List.getElem?_eq_getElem (by omega)] at hlast;cases hlast
  have hX:n++[[k]]=iV n k:=by unfold iV;rw[hlast]
  refine au (by rw[h0,dz (by simp)];simp) (au (by rw[h0,dz (by simp)];simp) (ai (cZ (by simp<;>omega)) ?_))
  rw[show List.append (n.map bX) [[TC.sub 5 [[iI k.b,iI k.a,iI k.k,iI k.c,iI k.g]]]]=(n++[[k]]).map bX from by simp[bX,bN]]
  exact tail _ (fun r fs=>r=Ss (cc n k)∧fs=[]) hX ⟨rfl,by first|rfl|trivial⟩
 |some s=>
  have hlt:=(List.getElem?_eq_some_iff.1 hlast).1
  have hsub:cQ (Int.ofNat n.length) 1=((n.length-1:Nat):Int):=by rw[dz (by simp<;>omega)];simp;omega
  have hrow:rowAt (n.map bX) ((n.length-1:Nat):Int)=some [TC.sub 5 (s.map bN)]:=by rw[bM,aL,hlast];rfl
  have hsl:=hs s (List.mem_of_getElem? hlast)
  have hset:setRow (n.map bX) ((n.length-1:Nat):Int) 0 [TC.sub 5 ((eK s k).map bN)]=(n.set (n.length-1) (eK s k)).map bX:=JI (a:=s) (a':=eK s k) hlast rfl
  have happ:List.append (n.map bX) [[TC.sub 5 [[iI k.b,iI k.a,iI k.k,iI k.c,iI k.g]]]]=(n++[[k]]).map bX:=by simp[bX,bN]
  have hfit:fits (Nat.succ n.length) 24=true:=cZ (by simp<;>omega)
  rw[hsub]
  refine ai (by simp) ⟨_,hrow,_,hrow,_,_,_,_,_,_,A8 s k.b k.a hsl,ai (by simp) ⟨_,hrow,_,hrow,?_⟩⟩
  by_cases h2:s.length<4
  ·have hX:n.set (n.length-1) (eK s k)=iV n k:=by unfold iV Cr;rw[hlast];simp[h2]
   refine ai (by simp<;>omega) ⟨_,hrow,_,hrow,_,lK s k hsl,_,hrow,_,hrow,?_⟩
   rw[hset]
   exact tail _ (fun r fs=>r=Ss (cc n k)∧fs=[]) hX ⟨rfl,by first|rfl|trivial⟩
  ·refine au (by simp<;>omega) ?_
   cases h1:(wk s k.b k.a).2 with
   |true=>
    have hX:n.set (n.length-1) (eK s k)=iV n k:=by unfold iV Cr;rw[hlast];simp[h1]
    refine ai rfl ⟨_,hrow,_,hrow,_,lK s k hsl,_,hrow,_,hrow,?_⟩
    rw[hset]
    exact tail _ (fun r fs=>r=Ss (cc n k)∧fs=[]) hX ⟨rfl,by first|rfl|trivial⟩
   |false=>
    have hX:n++[[k]]=iV n k:=by unfold iV Cr;rw[hlast];simp[h1,h2]
    refine au rfl (ai hfit ?_)
    rw[happ]
    exact tail _ (fun r fs=>r=Ss (cc n k)∧fs=[]) hX ⟨rfl,by first|rfl|trivial⟩
theorem sO (t:Tree) (i:Nat) (lw:List Int) (nd:List (List (List Key))) (h1:i+1≤t.lows.length) (h2:i+1≤t.nodes.length) (hl:t.lows.length≤1073741824) (hn:t.nodes.length≤1073741824) (hlw:lw.length≤1073741824) (hnd:nd.length≤1073741824):aa C aF [dD t,vI (i:Int),qd lw,sE nd] (dD (jN t i 1 lw nd)) []:=by
 have e1:ax (t.lows.map bO) 0 (i:Int)=(t.lows.take i).map bO:=by rw[cP];rfl
 have e2:ax (t.lows.map bO) ((i:Int)+1) (Int.ofNat (t.lows.map bO).length)=(t.lows.drop (i+1)).map bO:=by
  rw[cP,List.length_map,show((i:Int)+1).toNat=i+1 from by omega,show(Int.ofNat t.lows.length).toNat=t.lows.length from rfl,List.take_length]
 have e3:ax (t.nodes.map aW) 0 (i:Int)=(t.nodes.take i).map aW:=by rw[cP];rfl
 have ea:aA (i:Int) 1=(i:Int)+1:=aJ (by omega)
 have k1:(t.lows.take i).length≤t.lows.length:=by rw[List.length_take];omega
 have k2:(t.lows.drop (i+1)).length≤t.lows.length:=by rw[List.length_drop];omega
 have k3:(t.nodes.take i).length≤t.nodes.length:=by rw[List.length_take];omega
 have k4:(t.nodes.drop (i+1)).length≤t.nodes.length:=by rw[List.length_drop];omega
 have e4:ax (t.nodes.map aW) ((i:Int)+1) (Int.ofNat (t.nodes.map aW).length)=(t.nodes.drop (i+1)).map aW:=by
  rw[cP,List.length_map,show((i:Int)+1).toNat=i+1 from by omega,show(Int.ofNat t.nodes.length).toNat=t.nodes.length from rfl,List.take_length]
 refine(Oi _ _ _ _ _ _ ?_).run
 rw[ea,e1,e2,e3,e4,jm,jm,jm,jm]
 refine ai (by simp<;>omega) (ai (by simp<;>omega) (ai (by rw[jA,cZ (by simp<;>omega)];rfl) (ai (by rw[jA,cZ (by simp only[List.length_map,Nat.add_eq];omega)];rfl) (ai (by rw[jA,cZ (by simp only[List.length_map,List.length_append,Nat.add_eq];omega)];rfl)
  (ai (by simp<;>omega) (ai (by simp<;>omega) (ai (cZ (by simp<;>omega)) (ai (cZ (by simp only[List.length_map,Nat.add_eq];omega)) (ai (cZ (by simp only[List.length_map,List.length_append,Nat.add_eq];omega)) ?_)))))))))
 exact⟨rfl,by first|rfl|trivial⟩
attribute [local semireducible] gC ax in
theorem SB {rows:RR} {i c:Nat} (hk:i+c≤rows.length):ax (gC 1 rows 0 (i:Int)) ((i:Int)+(c:Int)) (Int.ofNat rows.length)=rows.drop (i+c):=by
 unfold ax gC
 rw[Int.toNat_natCast,show((i:Int)+(c:Int)).toNat=i+c from by omega,show(0:Int).toNat=0 from rfl,show(Int.ofNat rows.length).toNat=rows.length from rfl,List.take_zero,List.nil_append,Nat.sub_zero]
 rw[List.take_of_length_le (by simp<;>omega),List.drop_append,List.length_replicate,List.drop_of_length_le (by simp),List.nil_append,List.drop_drop]
 congr 1;omega
theorem p5 (t:Tree) (i c:Nat) (lw:List Int) (nd:List (List (List Key))) (h1:i+c≤t.lows.length) (h2:i+c≤t.nodes.length) (hl:t.lows.length≤1073741824) (hn:t.nodes.length≤1073741824) (hlw:lw.length≤1073741824) (hnd:nd.length≤1073741824):aa C dy [dD t,vI (i:Int),vI (c:Int),qd lw,sE nd] (dD (jN t i c lw nd)) []:=by
 have e1:ax (t.lows.map bO) 0 (i:Int)=(t.lows.take i).map bO:=by rw[cP];rfl
 have e2:ax (t.lows.map bO) ((i:Int)+(c:Int)) (Int.ofNat (t.lows.map bO).length)=(t.lows.drop (i+c)).map bO:=by
  rw[cP,List.length_map,show((i:Int)+(c:Int)).toNat=i+c from by omega,show(Int.ofNat t.lows.length).toNat=t.lows.length from rfl,List.take_length]
 have e3:ax (t.nodes.map aW) 0 (i:Int)=(t.nodes.take i).map aW:=by rw[cP];rfl
 have ea:aA (i:Int) (c:Int)=(i:Int)+(c:Int):=aJ (by omega)
 have k1:(t.lows.take i).length≤t.lows.length:=by rw[List.length_take];omega
 have k2:(t.lows.drop (i+c)).length≤t.lows.length:=by rw[List.length_drop];omega
 have k3:(t.nodes.take i).length≤t.nodes.length:=by rw[List.length_take];omega
 have k4:(t.nodes.drop (i+c)).length≤t.nodes.length:=by rw[List.length_drop];omega
 have e4:ax (gC 1 (t.nodes.map aW) 0 (i:Int)) ((i:Int)+(c:Int)) (Int.ofNat (t.nodes.map aW).length)=(t.nodes.drop (i+c)).map aW:=by
  rw[SB (by rw[List.length_map];exact h2),List.map_drop]
 refine(Ix _ _ _ _ _ _ _ ?_).run
 rw[ea,e1,e2,e3,e4]
 refine ai (by simp<;>omega) ⟨_,ur (t.lows.take i) (by omega),?_⟩
 rw[jm,jm,jm,jm]
 refine ai (by simp<;>omega) (ai (by rw[jA,cZ (by simp only[List.length_map,Nat.add_eq];omega)];rfl) (ai (by rw[jA,cZ (by simp only[List.length_map,List.length_append,Nat.add_eq];omega)];rfl)
  (ai (by simp<;>omega) (ai (by simp<;>omega) (ai (cZ (by simp<;>omega)) (ai (cZ (by simp only[List.length_map,Nat.add_eq];omega)) (ai (cZ (by simp only[List.length_map,List.length_append,Nat.add_eq];omega)) ?_)))))))
 exact⟨rfl,by first|rfl|trivial⟩
def MZ:Option Nat→Int
 |some i=>i
 |none=> -1
theorem ry (t:Tree) (hn:t.nodes.length≤1073741824) (hz:tot aP t.nodes≤1073740000):aa C fR [dD t] (vI (MZ (oe t))) []:=by
 refine(Mi _ _ _ ?_).run
 have key: ∀(d i:Nat),i+d=t.nodes.length→qN t d i=oe t→ah C fR aj 4 0 (oX (i:Int) (t.lows.map bO) (t.nodes.map aW)) (fun x st=>aG C fR aj x st fun r fs=>r=vI (MZ (oe t))∧fs=[]):=by
  intro d
  induction d with
  |zero=>
   intro i h he
   have ea:aA (i:Int) 1=(i:Int)+1:=aJ (by omega)
   refine z5 _ _ _ _ ?_
   rw[ea]
   exact au (by simp<;>omega) (z6 _ _ _ _ _ ⟨by rw[←he];rfl,rfl⟩)
  |succ d ih=>
   intro i h he
   have ea:aA (i:Int) 1=(i:Int)+1:=aJ (by omega)
   have ec:(i:Int)+1=((i+1:Nat):Int):=by omega
   unfold qN at he
   refine z5 _ _ _ _ ?_
   rw[ea,ec]
   by_cases h1:i+1<t.nodes.length
   ·rw[if_pos h1] at he
    obtain⟨a,ha⟩: ∃a,t.nodes[i]?=some a:=⟨_,List.getElem?_eq_getElem (by omega)⟩
    obtain⟨b,hb⟩: ∃b,t.nodes[i+1]?=some b:=⟨_,List.getElem?_eq_getElem h1⟩
    have za:a.length+tot bB a≤tot aP t.nodes:=jM (w:=aP) ha
    have zb:b.length+tot bB b≤tot aP t.nodes:=jM (w:=aP) hb
    have ka:ic t i=aQ a:=by unfold ic;rw[List.getD_eq_getElem?_getD,ha];rfl
    have kb:ic t (i+1)=aQ b:=by unfold ic;rw[List.getD_eq_getElem?_getD,hb];rfl
    have la:=cM a
    have lb:=cM b
    rw[ka,kb] at he
    refine ai (by simp<;>omega) ⟨_,by rw[bM,aL,ha];rfl,_,by rw[bM,aL,hb];rfl,_,(dW a (by omega) (by omega) _).2 rfl,_,(dW b (by omega) (by omega) _).2 rfl,?_⟩
    rw[List.length_map,List.length_map,show aA (Int.ofNat (aQ a).length) (Int.ofNat (aQ b).length)=((aQ a).length:Int)+(aQ b).length from aJ (by simp<;>omega)]
    by_cases h2:(aQ a).length+(aQ b).length≤6
    ·rw[if_pos h2] at he
     exact ai (by simp<;>omega) (ID _ _ _ _ _ _ ⟨by rw[←he];rfl,rfl⟩)
    ·rw[if_neg h2] at he
     exact au (by simp<;>omega) (ih (i+1) (by omega) he)
   ·rw[if_neg h1] at he
    exact au (by simp<;>omega) (z6 _ _ _ _ _ ⟨by rw[←he];rfl,rfl⟩)
 exact key t.nodes.length 0 (by omega) rfl
theorem GW (t0:Tree) (hw0:t0.lows.length=t0.nodes.length) (hz0:tot aP t0.nodes+t0.nodes.length≤1073700000):aa C aq [dD t0] (dD (jO t0.nodes.length t0)) []:=by
 refine(LG _ _ _ ⟨_,ry t0 (by omega) (by omega),?_⟩).run
 have key: ∀(m:Nat) (t:Tree),t.nodes.length=m→t.lows.length=t.nodes.length→tot aP t.nodes+t.nodes.length≤1073700000→jO m t=jO t0.nodes.length t0→ah C aq aj 4 0 (lQ (MZ (oe t)) (t.lows.map bO) (t.nodes.map aW)) (fun x st=>aG C aq aj x st fun r fs=>r=dD (jO t0.nodes.length t0)∧fs=[]):=by
  intro m
  induction m with
  |zero=>
   intro t hm hw hz he
   have hp:oe t=none:=by unfold oe;rw[hm];rfl
   rw[hp]
   exact rB _ _ _ _ (au (by simp[MZ]) (zB _ _ _ _ _ ⟨by rw[←he];rfl,rfl⟩))
  |succ m ih=>
   intro t hm hw hz he
   rw[qy] at he
   cases hp:oe t with
   |none=>
    rw[hp] at he
    have he:t=jO t0.nodes.length t0:=he
    exact rB _ _ _ _ (au (by simp[MZ]) (zB _ _ _ _ _ ⟨by rw[←he],rfl⟩))
   |some i=>
   rw[hp] at he
   have he:jO m (cC t i)=jO t0.nodes.length t0:=he
   have hlt:=qx hp
   show ah C aq aj 4 0 (lQ (i:Int) (t.lows.map bO) (t.nodes.map aW)) _
   obtain⟨a,ha⟩: ∃a,t.nodes[i]?=some a:=⟨_,List.getElem?_eq_getElem (by omega)⟩
   obtain⟨b,hb⟩: ∃b,t.nodes[i+1]?=some b:=⟨_,List.getElem?_eq_getElem hlt.1⟩
   have za:a.length+tot bB a≤tot aP t.nodes:=jM (w:=aP) ha
   have zb:b.length+tot bB b≤tot aP t.nodes:=jM (w:=aP) hb
   have la:=cM a
   have lb:=cM b
   have h6:=hlt.2
   rw[gi ha,gi hb] at h6
   have ea:aA (i:Int) 1=((i+1:Nat):Int):=by rw[aJ (by omega)];omega
   have eb:aA (i:Int) 2=((i+2:Nat):Int):=by rw[aJ (by omega)];omega
   have ra:rowAt (t.nodes.map aW) (i:Int)=some [TC.sub 1 (a.map bX)]:=by rw[bM,aL,ha];rfl
   have rb:rowAt (t.nodes.map aW) ((i+1:Nat):Int)=some [TC.sub 1 (b.map bX)]:=by rw[bM,aL,hb];rfl
   have c1:ax (t.lows.map bO) 0 ((i+1:Nat):Int)=(t.lows.take (i+1)).map bO:=by rw[cP];rfl
   have c2:ax (t.lows.map bO) ((i+2:Nat):Int) (Int.ofNat (t.lows.map bO).length)=(t.lows.drop (i+2)).map bO:=by
    rw[cP,List.length_map,Int.toNat_natCast,show(Int.ofNat t.lows.length).toNat=t.lows.length from rfl,List.take_length]
   have c3:ax (t.nodes.map aW) 0 (i:Int)=(t.nodes.take i).map aW:=by rw[cP];rfl
   have c4:ax (t.nodes.map aW) ((i+2:Nat):Int) (Int.ofNat (t.nodes.map aW).length)=(t.nodes.drop (i+2)).map aW:=by
    rw[cP,List.length_map,Int.toNat_natCast,show(Int.ofNat t.nodes.length).toNat=t.nodes.length from rfl,List.take_length]
   have hlo:i<t.lows.length:=by omega
   have eL:List.append ((t.lows.take (i+1)).map bO) ((t.lows.drop (i+2)).map bO)=(cC t i).lows.map bO:=by
    rw[jm]
    unfold cC jN
    simp only[]
    rw[List.take_add_one,List.getD_eq_getElem?_getD,List.getElem?_eq_getElem hlo]
    simp
   have eN:List.append (List.append ((t.nodes.take i).map aW) [[TC.sub 1 ((cv (aQ a++aQ b)).map bX)]]) ((t.nodes.drop (i+2)).map aW)=(cC t i).nodes.map aW:=by
    rw[DB,jm]
    unfold cC jN
    simp only[]
    rw[gi ha,gi hb]
   have hsz:=uh hlt.1
   have hjl:=rU hlt.1
   have hjw:(cC t i).lows.length+1=t.lows.length:=by
    have:=xW t i 2 [t.lows.getD i 0] [cv (ic t i++ic t (i+1))] (by omega)
    unfold cC
    simp only[List.length_singleton] at this
    omega
   have k1:(t.lows.take (i+1)).length≤t.lows.length:=by rw[List.length_take];omega
   have k2:(t.lows.drop (i+2)).length≤t.lows.length:=by rw[List.length_drop];omega
   have k3:(t.nodes.take i).length≤t.nodes.length:=by rw[List.length_take];omega
   have k4:(t.nodes.drop (i+2)).length≤t.nodes.length:=by rw[List.length_drop];omega
   refine rB _ _ _ _ (ai (by simp) ?_)
   rw[ea,eb]
   refine⟨_,ra,_,ra,_,rb,_,rb,_,(dW a (by omega) (by omega) _).2 rfl,_,(dW b (by omega) (by omega) _).2 rfl,?_⟩
   rw[jm,c1,c2,c3,c4]
   refine ai (by rw[jB,cZ (by simp only[List.length_map,Nat.add_eq];omega)];rfl) (ai (by simp<;>omega) (ai (by simp<;>omega) (ai (by rw[jA,cZ (by simp only[List.length_map,Nat.add_eq];omega)];rfl) (ai (by rw[jA,cZ (by simp only[List.length_map,Nat.add_eq];omega)];rfl)
    (ai (by simp<;>omega) (ai (by simp<;>omega) (ai (cZ (by simp only[List.length_map,Nat.add_eq];omega)) ⟨_,iw (aQ a++aQ b) (by rw[List.length_append];omega),ai (cZ (by simp only[List.length_map,Nat.succ_eq_add_one];omega)) ?_⟩)))))))
   rw[eL,eN]
   refine ai (cZ (by rw[DB];simp only[List.length_map,List.length_append,List.length_singleton,Nat.add_eq];omega)) ⟨_,ry (cC t i) (by omega) (by omega),?_⟩
   exact ih (cC t i) (by omega) (by omega) (by omega) he
 cases hp:oe t0 with
 |none=>
  have hj:jO t0.nodes.length t0=t0:=by
   cases hm:t0.nodes.length with
   |zero=>rfl
   |succ m=>rw[qy,hp]
  exact zA _ _ _ _ (au (by simp[MZ]) (HG _ _ _ _ _ ⟨by rw[hj],rfl⟩))
 |some i=>
  have hlt:=qx hp
  obtain⟨t,ht⟩: ∃t,t=t0:=⟨_,rfl⟩
  rw[←ht] at hlt hw0 hz0 hp ⊢
  show ah C aq aj 4 0 (rz (i:Int) (t.lows.map bO) (t.nodes.map aW)) _
  obtain⟨a,ha⟩: ∃a,t.nodes[i]?=some a:=⟨_,List.getElem?_eq_getElem (by omega)⟩
  obtain⟨b,hb⟩: ∃b,t.nodes[i+1]?=some b:=⟨_,List.getElem?_eq_getElem hlt.1⟩
  have za:a.length+tot bB a≤tot aP t.nodes:=jM (w:=aP) ha
  have zb:b.length+tot bB b≤tot aP t.nodes:=jM (w:=aP) hb
  have la:=cM a
  have lb:=cM b
  have h6:=hlt.2
  rw[gi ha,gi hb] at h6
  have ea:aA (i:Int) 1=((i+1:Nat):Int):=by rw[aJ (by omega)];omega
  have eb:aA (i:Int) 2=((i+2:Nat):Int):=by rw[aJ (by omega)];omega
  have ra:rowAt (t.nodes.map aW) (i:Int)=some [TC.sub 1 (a.map bX)]:=by rw[bM,aL,ha];rfl
  have rb:rowAt (t.nodes.map aW) ((i+1:Nat):Int)=some [TC.sub 1 (b.map bX)]:=by rw[bM,aL,hb];rfl
  have c1:ax (t.lows.map bO) 0 ((i+1:Nat):Int)=(t.lows.take (i+1)).map bO:=by rw[cP];rfl
  have c2:ax (t.lows.map bO) ((i+2:Nat):Int) (Int.ofNat (t.lows.map bO).length)=(t.lows.drop (i+2)).map bO:=by
   rw[cP,List.length_map,Int.toNat_natCast,show(Int.ofNat t.lows.length).toNat=t.lows.length from rfl,List.take_length]
  have c3:ax (t.nodes.map aW) 0 (i:Int)=(t.nodes.take i).map aW:=by rw[cP];rfl
  have c4:ax (t.nodes.map aW) ((i+2:Nat):Int) (Int.ofNat (t.nodes.map aW).length)=(t.nodes.drop (i+2)).map aW:=by
   rw[cP,List.length_map,Int.toNat_natCast,show(Int.ofNat t.nodes.length).toNat=t.nodes.length from rfl,List.take_length]
  have hlo:i<t.lows.length:=by omega
  have eL:List.append ((t.lows.take (i+1)).map bO) ((t.lows.drop (i+2)).map bO)=(cC t i).lows.map bO:=by
   rw[jm]
   unfold cC jN
   simp only[]
   rw[List.take_add_one,List.getD_eq_getElem?_getD,List.getElem?_eq_getElem hlo]
   simp
  have eN:List.append (List.append ((t.nodes.take i).map aW) [[TC.sub 1 ((cv (aQ a++aQ b)).map bX)]]) ((t.nodes.drop (i+2)).map aW)=(cC t i).nodes.map aW:=by
   rw[DB,jm]
   unfold cC jN
   simp only[]
   rw[gi ha,gi hb]
  have hsz:=uh hlt.1
  have hjl:=rU hlt.1
  have hjw:(cC t i).lows.length+1=t.lows.length:=by
   have:=xW t i 2 [t.lows.getD i 0] [cv (ic t i++ic t (i+1))] (by omega)
   unfold cC
   simp only[List.length_singleton] at this
   omega
  have k1:(t.lows.take (i+1)).length≤t.lows.length:=by rw[List.length_take];omega
  have k2:(t.lows.drop (i+2)).length≤t.lows.length:=by rw[List.length_drop];omega
  have k3:(t.nodes.take i).length≤t.nodes.length:=by rw[List.length_take];omega
  have k4:(t.nodes.drop (i+2)).length≤t.nodes.length:=by rw[List.length_drop];omega
  refine zA _ _ _ _ (ai (by simp) ?_)
  rw[ea,eb]
  refine⟨_,ra,_,rb,_,(dW a (by omega) (by omega) _).2 rfl,_,(dW b (by omega) (by omega) _).2 rfl,?_⟩
  rw[jm,c1,c2,c3,c4]
  refine ai (by rw[jB,cZ (by simp only[List.length_map,Nat.add_eq];omega)];rfl) (ai (by simp<;>omega) (ai (by simp<;>omega) (ai (by rw[jA,cZ (by simp only[List.length_map,Nat.add_eq];omega)];rfl) (ai (by rw[jA,cZ (by simp only[List.length_map,Nat.add_eq];omega)];rfl)
   (ai (by simp<;>omega) (ai (by simp<;>omega) (ai (cZ (by simp only[List.length_map,Nat.add_eq];omega)) ⟨_,iw (aQ a++aQ b) (by rw[List.length_append];omega),ai (cZ (by simp only[List.length_map,Nat.succ_eq_add_one];omega)) ?_⟩)))))))
  rw[eL,eN]
  refine ai (cZ (by rw[DB];simp only[List.length_map,List.length_append,List.length_singleton,Nat.add_eq];omega)) ⟨_,ry (cC t i) (by omega) (by omega),?_⟩
  refine ht▸key (cC t i).nodes.length (cC t i) rfl (by omega) (by omega) ?_
  rw[←ht]
  have:t.nodes.length=(cC t i).nodes.length+1:=by omega
  rw[this]
  rw[qy,hp]
theorem Gu (t u:Tree) (hw:t.lows.length=t.nodes.length) (hz:tot aP t.nodes+t.nodes.length≤1073700000) (E:oe t=none→t=u)
 (N: ∀i,oe t=some i→ah C bU aj 4 0 (iL ((0:Nat):Int) ((cC t i).lows.map bO) ((cC t i).nodes.map aW)) (fun x st=>aG C bU aj x st fun r fs=>r=dD u∧fs=[])):
 ∀d i,i+d=t.nodes.length→qN t d i=oe t→ah C bU aj 4 0 (iL (i:Int) (t.lows.map bO) (t.nodes.map aW)) (fun x st=>aG C bU aj x st fun r fs=>r=dD u∧fs=[]):=by
 intro d
 induction d with
 |zero=>
  intro i h he
  have ea:aA (i:Int) 1=(i:Int)+1:=aJ (by omega)
  refine zI _ _ _ _ ?_
  rw[ea]
  exact au (by simp<;>omega) (zJ _ _ _ _ _ ⟨by rw[E (by rw[←he];rfl)],rfl⟩)
 |succ d ih=>
  intro i h he
  have ea:aA (i:Int) 1=(i:Int)+1:=aJ (by omega)
  have ec:(i:Int)+1=((i+1:Nat):Int):=by omega
  unfold qN at he
  refine zI _ _ _ _ ?_
  rw[ea,ec]
  by_cases h1:i+1<t.nodes.length
  ·rw[if_pos h1] at he
   obtain⟨a,ha⟩: ∃a,t.nodes[i]?=some a:=⟨_,List.getElem?_eq_getElem (by omega)⟩
   obtain⟨b,hb⟩: ∃b,t.nodes[i+1]?=some b:=⟨_,List.getElem?_eq_getElem h1⟩
   have za:a.length+tot bB a≤tot aP t.nodes:=jM (w:=aP) ha
   have zb:b.length+tot bB b≤tot aP t.nodes:=jM (w:=aP) hb
   have la:=cM a
   have lb:=cM b
   rw[gi ha,gi hb] at he
   have ra:rowAt (t.nodes.map aW) (i:Int)=some [TC.sub 1 (a.map bX)]:=by rw[bM,aL,ha];rfl
   have rb:rowAt (t.nodes.map aW) ((i+1:Nat):Int)=some [TC.sub 1 (b.map bX)]:=by rw[bM,aL,hb];rfl
   refine ai (by simp<;>omega) ⟨_,ra,_,ra,_,rb,_,rb,_,(iG a (by omega) (by omega) _).2 rfl,_,(iG b (by omega) (by omega) _).2 rfl,ai (by rw[jB,cZ (by simp only[List.length_map,Nat.add_eq];omega)];rfl) ?_⟩
   rw[jm]
   by_cases h2:(aQ a).length+(aQ b).length≤6
   ·rw[if_pos h2] at he
    have hlo:i<t.lows.length:=by omega
    have hlw:rowAt (t.lows.map bO) (i:Int)=some [iI (t.lows.getD i 0)]:=by
     rw[bM,aL,List.getD_eq_getElem?_getD,List.getElem?_eq_getElem hlo];rfl
    have hnn:=mI (aQ a++aQ b) (by rw[List.length_append];omega)
    have hrp:=p5 t i 2 [t.lows.getD i 0] [cv (aQ a++aQ b)] (by omega) (by omega) (by omega) (by omega) (by simp) (by simp)
    have ej:jN t i 2 [t.lows.getD i 0] [cv (aQ a++aQ b)]=cC t i:=by unfold cC;rw[gi ha,gi hb]
    rw[ej] at hrp
    have hN:=N i he.symm
    rw[←show aA (-1) 1=((0:Nat):Int) from by rw[aJ (by omega)];rfl] at hN
    exact ai (by simp[h9]<;>omega) ⟨_,hlw,_,hlw,_,hnn,_,_,hrp,⟨_,hnn,_,_,hrp,⟨_,_,hrp,rfl⟩,rfl⟩,hN⟩
   ·rw[if_neg h2] at he
    exact au (by simp[h9]<;>omega) (ih (i+1) (by omega) he)
  ·rw[if_neg h1] at he
   exact au (by simp<;>omega) (zJ _ _ _ _ _ ⟨by rw[E he.symm],rfl⟩)
theorem GX (t0:Tree) (hw0:t0.lows.length=t0.nodes.length) (hz0:tot aP t0.nodes+t0.nodes.length≤1073700000):aa C bU [dD t0] (dD (jO t0.nodes.length t0)) []:=by
 refine(LV _ _ _ ?_).run
 have key: ∀(m:Nat) (t:Tree),t.nodes.length=m→t.lows.length=t.nodes.length→tot aP t.nodes+t.nodes.length≤1073700000→ah C bU aj 4 0 (iL ((0:Nat):Int) (t.lows.map bO) (t.nodes.map aW)) (fun x st=>aG C bU aj x st fun r fs=>r=dD (jO m t)∧fs=[]):=by
  intro m
  induction m with
  |zero=>
   intro t hm hw hz
   exact Gu t (jO 0 t) hw hz (fun _=>rfl) (fun i hi=>by have:=(qx hi).1;omega) t.nodes.length 0 (by omega) rfl
  |succ m ih=>
   intro t hm hw hz
   refine Gu t (jO (m+1) t) hw hz (fun h=>(QT h).symm) (fun i hi=> ?_) t.nodes.length 0 (by omega) rfl
   have h1:=rU (qx hi).1
   have h2:=uh (qx hi).1
   have:=ih (cC t i) (by omega) (BZ (qx hi).1 hw) (by omega)
   rw[qy,hi]
   exact this
 exact key t0.nodes.length t0 rfl hw0 hz0
theorem Q0 {t:Tree} {i:Nat} {n:List (List Key)} (h1:i<t.lows.length) (h2:i<t.nodes.length):jN t i 1 [t.lows.getD i 0] [n]=⟨t.lows,t.nodes.set i n⟩:=by
 unfold jN
 rw[List.set_eq_take_append_cons_drop,if_pos h2,List.getD_eq_getElem?_getD,List.getElem?_eq_getElem h1]
 have e:t.lows.take i++[t.lows[i]]++t.lows.drop (i+1)=t.lows:=by
  rw[List.append_assoc,List.singleton_append,←List.drop_eq_getElem_cons h1,List.take_append_drop]
 simp only[Option.getD_some,e,List.append_assoc,List.singleton_append]
theorem X9 {n:Nat} (h:n≤1073741824):bu .i64 (aA (Int.ofNat n) 1) 2=(((n+1)/2:Nat):Int):=by
 rw[aJ (by simp;omega)]
 unfold bu
 rw[Int.tdiv_eq_ediv_of_nonneg (by simp;omega),show IntKind.wrap .i64 ((Int.ofNat n+1)/2)=(Int.ofNat n+1)/2 from IntWalk.i64_in _ (by simp;omega)]
 simp
theorem Fe (t:Tree) (k:Key) (hz:dx t≤4194304):aa C nF [dD t,Ab k] (xq (bI t k)) []:=by
 have hN:=uv hz
 have hcp:aa C aV [dD t] (dD t) []:=uu t hN.1 hN.2
 refine(KB _ _ _ _ _ _ _ _ ⟨_,rj t (by omega),?_⟩).run
 cases h1:dS t with
 |false=>exact ai rfl ⟨_,_,hcp,⟨by unfold bI;rw[if_neg (by rw[h1];simp)],rfl⟩⟩
 |true=>
 refine au rfl ⟨_,(DL _ _ _ _ _ _).2 rfl,?_⟩
 change aD (!fW k) _ _
 cases h2:fW k with
 |false=>exact ai rfl ⟨_,_,hcp,⟨by unfold bI;rw[if_neg (by rw[h2];simp)],rfl⟩⟩
 |true=>
 obtain⟨i,hi,hil⟩:=JT h1 h2
 have hlen:=pn h1
 have hw:aa C eO [dD t,vI k.b,vI k.a] (vI (i:Int)) []:=by rw[←hi];exact wq t k.b k.a (by omega)
 have hrow:rowAt (t.nodes.map aW) (i:Int)=some [TC.sub 1 (t.nodes[i].map bX)]:=by rw[bM,aL,List.getElem?_eq_getElem hil];rfl
 have hlow:rowAt (t.lows.map bO) (i:Int)=some [iI (t.lows.getD i 0)]:=by
  rw[bM,aL,List.getD_eq_getElem?_getD,List.getElem?_eq_getElem (by omega)];rfl
 have hg:t.nodes.getD i []=t.nodes[i]:=by rw[List.getD_eq_getElem?_getD,List.getElem?_eq_getElem hil];rfl
 have hok:=ug h1 (List.getElem_mem hil)
 have hsz:=BM hok
 have hps:=AI t.nodes[i] k
 have hpt:=AJ t.nodes[i] k
 have hkl:=nD t.nodes[i] k
 have hnk:=cM t.nodes[i]
 obtain⟨hp1,hp2,hp3⟩:=PF (k:=k) h1 hil
 have hR:bI t k=if dS (jO (jz t i k).nodes.length (jz t i k))=true then(jO (jz t i k).nodes.length (jz t i k),true) else(t,false):=by
  unfold bI;rw[if_pos ⟨h1,h2⟩,hi,Int.toNat_natCast]
 have fin: ∀Q:QV,Q (xq (bI t k)) []→ ∃(l39 l40:RR),aa C bU [dD (jz t i k)] (.ag [.sub 1 l39,.sub 1 l40]) []∧(∃b:Bool,aa C bC [.ag [.sub 1 l39,.sub 1 l40]] (vB b) []∧(aD (!b) (∃(l42 l43:RR),aa C aV [dD t] (.ag [.sub 1 l42,.sub 1 l43]) []∧Q (.tu [(1,[.sub 1 l42,.sub 1 l43]),(0,[iB false])]) []) (Q (.tu [(1,[.sub 1 l39,.sub 1 l40]),(0,[iB true])]) []))):=by
  intro Q hQ
  refine⟨_,_,GX (jz t i k) hp2 (by omega),_,rj _ (by omega),?_⟩
  rw[hR] at hQ
  cases h3:dS (jO (jz t i k).nodes.length (jz t i k)) with
  |true=>rw[if_pos h3] at hQ;exact au rfl hQ
  |false=>rw[if_neg (by rw[h3];simp)] at hQ;exact ai rfl ⟨_,_,hcp,hQ⟩
 have np:=Fb t.nodes[i] k (by omega) (by omega)
 refine au rfl ⟨_,hw,_,_,hcp,_,hrow,_,hrow,?_⟩
 cases hp:(cc t.nodes[i] k).2 with
 |false=>
  have hno:=(JP hok h2 hp).1
  have cno:(!(cc t.nodes[i] k).2)=true:=by rw[hp];rfl
  obtain⟨ks,hks⟩: ∃ks,ks=cm t.nodes[i] k:=⟨_,rfl⟩
  rw[←hks] at hno hkl
  have hh:=RS hno
  obtain⟨h,hhe⟩: ∃h,h=(ks.length+1)/2:=⟨_,rfl⟩
  have hq:bu .i64 (aA (Int.ofNat (List.length (ks.map bN))) 1) 2=(h:Int):=by rw[List.length_map,X9 (by omega),hhe]
  have hkk:rowAt (ks.map bN) (h:Int)=some [iI (ks.getD h eU).b,iI (ks.getD h eU).a,iI (ks.getD h eU).k,iI (ks.getD h eU).c,iI (ks.getD h eU).g]:=by
   rw[bM,aL,List.getD_eq_getElem?_getD,List.getElem?_eq_getElem (by omega)];rfl
  have ep:jz t i k=jN t i 1 [t.lows.getD i 0,fX (ks.getD h eU).b (ks.getD h eU).a] [cv (ks.take h),cv (ks.drop h)]:=by
   unfold jz;rw[hg,if_neg (by rw[hp];simp),←hks,←hhe]
  have rp:=p5 t i 1 [t.lows.getD i 0,fX (ks.getD h eU).b (ks.getD h eU).a] [cv (ks.take h),cv (ks.drop h)] (by omega) (by omega) (by omega) (by omega) (by simp) (by simp)
  rw[←ep] at rp
  have e1:ax (ks.map bN) 0 (h:Int)=(ks.take h).map bN:=by rw[cP];rfl
  have e2:ax (ks.map bN) (h:Int) (Int.ofNat (List.length (ks.map bN)))=(ks.drop h).map bN:=by
   rw[cP,List.length_map,Int.toNat_natCast,show(Int.ofNat ks.length).toNat=ks.length from rfl,List.take_length]
  have nn1:aa C bP [.c (.sub 5 (ax (ks.map bN) 0 (h:Int)))] (fC (cv (ks.take h))) []:=by rw[e1];exact mI _ (by rw[List.length_take];omega)
  have nn2:aa C bP [.c (.sub 5 (ax (ks.map bN) (h:Int) (Int.ofNat (List.length (ks.map bN)))))] (fC (cv (ks.drop h))) []:=by rw[e2];exact mI _ (by rw[List.length_drop];omega)
  have c1:cG 0 (h:Int) (Int.ofNat (List.length (ks.map bN)))=true:=by rw[Dy];simp;omega
  have c2:cG (h:Int) (Int.ofNat (List.length (ks.map bN))) (Int.ofNat (List.length (ks.map bN)))=true:=by rw[Dy];simp;omega
  have kw:aa C c8 [fC t.nodes[i],Ab k] (cT ks) []:=by
   rw[hks];exact ux t.nodes[i] k (by omega) (by omega)
  clear hks hhe hR
  repeat' first
   |refine⟨_,hrow,?_⟩
   |refine⟨_,hlow,?_⟩
   |refine⟨_,_,np,?_⟩
   |refine ai cno ?_
   |refine⟨_,kw,?_⟩
   |refine au (by rw[aX];rfl) ?_
   |rw[hq]
   |refine⟨_,_,_,_,_,hkk,?_⟩
   |refine ai c1 ?_
   |refine ai c2 ?_
   |refine⟨_,(vN _ _ _).2 rfl,?_⟩
   |refine⟨_,nn1,?_⟩
   |refine⟨_,nn2,?_⟩
   |refine⟨_,_,rp,?_⟩
   |refine⟨(xq (bI t k),([]:List TV)),?_,?_,rfl⟩
   |refine⟨(xq (bI t k),([]:List TV)),?_,?_,⟨rfl,by first|rfl|trivial⟩⟩
   |exact fin (fun a b=>(a,b)=(xq (bI t k),([]:List TV))) rfl
   |exact fin (fun r fs=>r=xq (bI t k)∧fs=[]) ⟨rfl,by first|rfl|trivial⟩
 |true=>
  have cno:(!(cc t.nodes[i] k).2)=false:=by rw[hp];rfl
  by_cases hc:0<i∧(aQ (cc t.nodes[i] k).1).length=0
  ·have ci:bG 0 (i:Int)=true:=by rw[eA];simp;omega
   have nk:=(iG (cc t.nodes[i] k).1 (by omega) (by omega) _).2 rfl
   have cl:cU (Int.ofNat (List.length ((aQ (cc t.nodes[i] k).1).map bN))) 0=true:=by rw[aX,List.length_map,hc.2];rfl
   have ep:jz t i k=jN t i 1 [] []:=by unfold jz;rw[hg,if_pos hp,if_pos hc]
   have rp:=p5 t i 1 [] [] (by omega) (by omega) (by omega) (by omega) (by simp) (by simp)
   rw[←ep] at rp
   clear hR
   repeat' first
   |refine⟨_,hrow,?_⟩
   |refine⟨_,hlow,?_⟩
   |refine⟨_,_,np,?_⟩
   |refine au cno ?_
   |refine ai ci ?_
   |refine⟨_,nk,?_⟩
   |refine ai cl ?_
   |refine⟨_,_,rp,?_⟩
   |refine⟨(xq (bI t k),([]:List TV)),?_,?_,rfl⟩
   |refine⟨(xq (bI t k),([]:List TV)),?_,?_,⟨rfl,by first|rfl|trivial⟩⟩
   |exact fin (fun a b=>(a,b)=(xq (bI t k),([]:List TV))) rfl
   |exact fin (fun r fs=>r=xq (bI t k)∧fs=[]) ⟨rfl,by first|rfl|trivial⟩
  ·have eset:jz t i k=⟨t.lows,t.nodes.set i (cc t.nodes[i] k).1⟩:=by
    unfold jz;rw[hg,if_pos hp,if_neg hc,Q0 (by omega) hil]
   have es:setRow (t.nodes.map aW) (i:Int) 0 [TC.sub 1 ((cc t.nodes[i] k).1.map bX)]=(t.nodes.set i (cc t.nodes[i] k).1).map aW:=Ph (a:=t.nodes[i]) (by rw[aL,List.getElem?_eq_getElem hil]) rfl
   clear hR
   by_cases hi0:0<i
   ·have ci:bG 0 (i:Int)=true:=by rw[eA];simp;omega
    have nk:=(iG (cc t.nodes[i] k).1 (by omega) (by omega) _).2 rfl
    have cl:cU (Int.ofNat (List.length ((aQ (cc t.nodes[i] k).1).map bN))) 0=false:=by
     rw[aX,List.length_map];exact decide_eq_false fun e=>hc ⟨hi0,by have e:((aQ (cc t.nodes[i] k).1).length:Int)=0:=e;omega⟩
    repeat' first
   |refine⟨_,hrow,?_⟩
   |refine⟨_,hlow,?_⟩
   |refine⟨_,_,np,?_⟩
   |refine au cno ?_
   |refine ai ci ?_
   |refine⟨_,nk,?_⟩
   |refine au cl ?_
   |refine⟨(xq (bI t k),([]:List TV)),?_,?_,rfl⟩
   |refine⟨(xq (bI t k),([]:List TV)),?_,?_,⟨rfl,by first|rfl|trivial⟩⟩
   |exact fin (fun a b=>(a,b)=(xq (bI t k),([]:List TV))) rfl
   |exact fin (fun r fs=>r=xq (bI t k)∧fs=[]) ⟨rfl,by first|rfl|trivial⟩
   |(rw[es];rw[eset] at fin;exact fin (fun a b=>(a,b)=(xq (bI t k),([]:List TV))) rfl)
   |(rw[es];rw[eset] at fin;exact fin (fun r fs=>r=xq (bI t k)∧fs=[]) ⟨rfl,by first|rfl|trivial⟩)
   ·have ci:bG 0 (i:Int)=false:=by rw[eA];simp;omega
    repeat' first
   |refine⟨_,hrow,?_⟩
   |refine⟨_,hlow,?_⟩
   |refine⟨_,_,np,?_⟩
   |refine au cno ?_
   |refine au ci ?_
   |refine⟨(xq (bI t k),([]:List TV)),?_,?_,rfl⟩
   |refine⟨(xq (bI t k),([]:List TV)),?_,?_,⟨rfl,by first|rfl|trivial⟩⟩
   |exact fin (fun a b=>(a,b)=(xq (bI t k),([]:List TV))) rfl
   |exact fin (fun r fs=>r=xq (bI t k)∧fs=[]) ⟨rfl,by first|rfl|trivial⟩
   |(rw[es];rw[eset] at fin;exact fin (fun a b=>(a,b)=(xq (bI t k),([]:List TV))) rfl)
   |(rw[es];rw[eset] at fin;exact fin (fun r fs=>r=xq (bI t k)∧fs=[]) ⟨rfl,by first|rfl|trivial⟩)
theorem Ff (t:Tree) (k:Key) (hz:dx t≤4194304):aa C nE [dD t,Ab k] (xq (bI t k)) []:=by
 have hN:=uv hz
 have hcp:aa C cn [dD t] (dD t) []:=ym t hN.1 hN.2
 refine(Kd _ _ _ _ _ _ _ _ ⟨_,_,hcp,_,q9 t (by omega),?_⟩).run
 cases h1:dS t with
 |false=>exact ai rfl ⟨by unfold bI;rw[if_neg (by rw[h1];simp)],rfl⟩
 |true=>
 refine au rfl ⟨_,(DM _ _ _ _ _ _).2 rfl,?_⟩
 change aD (!fW k) _ _
 cases h2:fW k with
 |false=>exact ai rfl ⟨by unfold bI;rw[if_neg (by rw[h2];simp)],rfl⟩
 |true=>
 obtain⟨i,hi,hil⟩:=JT h1 h2
 have hlen:=pn h1
 have hw:aa C dU [dD t,vI k.b,vI k.a] (vI (i:Int)) []:=by rw[←hi];exact wo t k.b k.a (by omega)
 have hrow:rowAt (t.nodes.map aW) (i:Int)=some [TC.sub 1 (t.nodes[i].map bX)]:=by rw[bM,aL,List.getElem?_eq_getElem hil];rfl
 have hlow:rowAt (t.lows.map bO) (i:Int)=some [iI (t.lows.getD i 0)]:=by
  rw[bM,aL,List.getD_eq_getElem?_getD,List.getElem?_eq_getElem (by omega)];rfl
 have hg:t.nodes.getD i []=t.nodes[i]:=by rw[List.getD_eq_getElem?_getD,List.getElem?_eq_getElem hil];rfl
 have hok:=ug h1 (List.getElem_mem hil)
 have hsz:=BM hok
 have hps:=AI t.nodes[i] k
 have hpt:=AJ t.nodes[i] k
 have hkl:=nD t.nodes[i] k
 have hnk:=cM t.nodes[i]
 obtain⟨hp1,hp2,hp3⟩:=PF (k:=k) h1 hil
 have hR:bI t k=if dS (jO (jz t i k).nodes.length (jz t i k))=true then(jO (jz t i k).nodes.length (jz t i k),true) else(t,false):=by
  unfold bI;rw[if_pos ⟨h1,h2⟩,hi,Int.toNat_natCast]
 have fin: ∀Q:QV,Q (xq (bI t k)) []→ ∃(l39 l40:RR),aa C aq [dD (jz t i k)] (.ag [.sub 1 l39,.sub 1 l40]) []∧(∃b:Bool,aa C an [.ag [.sub 1 l39,.sub 1 l40]] (vB b) []∧(aD (!b) (Q (.tu [(1,RL t),(0,[iB false])]) []) (Q (.tu [(1,[.sub 1 l39,.sub 1 l40]),(0,[iB true])]) []))):=by
  intro Q hQ
  refine⟨_,_,GW (jz t i k) hp2 (by omega),_,q9 _ (by omega),?_⟩
  rw[hR] at hQ
  cases h3:dS (jO (jz t i k).nodes.length (jz t i k)) with
  |true=>rw[if_pos h3] at hQ;exact au rfl hQ
  |false=>rw[if_neg (by rw[h3];simp)] at hQ;exact ai rfl hQ
 have np:=Fc t.nodes[i] k (by omega) (by omega)
 have hx:=sO t i [t.lows.getD i 0] [(cc t.nodes[i] k).1] (by omega) (by omega) (by omega) (by omega) (by simp) (by simp)
 refine au rfl ⟨_,hw,_,hrow,?_⟩
 cases hp:(cc t.nodes[i] k).2 with
 |false=>
  have hno:=(JP hok h2 hp).1
  have cno:(!(cc t.nodes[i] k).2)=true:=by rw[hp];rfl
  obtain⟨ks,hks⟩: ∃ks,ks=cm t.nodes[i] k:=⟨_,rfl⟩
  rw[←hks] at hno hkl
  have hh:=RS hno
  obtain⟨h,hhe⟩: ∃h,h=(ks.length+1)/2:=⟨_,rfl⟩
  have hq:bu .i64 (aA (Int.ofNat (List.length (ks.map bN))) 1) 2=(h:Int):=by rw[List.length_map,X9 (by omega),hhe]
  have hkk:rowAt (ks.map bN) (h:Int)=some [iI (ks.getD h eU).b,iI (ks.getD h eU).a,iI (ks.getD h eU).k,iI (ks.getD h eU).c,iI (ks.getD h eU).g]:=by
   rw[bM,aL,List.getD_eq_getElem?_getD,List.getElem?_eq_getElem (by omega)];rfl
  have ep:jz t i k=jN t i 1 [t.lows.getD i 0,fX (ks.getD h eU).b (ks.getD h eU).a] [cv (ks.take h),cv (ks.drop h)]:=by
   unfold jz;rw[hg,if_neg (by rw[hp];simp),←hks,←hhe]
  have rp:=sO t i [t.lows.getD i 0,fX (ks.getD h eU).b (ks.getD h eU).a] [cv (ks.take h),cv (ks.drop h)] (by omega) (by omega) (by omega) (by omega) (by simp) (by simp)
  rw[←ep] at rp
  have e1:ax (ks.map bN) 0 (h:Int)=(ks.take h).map bN:=by rw[cP];rfl
  have e2:ax (ks.map bN) (h:Int) (Int.ofNat (List.length (ks.map bN)))=(ks.drop h).map bN:=by
   rw[cP,List.length_map,Int.toNat_natCast,show(Int.ofNat ks.length).toNat=ks.length from rfl,List.take_length]
  have nn1:aa C az [.c (.sub 5 (ax (ks.map bN) 0 (h:Int)))] (fC (cv (ks.take h))) []:=by rw[e1];exact iw _ (by rw[List.length_take];omega)
  have nn2:aa C az [.c (.sub 5 (ax (ks.map bN) (h:Int) (Int.ofNat (List.length (ks.map bN)))))] (fC (cv (ks.drop h))) []:=by rw[e2];exact iw _ (by rw[List.length_drop];omega)
  have c1:cG 0 (h:Int) (Int.ofNat (List.length (ks.map bN)))=true:=by rw[Dy];simp;omega
  have c2:cG (h:Int) (Int.ofNat (List.length (ks.map bN))) (Int.ofNat (List.length (ks.map bN)))=true:=by rw[Dy];simp;omega
  have kw:aa C bS [cT (eK (aQ t.nodes[i]) k)] (cT ks) []:=by
   rw[hks];exact vK (eK (aQ t.nodes[i]) k) (by have:=ng (aQ t.nodes[i]) k;omega)
  clear hks hhe hR
  repeat' first
   |refine⟨_,hrow,?_⟩
   |refine⟨_,hlow,?_⟩
   |refine⟨_,_,np,?_⟩
   |refine⟨_,_,hx,?_⟩
   |refine ai cno ?_
   |refine⟨_,kw,?_⟩
   |refine⟨_,(dW t.nodes[i] (by omega) (by omega) _).2 rfl,?_⟩
   |refine⟨_,lK (aQ t.nodes[i]) k (by omega),?_⟩
   |refine au (by rw[aX];rfl) ?_
   |rw[hq]
   |refine⟨_,_,_,_,_,hkk,?_⟩
   |refine ai c1 ?_
   |refine ai c2 ?_
   |refine⟨_,(B4 _ _ _ _ _ _).2 rfl,?_⟩
   |refine⟨_,nn1,?_⟩
   |refine⟨_,nn2,?_⟩
   |refine⟨_,_,rp,?_⟩
   |refine⟨(xq (bI t k),([]:List TV)),?_,?_,rfl⟩
   |refine⟨(xq (bI t k),([]:List TV)),?_,?_,⟨rfl,by first|rfl|trivial⟩⟩
   |exact fin (fun a b=>(a,b)=(xq (bI t k),([]:List TV))) rfl
   |exact fin (fun r fs=>r=xq (bI t k)∧fs=[]) ⟨rfl,by first|rfl|trivial⟩
 |true=>
  have cno:(!(cc t.nodes[i] k).2)=false:=by rw[hp];rfl
  by_cases hc:0<i∧(aQ (cc t.nodes[i] k).1).length=0
  ·have ci:bG 0 (i:Int)=true:=by rw[eA];simp;omega
   have nk:=(dW (cc t.nodes[i] k).1 (by omega) (by omega) _).2 rfl
   have cl:cU (Int.ofNat (List.length ((aQ (cc t.nodes[i] k).1).map bN))) 0=true:=by rw[aX,List.length_map,hc.2];rfl
   have ep:jz t i k=jN t i 1 [] []:=by unfold jz;rw[hg,if_pos hp,if_pos hc]
   have rp:=sO t i [] [] (by omega) (by omega) (by omega) (by omega) (by simp) (by simp)
   rw[←ep] at rp
   clear hR
   repeat' first
   |refine⟨_,hrow,?_⟩
   |refine⟨_,hlow,?_⟩
   |refine⟨_,_,np,?_⟩
   |refine⟨_,_,hx,?_⟩
   |refine au cno ?_
   |refine ai ci ?_
   |refine⟨_,nk,?_⟩
   |refine ai cl ?_
   |refine⟨_,_,rp,?_⟩
   |refine⟨(xq (bI t k),([]:List TV)),?_,?_,rfl⟩
   |refine⟨(xq (bI t k),([]:List TV)),?_,?_,⟨rfl,by first|rfl|trivial⟩⟩
   |exact fin (fun a b=>(a,b)=(xq (bI t k),([]:List TV))) rfl
   |exact fin (fun r fs=>r=xq (bI t k)∧fs=[]) ⟨rfl,by first|rfl|trivial⟩
  ·have ep:jN t i 1 [t.lows.getD i 0] [(cc t.nodes[i] k).1]=jz t i k:=by
    unfold jz;rw[hg,if_pos hp,if_neg hc]
   rw[ep] at hx
   clear hR
   by_cases hi0:0<i
   ·have ci:bG 0 (i:Int)=true:=by rw[eA];simp;omega
    have nk:=(dW (cc t.nodes[i] k).1 (by omega) (by omega) _).2 rfl
    have cl:cU (Int.ofNat (List.length ((aQ (cc t.nodes[i] k).1).map bN))) 0=false:=by
     rw[aX,List.length_map];exact decide_eq_false fun e=>hc ⟨hi0,by have e:((aQ (cc t.nodes[i] k).1).length:Int)=0:=e;omega⟩
    repeat' first
   |refine⟨_,hrow,?_⟩
   |refine⟨_,hlow,?_⟩
   |refine⟨_,_,np,?_⟩
   |refine⟨_,_,hx,?_⟩
   |refine au cno ?_
   |refine ai ci ?_
   |refine⟨_,nk,?_⟩
   |refine au cl ?_
   |refine⟨(xq (bI t k),([]:List TV)),?_,?_,rfl⟩
   |refine⟨(xq (bI t k),([]:List TV)),?_,?_,⟨rfl,by first|rfl|trivial⟩⟩
   |exact fin (fun a b=>(a,b)=(xq (bI t k),([]:List TV))) rfl
   |exact fin (fun r fs=>r=xq (bI t k)∧fs=[]) ⟨rfl,by first|rfl|trivial⟩
   ·have ci:bG 0 (i:Int)=false:=by rw[eA];simp;omega
    repeat' first
   |refine⟨_,hrow,?_⟩
   |refine⟨_,hlow,?_⟩
   |refine⟨_,_,np,?_⟩
   |refine⟨_,_,hx,?_⟩
   |refine au cno ?_
   |refine au ci ?_
   |refine⟨(xq (bI t k),([]:List TV)),?_,?_,rfl⟩
   |refine⟨(xq (bI t k),([]:List TV)),?_,?_,⟨rfl,by first|rfl|trivial⟩⟩
   |exact fin (fun a b=>(a,b)=(xq (bI t k),([]:List TV))) rfl
   |exact fin (fun r fs=>r=xq (bI t k)∧fs=[]) ⟨rfl,by first|rfl|trivial⟩
theorem Fg (p:Pool) (k:Key) (b:Bool) (hc:p.cells.length≤1073741824):aa C nH [.bx (pI p),Ab k,vB b] (.tu []) [.bx (pI ⟨p.t,p.ages,if b=true∧k.k=1 then fO p.cells k.c else p.cells,p.vols,p.next⟩)]:=by
 refine(Ki _ _ _ _ _ _ _ _ _ _ _ _ _ ?_).run
 cases b with
 |false=>exact au rfl ⟨rfl,by first|rfl|trivial⟩
 |true=>
  refine ai rfl ?_
  by_cases h:k.k=1
  ·exact ai (by rw[aX];exact decide_eq_true h) ⟨_,DQ p.cells k.c hc,rfl,by rw[if_pos ⟨rfl,h⟩]⟩
  ·exact au (by rw[aX];exact decide_eq_false h) ⟨rfl,by rw[if_neg fun e=>h e.2]⟩
end Go.T.R
