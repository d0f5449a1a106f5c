/- What the functions answer. -/
import Derived.Test.YtiinnfilgnhjfaaGreatTR1
set_option linter.unusedVariables false
set_option linter.unusedSimpArgs false
set_option maxRecDepth 100000
set_option maxHeartbeats 4000000
namespace Go.T.R
open Go Go.T
theorem toKey (v0:Int) (v1:Int) (v2:Int) (v3:Int) (v4:Int):aa C CA [.ag [iI v0,iI v1,iI v2,iI v3,iI v4]] (.ag [iI v0,iI v1,iI v2,iI v3,iI v4]) []:=(N8 _ _ _ _ _ _ ⟨rfl,by first|rfl|trivial⟩).run
theorem YE (v0:Int) (v1:Int) (v2:Int) (v3:Int) (v4:Int):aa C CB [.ag [iI v0,iI v1,iI v2,iI v3,iI v4],.ag [iI v0,iI v1,iI v2,iI v3,iI v4]] (vB true) []:=by
 refine(Of _ _ _ _ _ _ _ _ _ _ _ ?_).run
 simp
theorem XA (l:List (Key)) (hl:l.length≤1099511627776):aa C j6 [cJ l] (cJ l) []:=by
 refine(L5 _ _ ?_).run
 simp only[List.length_map]
 refine ai (by simp;omega) ?_
 simp only[fF,xU,Int.toNat_natCast]
 refine xX (e:=bD) (z:=[iI 0,iI 0,iI 0,iI 0,iI 0]) l (fun i rows=>ah C j6 aj 4 0 (oM (l.map bD) i rows) _) (fun a=>rfl) ?_ ?_
 ·exact zR _ _ _ _ (an (by simp) (Ib _ _ _ _ _ ⟨rfl,by first|rfl|trivial⟩))
 ·intro i rows a hi ha hr hn
  refine zR _ _ _ _ (ai (by simp;omega) ⟨_,_,_,_,_,cw ha,_,_,_,_,_,toKey _ _ _ _ _,_,_,_,_,_,hr,_,_,_,_,_,hr,?_⟩)
  rw[aB (by omega)]
  exact hn
theorem XC (l:List (Key)) (hl:l.length≤1099511627776):aa C j7 [cJ l,cJ l] (vB true) []:=by
 refine(Mn _ _ _ ?_).run
 refine an (by simp) ?_
 refine bk l (fun i=>ah C j7 aj 4 0 (oR (l.map bD) (l.map bD) i) _) ?_ ?_
 ·exact Af _ _ _ _ (an (by simp) (IJ _ _ _ _ _ ⟨rfl,by first|rfl|trivial⟩))
 ·intro i a hi ha _ _ hn
  refine Af _ _ _ _ (ai (by simp;omega) ⟨_,_,_,_,_,cw ha,_,_,_,_,_,cw ha,_,YE _ _ _ _ _,an (by simp) ?_⟩)
  rw[aB (by omega)]
  exact hn
theorem YF (v0:Int) (v1:Int):aa C Cw [.ag [iI v0,iI v1]] (.ag [iI v0,iI v1]) []:=(Og _ _ _ ⟨rfl,by first|rfl|trivial⟩).run
theorem YG (v0:Int) (v1:Int):aa C Cy [.ag [iI v0,iI v1],.ag [iI v0,iI v1]] (vB true) []:=by
 refine(N4 _ _ _ _ _ ?_).run
 simp
theorem XD (l:List (Age)) (hl:l.length≤1099511627776):aa C jV [jP l] (jP l) []:=by
 refine(LU _ _ ?_).run
 simp only[List.length_map]
 refine ai (by simp;omega) ?_
 simp only[fF,xU,Int.toNat_natCast]
 refine xX (e:=di) (z:=[iI 0,iI 0]) l (fun i rows=>ah C jV aj 4 0 (oK (l.map di) i rows) _) (fun a=>rfl) ?_ ?_
 ·exact zJ _ _ _ _ (an (by simp) (HO _ _ _ _ _ ⟨rfl,by first|rfl|trivial⟩))
 ·intro i rows a hi ha hr hn
  refine zJ _ _ _ _ (ai (by simp;omega) ⟨_,_,cw ha,_,_,YF _ _,_,_,hr,_,_,hr,?_⟩)
  rw[aB (by omega)]
  exact hn
theorem XE (l:List (Age)) (hl:l.length≤1099511627776):aa C jX [jP l,jP l] (vB true) []:=by
 refine(L9 _ _ _ ?_).run
 refine an (by simp) ?_
 refine bk l (fun i=>ah C jX aj 4 0 (oN (l.map di) (l.map di) i) _) ?_ ?_
 ·exact zT _ _ _ _ (an (by simp) (Ig _ _ _ _ _ ⟨rfl,by first|rfl|trivial⟩))
 ·intro i a hi ha _ _ hn
  refine zT _ _ _ _ (ai (by simp;omega) ⟨_,_,cw ha,_,_,cw ha,_,YG _ _,an (by simp) ?_⟩)
  rw[aB (by omega)]
  exact hn
theorem toCell (v0:Int) (v1:Bool) (v2:Int):aa C A5 [.ag [iI v0,iB v1,iI v2]] (.ag [iI v0,iB v1,iI v2]) []:=(Lt _ _ _ _ ⟨rfl,by first|rfl|trivial⟩).run
theorem XF (v0:Int) (v1:Bool) (v2:Int):aa C A6 [.ag [iI v0,iB v1,iI v2],.ag [iI v0,iB v1,iI v2]] (vB true) []:=by
 refine(LI _ _ _ _ _ _ _ ?_).run
 simp
theorem V6 (l:List (Cell)) (hl:l.length≤1099511627776):aa C iW [e9 l] (e9 l) []:=by
 refine(KQ _ _ ?_).run
 simp only[List.length_map]
 refine ai (by simp;omega) ?_
 simp only[fF,xU,Int.toNat_natCast]
 refine xX (e:=bJ) (z:=[iI 0,iB false,iI 0]) l (fun i rows=>ah C iW aj 4 0 (nQ (l.map bJ) i rows) _) (fun a=>rfl) ?_ ?_
 ·exact xu _ _ _ _ (an (by simp) (Ga _ _ _ _ _ ⟨rfl,by first|rfl|trivial⟩))
 ·intro i rows a hi ha hr hn
  refine xu _ _ _ _ (ai (by simp;omega) ⟨_,_,_,cw ha,_,_,_,toCell _ _ _,_,_,_,hr,_,_,_,hr,?_⟩)
  rw[aB (by omega)]
  exact hn
theorem V7 (l:List (Cell)) (hl:l.length≤1099511627776):aa C iX [e9 l,e9 l] (vB true) []:=by
 refine(Kh _ _ _ ?_).run
 refine an (by simp) ?_
 refine bk l (fun i=>ah C iX aj 4 0 (nH (l.map bJ) (l.map bJ) i) _) ?_ ?_
 ·exact wX _ _ _ _ (an (by simp) (Fu _ _ _ _ _ ⟨rfl,by first|rfl|trivial⟩))
 ·intro i a hi ha _ _ hn
  refine wX _ _ _ _ (ai (by simp;omega) ⟨_,_,_,cw ha,_,_,_,cw ha,_,XF _ _ _,an (by simp) ?_⟩)
  rw[aB (by omega)]
  exact hn
theorem YH (v0:ByteArray) (v1:Int) (v2:Int) (v3:Bool):aa C Cx [.ag [iS v0,iI v1,iI v2,iB v3]] (.ag [iS v0,iI v1,iI v2,iB v3]) []:=(N7 _ _ _ _ _ ⟨rfl,by first|rfl|trivial⟩).run
theorem YI (v0:ByteArray) (v1:Int) (v2:Int) (v3:Bool):aa C Cz [.ag [iS v0,iI v1,iI v2,iB v3],.ag [iS v0,iI v1,iI v2,iB v3]] (vB true) []:=by
 refine(Oa _ _ _ _ _ _ _ _ _ ?_).run
 simp
theorem XG (l:List (Vol)) (hl:l.length≤1099511627776):aa C jW [AM l] (AM l) []:=by
 refine(Lo _ _ ?_).run
 simp only[List.length_map]
 refine ai (by simp;omega) ?_
 simp only[fF,xU,Int.toNat_natCast]
 refine xX (e:=dJ) (z:=[iS Yt,iI 0,iI 0,iB false]) l (fun i rows=>ah C jW aj 4 0 (oE (l.map dJ) i rows) _) (fun a=>rfl) ?_ ?_
 ·exact zp _ _ _ _ (an (by simp) (G7 _ _ _ _ _ ⟨rfl,by first|rfl|trivial⟩))
 ·intro i rows a hi ha hr hn
  refine zp _ _ _ _ (ai (by simp;omega) ⟨_,_,_,_,cw ha,_,_,_,_,YH _ _ _ _,_,_,_,_,hr,_,_,_,_,hr,?_⟩)
  rw[aB (by omega)]
  exact hn
theorem XH (l:List (Vol)) (hl:l.length≤1099511627776):aa C jY [AM l,AM l] (vB true) []:=by
 refine(LF _ _ _ ?_).run
 refine an (by simp) ?_
 refine bk l (fun i=>ah C jY aj 4 0 (oI (l.map dJ) (l.map dJ) i) _) ?_ ?_
 ·exact zz _ _ _ _ (an (by simp) (Hv _ _ _ _ _ ⟨rfl,by first|rfl|trivial⟩))
 ·intro i a hi ha _ _ hn
  refine zz _ _ _ _ (ai (by simp;omega) ⟨_,_,_,_,cw ha,_,_,_,_,cw ha,_,YI _ _ _ _,an (by simp) ?_⟩)
  rw[aB (by omega)]
  exact hn
theorem XI (l:List (Int)) (hl:l.length≤1099511627776):aa C jZ [p7 l] (p7 l) []:=by
 refine(LH _ _ ?_).run
 simp only[List.length_map]
 refine ai (by simp;omega) ?_
 simp only[fF,xU,Int.toNat_natCast]
 refine xX (e:=bG) (z:=[iI 0]) l (fun i rows=>ah C jZ aj 4 0 (oJ (l.map bG) i rows) _) (fun a=>rfl) ?_ ?_
 ·exact zC _ _ _ _ (an (by simp) (HE _ _ _ _ _ ⟨rfl,by first|rfl|trivial⟩))
 ·intro i rows a hi ha hr hn
  refine zC _ _ _ _ (ai (by simp;omega) ⟨_,cw ha,_,hr,_,hr,?_⟩)
  rw[aB (by omega)]
  exact hn
theorem XJ (l:List (Int)) (hl:l.length≤1099511627776):aa C j5 [p7 l,p7 l] (vB true) []:=by
 refine(LY _ _ _ ?_).run
 refine an (by simp) ?_
 refine bk l (fun i=>ah C j5 aj 4 0 (oL (l.map bG) (l.map bG) i) _) ?_ ?_
 ·exact zM _ _ _ _ (an (by simp) (HX _ _ _ _ _ ⟨rfl,by first|rfl|trivial⟩))
 ·intro i a hi ha _ _ hn
  refine zM _ _ _ _ (ai (by simp;omega) ⟨_,cw ha,_,cw ha,an (by simp) ?_⟩)
  rw[aB (by omega)]
  exact hn
theorem V8 (l:List (List Key)) (hl:l.length≤1099511627776) (hs: ∀s∈l,s.length≤1099511627776):aa C ja [Dv l] (Dv l) []:=by
 refine(Kz _ _ ?_).run
 simp only[List.length_map]
 refine ai (by simp;omega) ?_
 simp only[fF,xU,Int.toNat_natCast]
 refine xX (e:=bS) (z:=[TC.sub 5 []]) l (fun i rows=>ah C ja aj 4 0 (nL (l.map bS) i rows) _) (fun a=>rfl) ?_ ?_
 ·exact xg _ _ _ _ (an (by simp) (FV _ _ _ _ _ ⟨rfl,by first|rfl|trivial⟩))
 ·intro i rows a hi ha hr hn
  refine xg _ _ _ _ (ai (by simp;omega) ⟨_,cw ha,_,XA _ (hs _ (List.mem_of_getElem? ha)),_,hr,_,hr,?_⟩)
  rw[aB (by omega)]
  exact hn
def DE (n:List (List Key)):Prop:=n.length≤1099511627776∧ ∀s∈n,s.length≤1099511627776
def XK (l:List (List (List Key))):Prop:=l.length≤1099511627776∧ ∀n∈l,DE n
def M0 (t:Tree):Prop:=t.lows.length≤1099511627776∧XK t.nodes
theorem XL (n:List (List Key)) (h:DE n):aa C A8 [fY n] (fY n) []:=(Lx _ _ ⟨_,V8 n h.1 h.2,rfl,rfl⟩).run
theorem V9 (l:List (List (List Key))) (hl:l.length≤1099511627776) (hs: ∀n∈l,DE n):aa C iY [sq l] (sq l) []:=by
 refine(KF _ _ ?_).run
 simp only[List.length_map]
 refine ai (by simp;omega) ?_
 simp only[fF,xU,Int.toNat_natCast]
 refine xX (e:=aI) (z:=[TC.sub 1 []]) l (fun i rows=>ah C iY aj 4 0 (nN (l.map aI) i rows) _) (fun a=>rfl) ?_ ?_
 ·exact xm _ _ _ _ (an (by simp) (FZ _ _ _ _ _ ⟨rfl,by first|rfl|trivial⟩))
 ·intro i rows a hi ha hr hn
  refine xm _ _ _ _ (ai (by simp;omega) ⟨_,cw ha,_,XL _ (hs _ (List.mem_of_getElem? ha)),_,hr,_,hr,?_⟩)
  rw[aB (by omega)]
  exact hn
theorem toTree (t:Tree) (h:M0 t):aa C AY [dG t] (dG t) []:=(LD _ _ _ ⟨_,XI _ h.1,_,V9 _ h.2.1 h.2.2,rfl,rfl⟩).run
theorem Wa (l:List (List Key)) (hl:l.length≤1099511627776) (hs: ∀s∈l,s.length≤1099511627776):aa C jb [Dv l,Dv l] (vB true) []:=by
 refine(KM _ _ _ ?_).run
 refine an (by simp) ?_
 refine bk l (fun i=>ah C jb aj 4 0 (nP (l.map bS) (l.map bS) i) _) ?_ ?_
 ·exact xp _ _ _ _ (an (by simp) (F7 _ _ _ _ _ ⟨rfl,by first|rfl|trivial⟩))
 ·intro i a hi ha _ _ hn
  refine xp _ _ _ _ (ai (by simp;omega) ⟨_,cw ha,_,cw ha,_,XC _ (hs _ (List.mem_of_getElem? ha)),an (by simp) ?_⟩)
  rw[aB (by omega)]
  exact hn
theorem XM (n:List (List Key)) (h:DE n):aa C A9 [fY n,fY n] (vB true) []:=(LN _ _ _ ⟨_,Wa n h.1 h.2,by simp⟩).run
theorem Wb (l:List (List (List Key))) (hl:l.length≤1099511627776) (hs: ∀n∈l,DE n):aa C iZ [sq l,sq l] (vB true) []:=by
 refine(KR _ _ _ ?_).run
 refine an (by simp) ?_
 refine bk l (fun i=>ah C iZ aj 4 0 (nR (l.map aI) (l.map aI) i) _) ?_ ?_
 ·exact xw _ _ _ _ (an (by simp) (Gb _ _ _ _ _ ⟨rfl,by first|rfl|trivial⟩))
 ·intro i a hi ha _ _ hn
  refine xw _ _ _ _ (ai (by simp;omega) ⟨_,cw ha,_,cw ha,_,XM _ (hs _ (List.mem_of_getElem? ha)),an (by simp) ?_⟩)
  rw[aB (by omega)]
  exact hn
theorem XN (t:Tree) (h:M0 t):aa C AZ [dG t,dG t] (vB true) []:=(LV _ _ _ _ _ ⟨_,XJ _ h.1,an rfl ⟨_,Wb _ h.2.1 h.2.2,by simp⟩⟩).run
structure PJ (p:Pool):Prop where
 t:M0 p.t
 ages:p.ages.length≤1099511627776
 cells:p.cells.length≤1099511627776
 vols:p.vols.length≤1099511627776
theorem NW (p:Pool) (h:PJ p):aa C pn [fZ p] (fZ p) []:=(LB _ _ _ _ _ _ _ ⟨_,_,toTree p.t h.t,_,XD _ h.ages,_,V6 _ h.cells,_,XG _ h.vols,rfl,rfl⟩).run
theorem NX (p:Pool) (h:PJ p):aa C pz [fZ p,fZ p] (vB true) []:=(L7 _ _ _ _ _ _ _ _ _ _ _ _ _ ⟨_,XN p.t h.t,an rfl ⟨_,XE _ h.ages,an rfl ⟨_,V7 _ h.cells,an rfl ⟨_,XH _ h.vols,an rfl (by simp)⟩⟩⟩⟩).run
theorem XO (l:List (Int)) (left:Int) (h0:0≤left∧left≤1048576) (hl:l.length≤140737488355328):aa C A4 [p7 l,vI left] (vI (lC left l.length)) []:=by
 refine(Lr _ _ _ ?_).run
 simp only[List.length_map,fF]
 rw[dN (by omega)]
 unfold lC
 simp only[dh,bK]
 by_cases h:left<(l.length:Int)
 ·rw[if_pos (by omega),if_pos h];exact⟨rfl,by first|rfl|trivial⟩
 ·rw[if_neg (by omega),if_neg h];exact⟨rfl,by first|rfl|trivial⟩
theorem XP (l:List (Key)) (left:Int) (h0:0≤left∧left≤1048576) (hl:l.length≤140737488355328):aa C Ba [cJ l,vI left] (vI (lC left l.length)) []:=by
 refine(LS _ _ _ ?_).run
 simp only[List.length_map,fF]
 rw[dN (by omega)]
 unfold lC
 simp only[dh,bK]
 by_cases h:left<(l.length:Int)
 ·rw[if_pos (by omega),if_pos h];exact⟨rfl,by first|rfl|trivial⟩
 ·rw[if_neg (by omega),if_neg h];exact⟨rfl,by first|rfl|trivial⟩
theorem XQ (l:List (Age)) (left:Int) (h0:0≤left∧left≤1048576) (hl:l.length≤140737488355328):aa C AX [jP l,vI left] (vI (lC left l.length)) []:=by
 refine(LC _ _ _ ?_).run
 simp only[List.length_map,fF]
 rw[dN (by omega)]
 unfold lC
 simp only[dh,bK]
 by_cases h:left<(l.length:Int)
 ·rw[if_pos (by omega),if_pos h];exact⟨rfl,by first|rfl|trivial⟩
 ·rw[if_neg (by omega),if_neg h];exact⟨rfl,by first|rfl|trivial⟩
theorem Wc (l:List (Cell)) (left:Int) (h0:0≤left∧left≤1048576) (hl:l.length≤140737488355328):aa C x8 [e9 l,vI left] (vI (lC left l.length)) []:=by
 refine(KD _ _ _ ?_).run
 simp only[List.length_map,fF]
 rw[dN (by omega)]
 unfold lC
 simp only[dh,bK]
 by_cases h:left<(l.length:Int)
 ·rw[if_pos (by omega),if_pos h];exact⟨rfl,by first|rfl|trivial⟩
 ·rw[if_neg (by omega),if_neg h];exact⟨rfl,by first|rfl|trivial⟩
theorem Wd (l:List (List Key)) (left:Int) (h0:0≤left∧left≤1048576) (hl:l.length≤140737488355328) (hs: ∀s∈l,s.length≤140737488355328):aa C fu [Dv l,vI left] (vI (lC left (l.length+tot bB l))) []:=by
 refine(Ks _ _ _ ?_).run
 simp only[List.length_map,fF]
 rw[dN (by omega)]
 simp only[dh,bK]
 by_cases h:left<(l.length:Int)
 ·rw[if_pos (by omega)]
  refine⟨?_,by first|rfl|trivial⟩
  unfold lC
  rw[if_pos (by omega)]
 ·rw[if_neg (by omega)]
  have key: ∀cur:Int,0≤cur∧cur≤1048576→lC cur (tot bB (l.drop 0))=lC left (l.length+tot bB l)→ah C fu az 4 0 (kR (l.map bS) cur ((0:Nat):Int)) (fun x st=>ax C fu az x st fun r fs=>r=vI (lC left (l.length+tot bB l))∧fs=[]):=by
   refine bk l (fun i=> ∀cur:Int,0≤cur∧cur≤1048576→lC cur (tot bB (l.drop i))=lC left (l.length+tot bB l)→ah C fu az 4 0 (kR (l.map bS) cur i) _) ?_ ?_
   ·intro cur hc he
    refine w7 _ _ _ _ (an (by simp) (FL _ _ _ _ _ ⟨?_,by first|rfl|trivial⟩))
    rw[←he,List.drop_length]
    unfold lC tot
    rw[if_neg (by omega)]
    simp
   ·intro i a hi ha hd _ hn cur hc he
    rw[hd] at he
    simp only[tot] at he
    refine w7 _ _ _ _ (ai (by simp;omega) ⟨_,cw ha,_,XP a cur hc (hs a (List.mem_of_getElem? ha)),?_⟩)
    by_cases hw:cur<(bB a:Int)
    ·refine ai (by simp[lC,bB] at hw ⊢;omega) (FK _ ⟨?_,by first|rfl|trivial⟩)
     rw[←he]
     unfold lC
     rw[if_pos (by omega)]
    ·have hl2:lC cur (bB a)=cur-bB a:=if_neg hw
     refine an (by simp[lC,bB] at hw ⊢;omega) ?_
     rw[aB (by omega)]
     have:=hn (cur-bB a) (by omega) (by rw[←he];unfold lC;split<;>split<;>omega)
     rw[←hl2] at this
     exact this
  refine key (left-l.length) (by omega) ?_
  simp only[List.drop_zero]
  unfold lC
  split<;>split<;>omega
theorem Q2 (n:List (List Key)) (left:Int) (h0:0≤left∧left≤1048576) (hl:n.length≤140737488355328) (hs: ∀s∈n,s.length≤140737488355328):aa C A7 [fY n,vI left] (vI (lC left (aH n))) []:=by
 refine(L4 _ _ _ ⟨_,Wd n left h0 hl hs,?_⟩).run
 show aA _ _ _
 unfold aH
 simp only[dh,bK]
 split
 ·refine⟨?_,by first|rfl|trivial⟩
  unfold lC at*
  split<;>simp_all<;>omega
 ·simp
theorem We (l:List (List (List Key))) (left:Int) (h0:0≤left∧left≤1048576) (hl:l.length≤140737488355328) (hs: ∀n∈l,n.length≤140737488355328∧ ∀s∈n,s.length≤140737488355328):aa C fo [sq l,vI left] (vI (lC left (l.length+tot aH l))) []:=by
 refine(Ku _ _ _ ?_).run
 simp only[List.length_map,fF]
 rw[dN (by omega)]
 simp only[dh,bK]
 by_cases h:left<(l.length:Int)
 ·rw[if_pos (by omega)]
  refine⟨?_,by first|rfl|trivial⟩
  unfold lC
  rw[if_pos (by omega)]
 ·rw[if_neg (by omega)]
  have key: ∀cur:Int,0≤cur∧cur≤1048576→lC cur (tot aH (l.drop 0))=lC left (l.length+tot aH l)→ah C fo az 4 0 (kU (l.map aI) cur ((0:Nat):Int)) (fun x st=>ax C fo az x st fun r fs=>r=vI (lC left (l.length+tot aH l))∧fs=[]):=by
   refine bk l (fun i=> ∀cur:Int,0≤cur∧cur≤1048576→lC cur (tot aH (l.drop i))=lC left (l.length+tot aH l)→ah C fo az 4 0 (kU (l.map aI) cur i) _) ?_ ?_
   ·intro cur hc he
    refine w9 _ _ _ _ (an (by simp) (FO _ _ _ _ _ ⟨?_,by first|rfl|trivial⟩))
    rw[←he,List.drop_length]
    unfold lC tot
    rw[if_neg (by omega)]
    simp
   ·intro i a hi ha hd _ hn cur hc he
    rw[hd] at he
    simp only[tot] at he
    refine w9 _ _ _ _ (ai (by simp;omega) ⟨_,cw ha,_,Q2 a cur hc (hs a (List.mem_of_getElem? ha)).1 (hs a (List.mem_of_getElem? ha)).2,?_⟩)
    by_cases hw:cur<(aH a:Int)
    ·refine ai (by simp[lC,aH] at hw ⊢;omega) (FN _ ⟨?_,by first|rfl|trivial⟩)
     rw[←he]
     unfold lC
     rw[if_pos (by omega)]
    ·have hl2:lC cur (aH a)=cur-aH a:=if_neg hw
     refine an (by simp[lC,aH] at hw ⊢;omega) ?_
     rw[aB (by omega)]
     have:=hn (cur-aH a) (by omega) (by rw[←he];unfold lC;split<;>split<;>omega)
     rw[←hl2] at this
     exact this
  refine key (left-l.length) (by omega) ?_
  simp only[List.drop_zero]
  unfold lC
  split<;>split<;>omega
theorem IZ {a:Int} {n m:Nat} (h: ¬lC a n<0) (h0:0≤a):lC (lC a n) m=lC a (n+m):=by unfold lC at*;split<;>split<;>split<;>simp_all<;>omega
theorem NY {a:Int} {n:Nat} (h: ¬lC a n<0) (h0:0≤a∧a≤1048576):0≤lC a n∧lC a n≤1048576:=by unfold lC at*;split<;>simp_all<;>omega
theorem I0 {a:Int} {n m:Nat} (h:lC a n<0) (h0:0≤a):lC a (n+m)= -1:=by unfold lC at*;split<;>simp_all<;>omega
structure UR (t:Tree):Prop where
 lows:t.lows.length≤140737488355328
 nodes:t.nodes.length≤140737488355328
 node: ∀n∈t.nodes,n.length≤140737488355328∧ ∀s∈n,s.length≤140737488355328
theorem Q3 (t:Tree) (left:Int) (h0:0≤left∧left≤1048576) (h:UR t):aa C AW [dG t,vI left] (vI (lC left (dO t))) []:=by
 refine(Ln _ _ _ _ ⟨_,XO _ left h0 h.lows,?_⟩).run
 unfold dO pN
 refine pM (fun hb=> ?_) fun hb=>⟨_,We _ _ (NY (by simpa using hb) h0) h.nodes h.node,?_⟩
 ·rw[I0 (by simpa using hb) h0.1];exact⟨rfl,by first|rfl|trivial⟩
 ·have hb: ¬lC left t.lows.length<0:=by simpa using hb
  rw[IZ hb h0.1]
  refine pM (fun hc=> ?_) fun hc=>⟨rfl,by first|rfl|trivial⟩
  refine⟨?_,by first|rfl|trivial⟩
  have hc:lC left (t.lows.length+(t.nodes.length+tot aH t.nodes))<0:=by simpa using hc
  unfold lC at*
  split<;>simp_all<;>omega
theorem SD (s:ByteArray) (a z:Int) (f:Bool) (left:Int) (h0:0≤left∧left≤1048576) (hl:s.size≤140737488355328):aa C Cv [.ag [iS s,iI a,iI z,iB f],vI left] (vI (lC left s.size)) []:=by
 refine(N9 _ _ _ _ _ _ ?_).run
 simp only[ER,fF]
 rw[dN (by omega)]
 unfold lC
 simp only[dh,bK]
 by_cases h:left<(s.size:Int)
 ·rw[if_pos (by omega),if_pos h];exact⟨rfl,by first|rfl|trivial⟩
 ·rw[if_neg (by omega),if_neg h];exact⟨rfl,by first|rfl|trivial⟩
theorem XR (l:List (Vol)) (left:Int) (h0:0≤left∧left≤1048576) (hl:l.length≤140737488355328) (hs: ∀v∈l,v.name.size≤140737488355328):aa C gC [AM l,vI left] (vI (lC left (l.length+tot pk l))) []:=by
 refine(L8 _ _ _ ?_).run
 simp only[List.length_map,fF]
 rw[dN (by omega)]
 simp only[dh,bK]
 by_cases h:left<(l.length:Int)
 ·rw[if_pos (by omega)]
  refine⟨?_,by first|rfl|trivial⟩
  unfold lC
  rw[if_pos (by omega)]
 ·rw[if_neg (by omega)]
  have key: ∀cur:Int,0≤cur∧cur≤1048576→lC cur (tot pk (l.drop 0))=lC left (l.length+tot pk l)→ah C gC az 4 0 (lY (l.map dJ) cur ((0:Nat):Int)) (fun x st=>ax C gC az x st fun r fs=>r=vI (lC left (l.length+tot pk l))∧fs=[]):=by
   refine bk l (fun i=> ∀cur:Int,0≤cur∧cur≤1048576→lC cur (tot pk (l.drop i))=lC left (l.length+tot pk l)→ah C gC az 4 0 (lY (l.map dJ) cur i) _) ?_ ?_
   ·intro cur hc he
    refine zS _ _ _ _ (an (by simp) (Ie _ _ _ _ _ ⟨?_,by first|rfl|trivial⟩))
    rw[←he,List.drop_length]
    unfold lC tot
    rw[if_neg (by omega)]
    simp
   ·intro i a hi ha hd _ hn cur hc he
    rw[hd] at he
    simp only[tot] at he
    refine zS _ _ _ _ (ai (by simp;omega) ⟨_,_,_,_,cw ha,_,SD _ _ _ _ cur hc (hs a (List.mem_of_getElem? ha)),?_⟩)
    by_cases hw:cur<(pk a:Int)
    ·refine ai (by simp[lC,pk] at hw ⊢;omega) (Ic _ ⟨?_,by first|rfl|trivial⟩)
     rw[←he]
     unfold lC
     rw[if_pos (by omega)]
    ·have hl2:lC cur (pk a)=cur-pk a:=if_neg hw
     refine an (by simp[lC,pk] at hw ⊢;omega) ?_
     rw[aB (by omega)]
     have:=hn (cur-pk a) (by omega) (by rw[←he];unfold lC;split<;>split<;>omega)
     rw[←hl2] at this
     exact this
  refine key (left-l.length) (by omega) ?_
  simp only[List.drop_zero]
  unfold lC
  split<;>split<;>omega
structure RX (p:Pool):Prop where
 t:UR p.t
 ages:p.ages.length≤140737488355328
 cells:p.cells.length≤140737488355328
 vols:p.vols.length≤140737488355328
 vol: ∀v∈p.vols,v.name.size≤140737488355328
 siz: ∀v∈p.vols,v.size≤9223372036854775807
theorem Q4 (p:Pool) (left:Int) (h0:0≤left∧left≤1048576) (h:RX p):aa C AV [fZ p,vI left] (vI (lC left (cY p))) []:=by
 refine(L6 _ _ _ _ _ _ _ _ ⟨_,Q3 p.t left h0 h.t,?_⟩).run
 unfold cY EX
 refine pM (fun hb=> ?_) fun hb=>⟨_,XQ _ _ (NY (by simpa using hb) h0) h.ages,?_⟩
 ·rw[Nat.add_assoc,Nat.add_assoc,I0 (by simpa using hb) h0.1];exact⟨rfl,by first|rfl|trivial⟩
 rw[IZ (by simpa using hb) h0.1]
 refine pM (fun hb=> ?_) fun hb=>⟨_,Wc _ _ (NY (by simpa using hb) h0) h.cells,?_⟩
 ·rw[Nat.add_assoc,I0 (by simpa using hb) h0.1];exact⟨rfl,by first|rfl|trivial⟩
 rw[IZ (by simpa using hb) h0.1]
 refine pM (fun hb=> ?_) fun hb=>⟨_,XR _ _ (NY (by simpa using hb) h0) h.vols h.vol,?_⟩
 ·rw[I0 (by simpa using hb) h0.1];exact⟨rfl,by first|rfl|trivial⟩
 rw[IZ (by simpa using hb) h0.1]
 refine pM (fun hc=> ?_) fun hc=>⟨rfl,by first|rfl|trivial⟩
 refine⟨?_,by first|rfl|trivial⟩
 have hc:lC left (dO p.t+p.ages.length+p.cells.length+(p.vols.length+tot pk p.vols))<0:=by simpa using hc
 unfold lC at*
 split<;>simp_all<;>omega
theorem sx (a b c:Int):aa C cR [vI a,vI b,vI c] (vB (iQ a b c)) []:=by
 refine(Mb _ _ _ _ ?_).run
 simp only[fX,bK,iQ]
 split<;>simp_all<;>omega
theorem Bb (a b c:Int):aa C ey [vI a,vI b,vI c] (vB (iQ a b c)) []:=by
 refine(PV _ _ _ _ ?_).run
 simp only[fX,bK,iQ]
 split<;>simp_all<;>omega
@[simp] theorem qL (a b c:Int) (q:Bool):aa C cR [vI a,vI b,vI c] (vB q) []↔q=iQ a b c:=rL (sx a b c)
@[simp] theorem Bc (a b c:Int) (q:Bool):aa C ey [vI a,vI b,vI c] (vB q) []↔q=iQ a b c:=rL (Bb a b c)
theorem J2 (b a k c g:Int):aa C sw [.ag [iI b,iI a,iI k,iI c,iI g]] (vB (ga ⟨b,a,k,c,g⟩)) []:=by
 refine(Oi _ _ _ _ _ _ ?_).run
 simp only[qL,exists_eq_left,ga,aT,bL,bK]
 cases iQ b 0 15<;>cases iQ a 1 60<;>cases iQ k 0 2<;>by_cases h:k=1<;>by_cases h1:c=0<;>by_cases h2:g=0<;>cases iQ c 0 23<;>simp_all
theorem J3 (b a k c g:Int):aa C sv [.ag [iI b,iI a,iI k,iI c,iI g]] (vB (ga ⟨b,a,k,c,g⟩)) []:=by
 refine(N5 _ _ _ _ _ _ ?_).run
 simp only[Bc,exists_eq_left,ga,aT,bL,bK]
 cases iQ b 0 15<;>cases iQ a 1 60<;>cases iQ k 0 2<;>by_cases h:k=1<;>by_cases h1:c=0<;>by_cases h2:g=0<;>cases iQ c 0 23<;>simp_all
@[simp] theorem DF (b a k c g:Int) (q:Bool):aa C sw [.ag [iI b,iI a,iI k,iI c,iI g]] (vB q) []↔q=ga ⟨b,a,k,c,g⟩:=rL (J2 b a k c g)
@[simp] theorem DG (b a k c g:Int) (q:Bool):aa C sv [.ag [iI b,iI a,iI k,iI c,iI g]] (vB q) []↔q=ga ⟨b,a,k,c,g⟩:=rL (J3 b a k c g)
@[simp] theorem Bd (b a k c g b' a' k' c' g':Int) (q:Bool):aa C rP [.ag [iI b,iI a,iI k,iI c,iI g],.ag [iI b',iI a',iI k',iI c',iI g']] (vB q) []↔q=dj ⟨b,a,k,c,g⟩ ⟨b',a',k',c',g'⟩:=rL (by
  refine(KA _ _ _ _ _ _ _ _ _ _ _ ?_).run
  simp only[dh,aT,bK,dj]
  by_cases h1:b<b'<;>by_cases h2:b=b'<;>simp_all)
@[simp] theorem Be (b a k c g b' a' k' c' g':Int) (q:Bool):aa C rN [.ag [iI b,iI a,iI k,iI c,iI g],.ag [iI b',iI a',iI k',iI c',iI g']] (vB q) []↔q=dj ⟨b,a,k,c,g⟩ ⟨b',a',k',c',g'⟩:=rL (by
  refine(Kr _ _ _ _ _ _ _ _ _ _ _ ?_).run
  simp only[dh,aT,bL,bK,dj]
  by_cases h2:b=b'<;>simp_all)
@[simp] theorem GJ (b a k c g b' a' k' c' g':Int) (q:Bool):aa C oy [.ag [iI b,iI a,iI k,iI c,iI g],.ag [iI b',iI a',iI k',iI c',iI g']] (vB q) []↔q=kP ⟨b,a,k,c,g⟩ ⟨b',a',k',c',g'⟩:=rL (by
  refine(Ia _ _ _ _ _ _ _ _ _ _ _ ?_).run
  simp only[dh,aT,bL,bK,kP]
  by_cases h2:b=b'<;>simp_all)
@[simp] theorem GK (b a k c g b' a' k' c' g':Int) (q:Bool):aa C ov [.ag [iI b,iI a,iI k,iI c,iI g],.ag [iI b',iI a',iI k',iI c',iI g']] (vB q) []↔q=kP ⟨b,a,k,c,g⟩ ⟨b',a',k',c',g'⟩:=rL (by
  refine(HN _ _ _ _ _ _ _ _ _ _ _ ?_).run
  simp only[dh,aT,bL,bK,kP]
  by_cases h2:b=b'<;>simp_all)
theorem lQ (l:List Key) (x:Key) (hl:l.length≤1073741824):aa C bE [cJ l,Ah x] (cJ (eO l x)) []:=by
 refine(LL _ _ _ _ _ _ _ ?_).run
 have key: ∀(put:Bool) (acc:List Key),acc.length+(l.drop 0).length≤l.length+(if put then 1 else 0)→acc++eM x put (l.drop 0)=eO l x→ah C bE az 4 0 (eJ (l.map bD) put ((0:Nat):Int) x.b x.a x.k x.c x.g (acc.map bD)) (fun u st=>ax C bE az u st fun r fs=>r=cJ (eO l x)∧fs=[]):=by
  refine bk l (fun i=> ∀(put:Bool) (acc:List Key),acc.length+(l.drop i).length≤l.length+(if put then 1 else 0)→acc++eM x put (l.drop i)=eO l x→ah C bE az 4 0 (eJ (l.map bD) put i x.b x.a x.k x.c x.g (acc.map bD)) _) ?_ ?_
  ·intro put acc hb he
   refine zG _ _ _ _ _ _ _ _ _ _ (an (by simp) (HK _ _ _ _ _ _ _ _ _ _ _ ?_))
   simp only[BL,dV,oZ,Bool.true_and,bL,dn,List.length_map]
   have hb2:acc.length≤l.length+1:=by simp at hb;split at hb<;>omega
   rw[cW (by omega)]
   rw[List.drop_length] at he
   cases put<;>simp[eM] at he ⊢ <;>rw[←he]<;>simp
  ·intro i a hi ha hd _ hn put acc hb he
   rw[hd] at hb he
   simp only[List.length_cons] at hb
   have hb':acc.length+(List.drop (i+1) l).length+1≤l.length+1:=by split at hb<;>omega
   refine zG _ _ _ _ _ _ _ _ _ _ (ai (by simp;omega) ?_)
   simp only[mF,aC,ha,Option.some.injEq,exists_eq_left',Be,GK,exists_eq_left,bL,dV,BL,oZ,Bool.true_and,dn,List.length_map,List.length_append,List.length_singleton]
   simp (disch:=omega) only[cW,aB,lN]
   simp only[eM] at he
   cases put<;>cases hk:dj a x<;>cases hs:kP a x<;>simp only[lN,lO]<;>simp[hk,hs] at he hb<;>exact hn _ _ (by simp at hb ⊢;omega) (by simpa using he)
 exact key false [] (by simp) rfl
@[simp] theorem K9 (l:List Key) (hl:l.length≤1073741824) (b a k c g:Int) (q:RR):aa C bE [.c (.sub 5 (l.map bD)),.ag [iI b,iI a,iI k,iI c,iI g]] (.c (.sub 5 q)) []↔q=(eO l ⟨b,a,k,c,g⟩).map bD:=Pk (lQ l ⟨b,a,k,c,g⟩ hl)
theorem oD (l:List Key) (x:Key) (hl:l.length≤1073741824):aa C cG [cJ l,Ah x] (cJ (eO l x)) []:=by
 refine(Mm _ _ _ _ _ _ _ ?_).run
 have key: ∀(put:Bool) (acc:List Key),acc.length+(l.drop 0).length≤l.length+(if put then 1 else 0)→acc++eM x put (l.drop 0)=eO l x→ah C cG az 4 0 (eK put (l.map bD) ((0:Nat):Int) x.b x.a x.k x.c x.g (acc.map bD)) (fun u st=>ax C cG az u st fun r fs=>r=cJ (eO l x)∧fs=[]):=by
  refine bk l (fun i=> ∀(put:Bool) (acc:List Key),acc.length+(l.drop i).length≤l.length+(if put then 1 else 0)→acc++eM x put (l.drop i)=eO l x→ah C cG az 4 0 (eK put (l.map bD) i x.b x.a x.k x.c x.g (acc.map bD)) _) ?_ ?_
  ·intro put acc hb he
   refine Ae _ _ _ _ _ _ _ _ _ _ (an (by simp) (IG _ _ _ _ _ _ _ _ _ _ _ _ ?_))
   simp only[BL,dV,oZ,Bool.true_and,bL,dn,List.length_map]
   have hb2:acc.length≤l.length+1:=by simp at hb;split at hb<;>omega
   rw[cW (by omega)]
   rw[List.drop_length] at he
   cases put<;>simp[eM] at he ⊢ <;>rw[←he]<;>simp
  ·intro i a hi ha hd _ hn put acc hb he
   rw[hd] at hb he
   simp only[List.length_cons] at hb
   have hb':acc.length+(List.drop (i+1) l).length+1≤l.length+1:=by split at hb<;>omega
   refine Ae _ _ _ _ _ _ _ _ _ _ (ai (by simp;omega) ?_)
   simp only[mF,aC,ha,Option.some.injEq,exists_eq_left',Bd,GJ,exists_eq_left,bL,dV,BL,oZ,Bool.true_and,dn,List.length_map,List.length_append,List.length_singleton]
   simp (disch:=omega) only[cW,aB,lN]
   simp only[eM] at he
   cases put<;>cases hk:dj a x<;>cases hs:kP a x<;>simp only[lN,lO]<;>simp[hk,hs] at he hb<;>exact hn _ _ (by simp at hb ⊢;omega) (by simpa using he)
 exact key false [] (by simp) rfl
@[simp] theorem La (l:List Key) (hl:l.length≤1073741824) (b a k c g:Int) (q:RR):aa C cG [.c (.sub 5 (l.map bD)),.ag [iI b,iI a,iI k,iI c,iI g]] (.c (.sub 5 q)) []↔q=(eO l ⟨b,a,k,c,g⟩).map bD:=Pk (oD l ⟨b,a,k,c,g⟩ hl)
theorem CC (old new:List Key) (hl:old.length+new.length≤1073741824):aa C dD [cJ old,cJ new] (cJ (cr old new)) []:=by
 refine(F6 _ _ _ ?_).run
 rw[jF,cW (by simp;omega)]
 refine ai rfl ?_
 have key: ∀(acc:List Key),acc.length+(new.drop 0).length≤old.length+new.length→cr acc (new.drop 0)=cr old new→ah C dD aj 4 0 (jx (new.map bD) ((0:Nat):Int) (acc.map bD)) (fun u st=>ax C dD aj u st fun r fs=>r=(cJ (cr old new))∧fs=[]):=by
  refine bk new (fun i=> ∀(acc:List Key),acc.length+(new.drop i).length≤old.length+new.length→cr acc (new.drop i)=cr old new→ah C dD aj 4 0 (jx (new.map bD) i (acc.map bD)) (fun u st=>ax C dD aj u st fun r fs=>r=(cJ (cr old new))∧fs=[])) ?_ ?_
  ·intro acc h0 h1
   refine td _ _ _ _ (an (by simp) (CZ _ _ _ _ _ ?_))
   rw[List.drop_length] at h1
   rw[←h1]
   exact⟨rfl,by first|rfl|trivial⟩
  ·intro i a hi ha hd ht hn acc h0 h1
   refine td _ _ _ _ (ai (by simp;omega) ?_)
   rw[hd] at h0 h1
   simp only[List.length_cons] at h0
   simp only[mF,K9 acc (by omega),aC,ha,Option.some.injEq,exists_eq_left',exists_eq_left,bL,fQ,iR,dV,fR,ek,fT,fU,iU,dn,natAdd,List.length_map,List.length_append,List.length_singleton,Bool.true_and,Bool.and_true]
   rw[aB (by omega)]
   have h2:=nq acc a
   exact hn _ (by omega) (by rw[←h1];rfl)
 exact key old (by simp) rfl
theorem E0 (old new:List Key) (hl:old.length+new.length≤1073741824) (q:RR):aa C dD [cJ old,cJ new] (.c (.sub 5 q)) []↔q=(cr old new).map bD:=Pk (CC old new hl)
theorem vF (l:List Key) (hl:l.length≤1073741824):aa C cU [cJ l] (cJ (mI l)) []:=by
 refine(PU _ _ ?_).run
 have key: ∀(acc:List Key),acc.length+(l.drop 0).length≤l.length→acc++mI (l.drop 0)=mI l→ah C cU aj 4 0 (mz (l.map bD) ((0:Nat):Int) (acc.map bD)) (fun u st=>ax C cU aj u st fun r fs=>r=(cJ (mI l))∧fs=[]):=by
  refine bk l (fun i=> ∀(acc:List Key),acc.length+(l.drop i).length≤l.length→acc++mI (l.drop i)=mI l→ah C cU aj 4 0 (mz (l.map bD) i (acc.map bD)) (fun u st=>ax C cU aj u st fun r fs=>r=(cJ (mI l))∧fs=[])) ?_ ?_
  ·intro acc h0 h1
   refine B9 _ _ _ _ (an (by simp) (Lv _ _ _ _ _ ?_))
   rw[List.drop_length] at h1
   simp[mI] at h1
   simp[mI,h1]
  ·intro i a hi ha hd ht hn acc h0 h1
   refine B9 _ _ _ _ (ai (by simp;omega) ?_)
   rw[hd] at h0 h1
   simp only[List.length_cons] at h0
   simp only[mF,BL,oZ,aT,bK,aC,ha,Option.some.injEq,exists_eq_left',exists_eq_left,bL,fQ,iR,dV,fR,ek,fT,fU,iU,dn,natAdd,List.length_map,List.length_append,List.length_singleton,Bool.true_and,Bool.and_true]
   simp (disch:=omega) only[cW,aB,lN]
   by_cases hk:a.k=0
   ·rw[if_pos hk]
    exact hn _ (by omega) (by rw[←h1];simp[mI,hk])
   ·rw[if_neg hk]
    exact hn (acc++[a]) (by simp only[List.length_append,List.length_singleton];omega) (by rw[←h1];simp[mI,hk])
 exact key [] (by simp) rfl
theorem tZ (n:List (List Key)) (hb:n.length≤1073741824) (hl:tot bB n≤1073741824):aa C aL [fY n] (cJ (aF n)) []:=by
 refine(H6 _ _ ?_).run
 have key: ∀(acc:List Key),acc.length+tot bB (n.drop 0)≤tot bB n→(n.drop 0).foldl cr acc=rX n→ah C aL aj 4 0 (ki ((0:Nat):Int) (n.map bS) (acc.map bD)) (fun u st=>ax C aL aj u st fun r fs=>r=(cJ (aF n))∧fs=[]):=by
  refine bk n (fun i=> ∀(acc:List Key),acc.length+tot bB (n.drop i)≤tot bB n→(n.drop i).foldl cr acc=rX n→ah C aL aj 4 0 (ki i (n.map bS) (acc.map bD)) (fun u st=>ax C aL aj u st fun r fs=>r=(cJ (aF n))∧fs=[])) ?_ ?_
  ·intro acc h0 h1
   refine va _ _ _ _ (an (by simp) (Eg _ _ _ _ _ ?_))
   rw[List.drop_length] at h0 h1
   simp only[List.foldl_nil] at h1
   refine⟨_,vF acc (by omega),?_⟩
   rw[h1]
   exact⟨rfl,by first|rfl|trivial⟩
  ·intro i a hi ha hd ht hn acc h0 h1
   refine va _ _ _ _ (ai (by simp;omega) ?_)
   rw[hd] at h0 h1
   simp only[tot,bB] at h0
   simp only[sr,E0 acc a (by omega),aC,ha,Option.some.injEq,exists_eq_left',exists_eq_left,bL,fQ,iR,dV,fR,ek,fT,fU,iU,dn,natAdd,List.length_map,List.length_append,List.length_singleton,Bool.true_and,Bool.and_true]
   rw[aB (by omega)]
   have h2:=qx a acc
   exact hn _ (by omega) (by rw[←h1];rfl)
 exact key [] (by simp) rfl
theorem dU (n:List (List Key)) (hb:n.length≤1073741824) (hl:tot bB n≤1073741824) (q:RR):aa C aL [.ag [.sub 1 (n.map bS)]] (.c (.sub 5 q)) []↔q=(aF n).map bD:=Pk (tZ n hb hl)
theorem pT (t:Tree) (hl:dO t≤1073741824):aa C dI [dG t] (cJ (aK t)) []:=by
 refine(HW _ _ _ ?_).run
 have key: ∀(acc:List Key),acc.length+tot aH (t.nodes.drop 0)≤tot aH t.nodes→acc++(t.nodes.drop 0).flatMap aF=aK t→ah C dI aj 4 0 (kg ((0:Nat):Int) (t.lows.map bG) (t.nodes.map aI) (acc.map bD)) (fun u st=>ax C dI aj u st fun r fs=>r=(cJ (aK t))∧fs=[]):=by
  refine bk t.nodes (fun i=> ∀(acc:List Key),acc.length+tot aH (t.nodes.drop i)≤tot aH t.nodes→acc++(t.nodes.drop i).flatMap aF=aK t→ah C dI aj 4 0 (kg i (t.lows.map bG) (t.nodes.map aI) (acc.map bD)) (fun u st=>ax C dI aj u st fun r fs=>r=(cJ (aK t))∧fs=[])) ?_ ?_
  ·intro acc h0 h1
   refine u9 _ _ _ _ _ (an (by simp) (Ef _ _ _ _ _ _ ?_))
   rw[List.drop_length] at h1
   simp at h1
   simp[h1]
  ·intro i a hi ha hd ht hn acc h0 h1
   refine u9 _ _ _ _ _ (ai (by have:=hi;unfold dO pN at hl;simp;omega) ?_)
   have hz:a.length+tot bB a≤tot aH t.nodes:=jR (w:=aH) ha
   rw[hd] at h0 h1
   simp only[tot,aH] at h0
   unfold dO pN at hl
   have h2:=cE a
   simp only[RO,rK,dU a (by omega) (by omega),jF,aC,ha,Option.some.injEq,exists_eq_left',exists_eq_left,bL,fQ,iR,dV,fR,ek,fT,fU,iU,dn,natAdd,List.length_map,List.length_append,List.length_singleton,Bool.true_and,Bool.and_true]
   rw[cW (by omega),aB (by omega)]
   refine ai rfl ?_
   rw[←List.map_append]
   exact hn _ (by simp;omega) (by rw[←h1];simp)
 exact key [] (by simp) rfl
theorem mK (l:List Key) (hl:l.length≤2147483648):aa C mw [cJ l] (cJ l) []:=by
 refine(Hr _ _ ?_).run
 rw[jF,cW (by simp;omega)]
 exact⟨rfl,by first|rfl|trivial⟩
theorem CD (old new:List Key) (hl:old.length+new.length≤1073741824):aa C dF [cJ old,cJ new] (cJ (cr old new)) []:=by
 refine(FJ _ _ _ ?_).run
 refine⟨_,mK old (by omega),?_⟩
 have key: ∀(acc:List Key),acc.length+(new.drop 0).length≤old.length+new.length→cr acc (new.drop 0)=cr old new→ah C dF aj 4 0 (jw (new.map bD) ((0:Nat):Int) (acc.map bD)) (fun u st=>ax C dF aj u st fun r fs=>r=(cJ (cr old new))∧fs=[]):=by
  refine bk new (fun i=> ∀(acc:List Key),acc.length+(new.drop i).length≤old.length+new.length→cr acc (new.drop i)=cr old new→ah C dF aj 4 0 (jw (new.map bD) i (acc.map bD)) (fun u st=>ax C dF aj u st fun r fs=>r=(cJ (cr old new))∧fs=[])) ?_ ?_
  ·intro acc h0 h1
   refine sW _ _ _ _ (an (by simp) (CU _ _ _ _ _ _ ?_))
   rw[List.drop_length] at h1
   rw[←h1]
   exact⟨rfl,by first|rfl|trivial⟩
  ·intro i a hi ha hd ht hn acc h0 h1
   refine sW _ _ _ _ (ai (by simp;omega) ?_)
   rw[hd] at h0 h1
   simp only[List.length_cons] at h0
   simp only[mF,La acc (by omega),aC,ha,Option.some.injEq,exists_eq_left',exists_eq_left,bL,fQ,iR,dV,fR,ek,fT,fU,iU,dn,natAdd,List.length_map,List.length_append,List.length_singleton,Bool.true_and,Bool.and_true]
   rw[aB (by omega)]
   have h2:=nq acc a
   exact hn _ (by omega) (by rw[←h1];rfl)
 exact key old (by simp) rfl
theorem E1 (old new:List Key) (hl:old.length+new.length≤1073741824) (q:RR):aa C dF [cJ old,cJ new] (.c (.sub 5 q)) []↔q=(cr old new).map bD:=Pk (CD old new hl)
theorem B1 (l:List Key) (hl:l.length≤1073741824):aa C iz [cJ l] (cJ (mI l)) []:=by
 refine(PW _ _ ?_).run
 have key: ∀(acc:List Key),acc.length+(l.drop 0).length≤l.length→acc++mI (l.drop 0)=mI l→ah C iz aj 4 0 (mA (l.map bD) ((0:Nat):Int) (acc.map bD)) (fun u st=>ax C iz aj u st fun r fs=>r=(cJ (mI l))∧fs=[]):=by
  refine bk l (fun i=> ∀(acc:List Key),acc.length+(l.drop i).length≤l.length→acc++mI (l.drop i)=mI l→ah C iz aj 4 0 (mA (l.map bD) i (acc.map bD)) (fun u st=>ax C iz aj u st fun r fs=>r=(cJ (mI l))∧fs=[])) ?_ ?_
  ·intro acc h0 h1
   refine Ca _ _ _ _ (an (by simp) (LR _ _ _ _ _ _ ?_))
   rw[List.drop_length] at h1
   simp[mI] at h1
   simp[mI,h1]
  ·intro i a hi ha hd ht hn acc h0 h1
   refine Ca _ _ _ _ (ai (by simp;omega) ?_)
   rw[hd] at h0 h1
   simp only[List.length_cons] at h0
   simp only[mF,BL,oZ,aT,bK,aC,ha,Option.some.injEq,exists_eq_left',exists_eq_left,bL,fQ,iR,dV,fR,ek,fT,fU,iU,dn,natAdd,List.length_map,List.length_append,List.length_singleton,Bool.true_and,Bool.and_true]
   simp (disch:=omega) only[cW,aB,lN]
   by_cases hk:a.k=0
   ·rw[if_pos hk]
    exact hn _ (by omega) (by rw[←h1];simp[mI,hk])
   ·rw[if_neg hk]
    exact hn (acc++[a]) (by simp only[List.length_append,List.length_singleton];omega) (by rw[←h1];simp[mI,hk])
 exact key [] (by simp) rfl
theorem DH (n:List (List Key)) (hb:n.length≤1073741824) (hl:tot bB n≤1073741824):aa C cj [fY n] (cJ (aF n)) []:=by
 refine(H7 _ _ ?_).run
 have key: ∀(acc:List Key),acc.length+tot bB (n.drop 0)≤tot bB n→(n.drop 0).foldl cr acc=rX n→ah C cj aj 4 0 (kj (n.map bS) ((0:Nat):Int) (acc.map bD)) (fun u st=>ax C cj aj u st fun r fs=>r=(cJ (aF n))∧fs=[]):=by
  refine bk n (fun i=> ∀(acc:List Key),acc.length+tot bB (n.drop i)≤tot bB n→(n.drop i).foldl cr acc=rX n→ah C cj aj 4 0 (kj (n.map bS) i (acc.map bD)) (fun u st=>ax C cj aj u st fun r fs=>r=(cJ (aF n))∧fs=[])) ?_ ?_
  ·intro acc h0 h1
   refine ve _ _ _ _ (an (by simp) (Eh _ _ _ _ _ _ ?_))
   rw[List.drop_length] at h0 h1
   simp only[List.foldl_nil] at h1
   refine⟨_,B1 acc (by omega),?_⟩
   rw[h1]
   exact⟨rfl,by first|rfl|trivial⟩
  ·intro i a hi ha hd ht hn acc h0 h1
   refine ve _ _ _ _ (ai (by simp;omega) ?_)
   rw[hd] at h0 h1
   simp only[tot,bB] at h0
   simp only[sr,E1 acc a (by omega),aC,ha,Option.some.injEq,exists_eq_left',exists_eq_left,bL,fQ,iR,dV,fR,ek,fT,fU,iU,dn,natAdd,List.length_map,List.length_append,List.length_singleton,Bool.true_and,Bool.and_true]
   rw[aB (by omega)]
   have h2:=qx a acc
   exact hn _ (by omega) (by rw[←h1];rfl)
 exact key [] (by simp) rfl
theorem iG (n:List (List Key)) (hb:n.length≤1073741824) (hl:tot bB n≤1073741824) (q:RR):aa C cj [.ag [.sub 1 (n.map bS)]] (.c (.sub 5 q)) []↔q=(aF n).map bD:=Pk (DH n hb hl)
theorem ua (t:Tree) (hl:dO t≤1073741824):aa C dX [dG t] (cJ (aK t)) []:=by
 refine(HC _ _ _ ?_).run
 have key: ∀(acc:List Key),acc.length+tot aH (t.nodes.drop 0)≤tot aH t.nodes→acc++(t.nodes.drop 0).flatMap aF=aK t→ah C dX aj 4 0 (ke (t.nodes.map aI) ((0:Nat):Int) (acc.map bD)) (fun u st=>ax C dX aj u st fun r fs=>r=(cJ (aK t))∧fs=[]):=by
  refine bk t.nodes (fun i=> ∀(acc:List Key),acc.length+tot aH (t.nodes.drop i)≤tot aH t.nodes→acc++(t.nodes.drop i).flatMap aF=aK t→ah C dX aj 4 0 (ke (t.nodes.map aI) i (acc.map bD)) (fun u st=>ax C dX aj u st fun r fs=>r=(cJ (aK t))∧fs=[])) ?_ ?_
  ·intro acc h0 h1
   refine uW _ _ _ _ (an (by simp) (D5 _ _ _ _ _ _ ?_))
   rw[List.drop_length] at h1
   simp at h1
   simp[h1]
  ·intro i a hi ha hd ht hn acc h0 h1
   refine uW _ _ _ _ (ai (by have:=hi;unfold dO pN at hl;simp;omega) ?_)
   have hz:a.length+tot bB a≤tot aH t.nodes:=jR (w:=aH) ha
   rw[hd] at h0 h1
   simp only[tot,aH] at h0
   unfold dO pN at hl
   have h2:=cE a
   simp only[RO,rK,iG a (by omega) (by omega),jF,aC,ha,Option.some.injEq,exists_eq_left',exists_eq_left,bL,fQ,iR,dV,fR,ek,fT,fU,iU,dn,natAdd,List.length_map,List.length_append,List.length_singleton,Bool.true_and,Bool.and_true]
   rw[cW (by omega),aB (by omega)]
   refine ai rfl ?_
   rw[←List.map_append]
   exact hn _ (by simp;omega) (by rw[←h1];simp)
 exact key [] (by simp) rfl
theorem J4 (l:List Age) (id:Int) (hl:l.length≤1073741824):aa C dR [jP l,vI id] (vI (jd l id)) []:=by
 refine(N6 _ _ _ ?_).run
 have key:jC (fun a:Age=>decide (a.id=id)) (l.drop 0) ((0:Nat):Int)=jC (fun a:Age=>decide (a.id=id)) l 0→ah C dR ak 4 0 (nt (l.map di) id ((0:Nat):Int)) (fun u st=>ax C dR ak u st fun r fs=>r=vI (jd l id)∧fs=[]):=by
  refine bk l (fun i=>jC (fun a:Age=>decide (a.id=id)) (l.drop i) (i:Int)=jC (fun a:Age=>decide (a.id=id)) l 0→ah C dR ak 4 0 (nt (l.map di) id i) _) ?_ ?_
  ·intro h0
   refine Bp _ _ _ _ (an (by simp) (Kq _ _ _ _ _ ?_))
   rw[List.drop_length] at h0
   simp only[jC] at h0
   change _=vI (jC (fun a:Age=>decide (a.id=id)) l 0)∧_
   rw[←h0]
   exact⟨rfl,by first|rfl|trivial⟩
  ·intro i a hi ha hd htk hn h0
   refine Bp _ _ _ _ (ai (by simp;omega) ?_)
   rw[hd] at h0
   simp only[jC] at h0
   simp only[vw,aT,bK,aC,ha,Option.some.injEq,exists_eq_left',exists_eq_left,bL,fQ,iR,dV,fR,ek,fT,fU,iU,dn,natAdd,List.length_map,List.length_append,List.length_singleton,Bool.true_and,Bool.and_true]
   rw[aB (by omega)]
   split at h0
   ·rename_i hp
    have hp:=of_decide_eq_true hp
    first|rw[if_pos hp]|rw[if_pos hp.symm]
    refine Ko _ _ ?_
    rw[h0]
    exact⟨rfl,by first|rfl|trivial⟩
   ·rename_i hp
    have hp: ¬_:=fun h=>hp (decide_eq_true h)
    first|rw[if_neg hp]|rw[if_neg (fun h=>hp h.symm)]
    exact hn h0
 exact key rfl
@[simp] theorem J5 (a b id:Int) (q:Bool):aa C rO [.ag [iI a,iI b],.bx [iI id]] (vB q) []↔q=decide (a=id):=rL (by
  refine(KO _ _ _ _ ?_).run
  simp)
theorem Lb (l:List Age) (id:Int) (hl:l.length≤1073741824):aa C cc [jP l,.fn rO [[iI id]]] (vI (jd l id)) []:=by
 refine(oz _ _ _ ?_).run
 have key:jC (fun a:Age=>decide (a.id=id)) (l.drop 0) ((0:Nat):Int)=jC (fun a:Age=>decide (a.id=id)) l 0→ah C cc ak 4 0 (cF (l.map di) ((0:Nat):Int) id) (fun u st=>ax C cc ak u st fun r fs=>r=vI (jd l id)∧fs=[]):=by
  refine bk l (fun i=>jC (fun a:Age=>decide (a.id=id)) (l.drop i) (i:Int)=jC (fun a:Age=>decide (a.id=id)) l 0→ah C cc ak 4 0 (cF (l.map di) i id) _) ?_ ?_
  ·intro h0
   refine iF _ _ _ _ (an (by simp) (nU _ _ _ _ _ _ ?_))
   rw[List.drop_length] at h0
   simp only[jC] at h0
   change _=vI (jC (fun a:Age=>decide (a.id=id)) l 0)∧_
   rw[←h0]
   exact⟨rfl,by first|rfl|trivial⟩
  ·intro i a hi ha hd htk hn h0
   refine iF _ _ _ _ (ai (by simp;omega) ?_)
   rw[hd] at h0
   simp only[jC] at h0
   simp only[vw,aT,J5,bK,aC,ha,Option.some.injEq,exists_eq_left',exists_eq_left,bL,fQ,iR,dV,fR,ek,fT,fU,iU,dn,natAdd,List.length_map,List.length_append,List.length_singleton,Bool.true_and,Bool.and_true]
   rw[aB (by omega)]
   split at h0
   ·rename_i hp
    have hp:=of_decide_eq_true hp
    first|rw[if_pos hp]|rw[if_pos hp.symm]
    refine nT _ _ _ ?_
    rw[h0]
    exact⟨rfl,by first|rfl|trivial⟩
   ·rename_i hp
    have hp: ¬_:=fun h=>hp (decide_eq_true h)
    first|rw[if_neg hp]|rw[if_neg (fun h=>hp h.symm)]
    exact hn h0
 exact key rfl
theorem J6 (l:List Age) (id:Int) (hl:l.length≤1073741824):aa C ju [jP l,vI id] (vI (jd l id)) []:=(Ob _ _ _ ⟨_,Lb l id hl,rfl,by first|rfl|trivial⟩).run
theorem yf (l:List Age) (id:Int) (hl:l.length≤1073741824) (q:Int):aa C dR [jP l,vI id] (vI q) []↔q=jd l id:=UC (J4 l id hl)
theorem yg (l:List Age) (id:Int) (hl:l.length≤1073741824) (q:Int):aa C ju [jP l,vI id] (vI q) []↔q=jd l id:=UC (J6 l id hl)
@[simp] theorem B2 (a:Int) (q:Bool):aa C tW [vI a] (vB q) []↔q=mH a:=rL ((Mc _ _ ⟨_,Bb _ _ _,rfl,by first|rfl|trivial⟩).run)
theorem GL (l:List Cell) (i gen:Int) (hl:l.length≤1073741824):aa C qI [e9 l,vI i,vI gen] (Zr (cellAt l i gen)) []:=by
 refine(LO _ _ _ _ ?_).run
 simp only[Bc,exists_eq_left,List.length_map,Int.ofNat_eq_natCast,bL,kH]
 rw[dN (by omega)]
 by_cases h:0≤i∧i<l.length
 ·obtain⟨a,ha⟩:=qm h.1 h.2
  have e:iQ i 0 ((l.length:Int)-1)=true:=decide_eq_true (by omega)
  simp only[e,lN,ha,Option.some.injEq,exists_eq_left',aT,bK,cellAt]
  cases h1:a.u<;>by_cases h2:a.g=gen<;>simp[h1,h2]
 ·have e:iQ i 0 ((l.length:Int)-1)=false:=decide_eq_false (by omega)
  have hn:fE l i=none:=nD h
  simp[e,cellAt,hn]
theorem Lc (l:List Cell) (hl:l.length≤1073741824) (i gen:Int) (n:Int) (q:Bool):aa C qI [e9 l,vI i,vI gen] (.tu [(0,[iI n]),(0,[iB q])]) []↔n=(cellAt l i gen).1∧q=(cellAt l i gen).2:=WI (GL l i gen hl)
theorem CF (l:List Cell) (hl:l.length≤1073741824):aa C dA [e9 l] (vI (bq l)) []:=by
 refine(F4 _ _ ?_).run
 have key: ∀(n:Nat),n+(l.drop 0).length≤l.length→n+bq (l.drop 0)=bq l→ah C dA aj 4 0 (gV (l.map bJ) n ((0:Nat):Int)) (fun u st=>ax C dA aj u st fun r fs=>r=(vI (bq l))∧fs=[]):=by
  refine bk l (fun i=> ∀(n:Nat),n+(l.drop i).length≤l.length→n+bq (l.drop i)=bq l→ah C dA aj 4 0 (gV (l.map bJ) n i) (fun u st=>ax C dA aj u st fun r fs=>r=(vI (bq l))∧fs=[])) ?_ ?_
  ·intro n h0 h1
   refine sZ _ _ _ _ (an (by simp) (CX _ _ _ _ _ ?_))
   rw[List.drop_length] at h1
   simp[bq] at h1
   simp[h1,bq]
  ·intro i a hi ha hd ht hn n h0 h1
   refine sZ _ _ _ _ (ai (by simp;omega) ?_)
   rw[hd] at h0 h1
   simp only[List.length_cons] at h0
   simp only[kH,aC,ha,Option.some.injEq,exists_eq_left',exists_eq_left,bL,fQ,iR,dV,fR,ek,fT,fU,iU,dn,natAdd,List.length_map,List.length_append,List.length_singleton,Bool.true_and,Bool.and_true]
   rw[aB (by omega),aB (by omega)]
   cases hu:a.u
   ·exact hn n (by omega) (by rw[←h1];simp[bq,hu])
   ·exact hn (n+1) (by omega) (by rw[←h1];simp[bq,hu];omega)
 exact key 0 (by simp) (by simp)
theorem E2 (l:List Cell) (hl:l.length≤1073741824):aa C cM [e9 l] (vB ((l.all gH&&decide (l.length=24)))) []:=by
 refine(KS _ _ ?_).run
 have key:((l.drop 0).all gH&&decide (l.length=24))=(l.all gH&&decide (l.length=24))→ah C cM ak 4 0 (gX (l.map bJ) ((0:Nat):Int)) (fun u st=>ax C cM ak u st fun r fs=>r=vB ((l.all gH&&decide (l.length=24)))∧fs=[]):=by
  refine bk l (fun i=>((l.drop i).all gH&&decide (l.length=24))=(l.all gH&&decide (l.length=24))→ah C cM ak 4 0 (gX (l.map bJ) i) (fun u st=>ax C cM ak u st fun r fs=>r=vB ((l.all gH&&decide (l.length=24)))∧fs=[])) ?_ ?_
  ·intro h0
   refine xx _ _ _ (an (by simp) (Gd _ _ _ _ ?_))
   rw[List.drop_length] at h0
   simp only[List.all_nil,Bool.true_and] at h0
   rw[←h0]
   simp[aT]
   try omega
  ·intro i a hi ha hd htk hn h0
   have gO:gH a=false→(l.all gH&&decide (l.length=24))=false:=fun e=>by rw[←h0,hd];simp[e]
   have gN:gH a=true→ah C cM ak 4 0 (gX (l.map bJ) ((i:Int)+1)) (fun u st=>ax C cM ak u st fun r fs=>r=vB ((l.all gH&&decide (l.length=24)))∧fs=[]):=fun e=>hn (by rw[←h0,hd];simp[e])
   refine xx _ _ _ (ai (by simp;omega) ?_)
   simp only[kH,Bc,B2,aT,aC,ha,Option.some.injEq,exists_eq_left',exists_eq_left,bL,fQ,iR,dV,fR,ek,fT,fU,iU,dn,natAdd,List.length_map,List.length_append,List.length_singleton,Bool.true_and,Bool.and_true]
   rw[aB (by omega)]
   cases h1:iQ a.g 0 999<;>cases h2:mH a.n<;>cases h3:a.u<;>by_cases h4:a.n=0<;>simp only[h1,h2,h3,h4,lN,lO,decide_true,decide_false,not_true_eq_false,not_false_eq_true,Bool.not_true,Bool.not_false]<;>first|exact gN (by unfold gH;rw[h1,h2,h3];simp[h4])|exact Gc _ (by rw[gO (by unfold gH;rw[h1,h2,h3];simp[h4])];exact⟨rfl,by first|rfl|trivial⟩)
 exact key rfl
theorem sy (l:List Cell) (hl:l.length≤1073741824) (q:Bool):aa C cM [e9 l] (vB q) []↔q=cK l:=rL (E2 l hl)
@[simp] theorem B3 (a:Int) (q:Bool):aa C tX [vI a] (vB q) []↔q=mH a:=rL ((Lq _ _ ⟨_,sx _ _ _,rfl,by first|rfl|trivial⟩).run)
theorem GM (l:List Cell) (i gen:Int) (hl:l.length≤1073741824):aa C qJ [e9 l,vI i,vI gen] (Zr (cellAt l i gen)) []:=by
 refine(LP _ _ _ _ ?_).run
 simp only[qL,exists_eq_left,List.length_map,Int.ofNat_eq_natCast,bL,kH]
 rw[dN (by omega)]
 by_cases h:0≤i∧i<l.length
 ·obtain⟨a,ha⟩:=qm h.1 h.2
  have e:iQ i 0 ((l.length:Int)-1)=true:=decide_eq_true (by omega)
  simp only[e,lN,ha,Option.some.injEq,exists_eq_left',aT,bK,cellAt]
  cases h1:a.u<;>by_cases h2:a.g=gen<;>simp[h1,h2]
 ·have e:iQ i 0 ((l.length:Int)-1)=false:=decide_eq_false (by omega)
  have hn:fE l i=none:=nD h
  simp[e,cellAt,hn]
theorem Ld (l:List Cell) (hl:l.length≤1073741824) (i gen:Int) (n:Int) (q:Bool):aa C qJ [e9 l,vI i,vI gen] (.tu [(0,[iI n]),(0,[iB q])]) []↔n=(cellAt l i gen).1∧q=(cellAt l i gen).2:=WI (GM l i gen hl)
theorem CG (l:List Cell) (hl:l.length≤1073741824):aa C dB [e9 l] (vI (bq l)) []:=by
 refine(F5 _ _ ?_).run
 have key: ∀(n:Nat),n+(l.drop 0).length≤l.length→n+bq (l.drop 0)=bq l→ah C dB aj 4 0 (gW n (l.map bJ) ((0:Nat):Int)) (fun u st=>ax C dB aj u st fun r fs=>r=(vI (bq l))∧fs=[]):=by
  refine bk l (fun i=> ∀(n:Nat),n+(l.drop i).length≤l.length→n+bq (l.drop i)=bq l→ah C dB aj 4 0 (gW n (l.map bJ) i) (fun u st=>ax C dB aj u st fun r fs=>r=(vI (bq l))∧fs=[])) ?_ ?_
  ·intro n h0 h1
   refine ta _ _ _ _ (an (by simp) (CY _ _ _ _ _ _ ?_))
   rw[List.drop_length] at h1
   simp[bq] at h1
   simp[h1,bq]
  ·intro i a hi ha hd ht hn n h0 h1
   refine ta _ _ _ _ (ai (by simp;omega) ?_)
   rw[hd] at h0 h1
   simp only[List.length_cons] at h0
   simp only[kH,aC,ha,Option.some.injEq,exists_eq_left',exists_eq_left,bL,fQ,iR,dV,fR,ek,fT,fU,iU,dn,natAdd,List.length_map,List.length_append,List.length_singleton,Bool.true_and,Bool.and_true]
   rw[aB (by omega),aB (by omega)]
   cases hu:a.u
   ·exact hn n (by omega) (by rw[←h1];simp[bq,hu])
   ·exact hn (n+1) (by omega) (by rw[←h1];simp[bq,hu];omega)
 exact key 0 (by simp) (by simp)
theorem E3 (l:List Cell) (hl:l.length≤1073741824):aa C cN [e9 l] (vB ((l.all gH&&decide (l.length=24)))) []:=by
 refine(KG _ _ ?_).run
 have key:((l.drop 0).all gH&&decide (l.length=24))=(l.all gH&&decide (l.length=24))→ah C cN ak 4 0 (gU (l.map bJ) ((0:Nat):Int)) (fun u st=>ax C cN ak u st fun r fs=>r=vB ((l.all gH&&decide (l.length=24)))∧fs=[]):=by
  refine bk l (fun i=>((l.drop i).all gH&&decide (l.length=24))=(l.all gH&&decide (l.length=24))→ah C cN ak 4 0 (gU (l.map bJ) i) (fun u st=>ax C cN ak u st fun r fs=>r=vB ((l.all gH&&decide (l.length=24)))∧fs=[])) ?_ ?_
  ·intro h0
   refine xo _ _ _ (an (by simp) (F2 _ _ _ _ _ ?_))
   rw[List.drop_length] at h0
   simp only[List.all_nil,Bool.true_and] at h0
   rw[←h0]
   simp[aT]
   try omega
  ·intro i a hi ha hd htk hn h0
   have gO:gH a=false→(l.all gH&&decide (l.length=24))=false:=fun e=>by rw[←h0,hd];simp[e]
   have gN:gH a=true→ah C cN ak 4 0 (gU (l.map bJ) ((i:Int)+1)) (fun u st=>ax C cN ak u st fun r fs=>r=vB ((l.all gH&&decide (l.length=24)))∧fs=[]):=fun e=>hn (by rw[←h0,hd];simp[e])
   refine xo _ _ _ (ai (by simp;omega) ?_)
   simp only[kH,qL,B3,aT,aC,ha,Option.some.injEq,exists_eq_left',exists_eq_left,bL,fQ,iR,dV,fR,ek,fT,fU,iU,dn,natAdd,List.length_map,List.length_append,List.length_singleton,Bool.true_and,Bool.and_true]
   rw[aB (by omega)]
   cases h1:iQ a.g 0 999<;>cases h2:mH a.n<;>cases h3:a.u<;>by_cases h4:a.n=0<;>simp only[h1,h2,h3,h4,lN,lO,decide_true,decide_false,not_true_eq_false,not_false_eq_true,Bool.not_true,Bool.not_false]<;>first|exact gN (by unfold gH;rw[h1,h2,h3];simp[h4])|exact F1 _ _ _ _ (by rw[gO (by unfold gH;rw[h1,h2,h3];simp[h4])];exact⟨rfl,by first|rfl|trivial⟩)
 exact key rfl
theorem sA (l:List Cell) (hl:l.length≤1073741824) (q:Bool):aa C cN [e9 l] (vB q) []↔q=cK l:=rL (E3 l hl)
theorem GN (s:ByteArray) (hl:s.size≤140737488355328):aa C dL [vS s] (vB ((cv s.size (dz s)&&iQ s.size 1 6))) []:=by
 refine(Me _ _ ?_).run
 have key:((List.range' 0 (s.size-0)).all (dz s)&&iQ s.size 1 6)=(cv s.size (dz s)&&iQ s.size 1 6)→ah C dL ak 4 0 (iN s ((0:Nat):Int)) (fun u st=>ax C dL ak u st fun r fs=>r=vB ((cv s.size (dz s)&&iQ s.size 1 6))∧fs=[]):=by
  refine nj (s.size) (fun i=>((List.range' i (s.size-i)).all (dz s)&&iQ s.size 1 6)=(cv s.size (dz s)&&iQ s.size 1 6)→ah C dL ak 4 0 (iN s i) (fun u st=>ax C dL ak u st fun r fs=>r=vB ((cv s.size (dz s)&&iQ s.size 1 6))∧fs=[])) ?_ ?_
  ·intro h0
   refine zX _ _ _ (an (by simp) (Is _ _ _ _ ?_))
   rw[Nat.sub_self] at h0
   simp only[List.range'_zero,List.all_nil,Bool.true_and] at h0
   rw[←h0]
   simp only[Bc,exists_eq_left,ER,Int.ofNat_eq_natCast]
   simp
  ·intro i hi hn h0
   rw[jo hi,List.all_cons] at h0
   have gO:(dz s) i=false→(cv s.size (dz s)&&iQ s.size 1 6)=false:=fun e=>by rw[←h0,e];rfl
   have gN:(dz s) i=true→ah C dL ak 4 0 (iN s ((i:Int)+1)) (fun u st=>ax C dL ak u st fun r fs=>r=vB ((cv s.size (dz s)&&iQ s.size 1 6))∧fs=[]):=fun e=>hn (by rw[←h0,e];rfl)
   refine zX _ _ _ (ai (by simp;omega) ?_)
   obtain⟨n,hb,hn0,hn1⟩:=MU hi
   have hw:q7 .i64 n=n:=Pm (by omega)
   simp only[hb,Option.some.injEq,exists_eq_left',Bc,exists_eq_left,hw,bL]
   rw[aB (by omega)]
   have e:dz s i=(iQ n 97 122||iQ n 48 57):=by unfold dz;rw[hb];rfl
   rw[e] at gO gN
   cases h1:iQ n 97 122<;>cases h2:iQ n 48 57<;>simp only[lN,lO]<;>first|exact gN (by rw[h1,h2];rfl)|exact Ir _ (by rw[gO (by rw[h1,h2];rfl)];exact⟨rfl,by first|rfl|trivial⟩)
 exact key rfl
theorem Le (s:ByteArray) (hl:s.size≤140737488355328) (q:Bool):aa C dL [vS s] (vB q) []↔q=AO s:=rL (GN s hl)
theorem WM (l:List Age): ∀(id:Int),id=0→iT l id=[]:=fun id h=>if_pos h
theorem GO (l:List Age) (id:Int) (hl:l.length≤1073741824):aa C eE [jP l,vI id] (p7 (iT l id)) []:=by
 refine(L3 _ _ _ ?_).run
 have key: ∀(acc:List Int),acc.length+(l.drop 0).length≤l.length→acc++iT (l.drop 0) id=iT l id→ah C eE aj 4 0 (iM (l.map di) id ((0:Nat):Int) (acc.map bG)) (fun u st=>ax C eE aj u st fun r fs=>r=(p7 (iT l id))∧fs=[]):=by
  refine bk l (fun i=> ∀(acc:List Int),acc.length+(l.drop i).length≤l.length→acc++iT (l.drop i) id=iT l id→ah C eE aj 4 0 (iM (l.map di) id i (acc.map bG)) (fun u st=>ax C eE aj u st fun r fs=>r=(p7 (iT l id))∧fs=[])) ?_ ?_
  ·intro acc h0 h1
   refine zQ _ _ _ _ _ (an (by simp) (H9 _ _ _ _ _ _ ?_))
   rw[List.drop_length] at h1
   simp[iT] at h1
   simp[iT,h1]
  ·intro i a hi ha hd ht hn acc h0 h1
   refine zQ _ _ _ _ _ (ai (by simp;omega) ?_)
   rw[hd] at h0 h1
   simp only[List.length_cons] at h0
   simp only[vw,RS,Uw,aT,bK,aC,ha,Option.some.injEq,exists_eq_left',exists_eq_left,bL,fQ,iR,dV,fR,ek,fT,fU,iU,dn,natAdd,List.length_map,List.length_append,List.length_singleton,Bool.true_and,Bool.and_true]
   simp (disch:=omega) only[cW,aB,lN]
   by_cases hz:id=0
   ·rw[WM _ _ hz] at h1
    have e: ∀(A B:Prop),(if a.fr=id then(if id=0 then A else B) else A)=if a.fr=id then A else A:=fun A B=>by rw[if_pos hz]
    rw[e,ite_self]
    exact hn _ (by omega) (by rw[WM _ _ hz,←h1])
   by_cases hk:a.fr=id
   ·rw[if_pos hk,if_neg hz]
    exact hn (acc++[a.id]) (by simp only[List.length_append,List.length_singleton];omega) (by rw[←h1];simp[iT,hk,hz])
   ·rw[if_neg hk]
    exact hn _ (by omega) (by rw[←h1];simp[iT,hk,hz])
 exact key [] (by simp) rfl
theorem E4 (l:List Key) (hl:l.length≤1073741824):aa C gn [cJ l] (vB (cv l.length (gz l dj))) []:=by
 refine(KB _ _ ?_).run
 have key: ∀(k i:Nat),i+k=l.length→1≤i→(List.range' i k).all (gz l dj)=cv l.length (gz l dj)→ah C gn ak 4 0 (nM (l.map bD) i) (fun u st=>ax C gn ak u st fun r fs=>r=vB (cv l.length (gz l dj))∧fs=[]):=by
  intro k
  induction k with
  |zero=>
   intro i h h1 h0
   refine qt _ _ _ (an (by simp;omega) (xh _ _ _ _ ?_))
   simp only[List.range'_zero,List.all_nil] at h0
   rw[←h0];exact⟨rfl,by first|rfl|trivial⟩
  |succ k ih=>
   intro i h h1 h0
   obtain⟨j,rfl⟩: ∃j,i=j+1:=⟨i-1,by omega⟩
   have hj:l[j]?=some l[j]:=List.getElem?_eq_getElem (by omega)
   have hj1:l[j+1]?=some l[j+1]:=List.getElem?_eq_getElem (by omega)
   have e:gz l dj (j+1)=dj l[j] l[j+1]:=by simp only[gz,hj,hj1]
   rw[List.range'_succ,List.all_cons,e] at h0
   refine qt _ _ _ (ai (by simp;omega) ?_)
   rw[dN (by omega),show((j+1:Nat):Int)-1=(j:Int) by omega]
   simp only[mF,aC,hj,hj1,Option.some.injEq,exists_eq_left',Be,exists_eq_left,dV,bL]
   rw[aB (by omega)]
   cases hb:dj l[j] l[j+1] with
   |true=>
    rw[hb,Bool.true_and] at h0
    exact ai rfl (ih (j+1+1) (by omega) (by omega) h0)
   |false=>
    rw[hb,Bool.false_and] at h0
    refine an rfl (FW _ ?_)
    rw[←h0];exact⟨rfl,by first|rfl|trivial⟩
 cases hz:l.length with
 |zero=>
  have:l=[]:=List.eq_nil_of_length_eq_zero hz
  subst this
  exact qt _ _ _ (an (by simp) (xh _ _ _ _ ⟨rfl,by first|rfl|trivial⟩))
 |succ n=>
  rw[hz] at key
  exact key n 1 (by omega) (by omega) (by unfold cv;rw[List.range'_succ,List.all_cons];rfl)
theorem J7 (l:List Key) (hl:l.length≤1073741824):aa C eg [cJ l] (vB ((l.all ga&&(cv l.length (gz l dj)&&decide (l.length≤60))))) []:=by
 refine(Oj _ _ ?_).run
 have key:((l.drop 0).all ga&&(cv l.length (gz l dj)&&decide (l.length≤60)))=(l.all ga&&(cv l.length (gz l dj)&&decide (l.length≤60)))→ah C eg ak 4 0 (kZ (l.map bD) ((0:Nat):Int)) (fun u st=>ax C eg ak u st fun r fs=>r=vB ((l.all ga&&(cv l.length (gz l dj)&&decide (l.length≤60))))∧fs=[]):=by
  refine bk l (fun i=>((l.drop i).all ga&&(cv l.length (gz l dj)&&decide (l.length≤60)))=(l.all ga&&(cv l.length (gz l dj)&&decide (l.length≤60)))→ah C eg ak 4 0 (kZ (l.map bD) i) (fun u st=>ax C eg ak u st fun r fs=>r=vB ((l.all ga&&(cv l.length (gz l dj)&&decide (l.length≤60))))∧fs=[])) ?_ ?_
  ·intro h0
   refine Bu _ _ _ (an (by simp) (KU _ _ _ _ ?_))
   rw[List.drop_length] at h0
   simp only[List.all_nil,Bool.true_and] at h0
   rw[←h0]
   refine⟨_,E4 l hl,?_⟩
   simp only[fX,List.length_map,Int.ofNat_eq_natCast]
   cases cv l.length (gz l dj)<;>simp
   omega
  ·intro i a hi ha hd htk hn h0
   have gO:ga a=false→(l.all ga&&(cv l.length (gz l dj)&&decide (l.length≤60)))=false:=fun e=>by rw[←h0,hd];simp[e]
   have gN:ga a=true→ah C eg ak 4 0 (kZ (l.map bD) ((i:Int)+1)) (fun u st=>ax C eg ak u st fun r fs=>r=vB ((l.all ga&&(cv l.length (gz l dj)&&decide (l.length≤60))))∧fs=[]):=fun e=>hn (by rw[←h0,hd];simp[e])
   refine Bu _ _ _ (ai (by simp;omega) ?_)
   simp only[mF,DG,aC,ha,Option.some.injEq,exists_eq_left',exists_eq_left,bL,fQ,iR,dV,fR,ek,fT,fU,iU,dn,natAdd,List.length_map,List.length_append,List.length_singleton,Bool.true_and,Bool.and_true]
   rw[aB (by omega)]
   cases h1:ga a<;>simp only[lN,lO]<;>first|exact gN (by assumption)|exact KT _ (by rw[gO (by assumption)];exact⟨rfl,by first|rfl|trivial⟩)
 exact key rfl
theorem GP (l:List Key) (hl:l.length≤1073741824):aa C eg [cJ l] (vB (AN l)) []:=by
 have:=J7 l hl
 rw[JN]
 exact this
theorem NZ (l:List Key) (hl:l.length≤1073741824) (q:Bool):aa C eg [cJ l] (vB q) []↔q=AN l:=rL (GP l hl)
theorem GQ (s:ByteArray) (hl:s.size≤140737488355328):aa C dM [vS s] (vB ((cv s.size (dz s)&&iQ s.size 1 6))) []:=by
 refine(Mf _ _ ?_).run
 have key:((List.range' 0 (s.size-0)).all (dz s)&&iQ s.size 1 6)=(cv s.size (dz s)&&iQ s.size 1 6)→ah C dM ak 4 0 (iO s ((0:Nat):Int)) (fun u st=>ax C dM ak u st fun r fs=>r=vB ((cv s.size (dz s)&&iQ s.size 1 6))∧fs=[]):=by
  refine nj (s.size) (fun i=>((List.range' i (s.size-i)).all (dz s)&&iQ s.size 1 6)=(cv s.size (dz s)&&iQ s.size 1 6)→ah C dM ak 4 0 (iO s i) (fun u st=>ax C dM ak u st fun r fs=>r=vB ((cv s.size (dz s)&&iQ s.size 1 6))∧fs=[])) ?_ ?_
  ·intro h0
   refine zY _ _ _ (an (by simp) (Iv _ _ _ _ ?_))
   rw[Nat.sub_self] at h0
   simp only[List.range'_zero,List.all_nil,Bool.true_and] at h0
   rw[←h0]
   simp only[qL,exists_eq_left,ER,Int.ofNat_eq_natCast]
   simp
  ·intro i hi hn h0
   rw[jo hi,List.all_cons] at h0
   have gO:(dz s) i=false→(cv s.size (dz s)&&iQ s.size 1 6)=false:=fun e=>by rw[←h0,e];rfl
   have gN:(dz s) i=true→ah C dM ak 4 0 (iO s ((i:Int)+1)) (fun u st=>ax C dM ak u st fun r fs=>r=vB ((cv s.size (dz s)&&iQ s.size 1 6))∧fs=[]):=fun e=>hn (by rw[←h0,e];rfl)
   refine zY _ _ _ (ai (by simp;omega) ?_)
   obtain⟨n,hb,hn0,hn1⟩:=MU hi
   have hw:q7 .i64 n=n:=Pm (by omega)
   simp only[hb,Option.some.injEq,exists_eq_left',qL,exists_eq_left,hw,bL]
   rw[aB (by omega)]
   have e:dz s i=(iQ n 97 122||iQ n 48 57):=by unfold dz;rw[hb];rfl
   rw[e] at gO gN
   cases h1:iQ n 97 122<;>cases h2:iQ n 48 57<;>simp only[lN,lO]<;>first|exact gN (by rw[h1,h2];rfl)|exact Iu _ (by rw[gO (by rw[h1,h2];rfl)];exact⟨rfl,by first|rfl|trivial⟩)
 exact key rfl
theorem Lf (s:ByteArray) (hl:s.size≤140737488355328) (q:Bool):aa C dM [vS s] (vB q) []↔q=AO s:=rL (GQ s hl)
theorem GR (l:List Age) (id:Int) (hl:l.length≤1073741824):aa C eF [jP l,vI id] (p7 (iT l id)) []:=by
 refine(Mi _ _ _ ?_).run
 unfold iT
 by_cases hz:id=0
 ·refine ai (by simp[hz]) ?_
  rw[if_pos hz]
  exact⟨rfl,by first|rfl|trivial⟩
 refine an (by simp[hz]) ?_
 rw[if_neg hz]
 have key: ∀(acc:List Int),acc.length+(l.drop 0).length≤l.length→acc++((l.drop 0).filter fun a=>decide (a.fr=id)).map (·.id)=(l.filter fun a=>decide (a.fr=id)).map (·.id)→ah C eF az 4 0 (jJ id (l.map di) ((0:Nat):Int) (acc.map bG)) (fun u st=>ax C eF az u st fun r fs=>r=p7 ((l.filter fun a=>decide (a.fr=id)).map (·.id))∧fs=[]):=by
  refine bk l (fun i=> ∀(acc:List Int),acc.length+(l.drop i).length≤l.length→acc++((l.drop i).filter fun a=>decide (a.fr=id)).map (·.id)=(l.filter fun a=>decide (a.fr=id)).map (·.id)→ah C eF az 4 0 (jJ id (l.map di) i (acc.map bG)) (fun u st=>ax C eF az u st fun r fs=>r=p7 ((l.filter fun a=>decide (a.fr=id)).map (·.id))∧fs=[])) ?_ ?_
  ·intro acc h0 h1
   refine z5 _ _ _ _ _ (an (by simp) (IA _ _ _ _ _ _ _ ?_))
   rw[List.drop_length] at h1
   simp only[List.filter_nil,List.map_nil,List.append_nil] at h1
   rw[h1]
   exact⟨rfl,by first|rfl|trivial⟩
  ·intro i a hi ha hd ht hn acc h0 h1
   refine z5 _ _ _ _ _ (ai (by simp;omega) ?_)
   rw[hd] at h0 h1
   simp only[List.length_cons] at h0
   simp only[vw,RS,Uw,aT,bK,aC,ha,Option.some.injEq,exists_eq_left',exists_eq_left,bL,fQ,iR,dV,fR,ek,fT,fU,iU,dn,natAdd,List.length_map,List.length_append,List.length_singleton,Bool.true_and,Bool.and_true]
   simp (disch:=omega) only[cW,aB,lN]
   by_cases hk:a.fr=id
   ·rw[if_pos hk]
    exact hn (acc++[a.id]) (by simp only[List.length_append,List.length_singleton];omega) (by rw[←h1];simp[hk])
   ·rw[if_neg hk]
    exact hn _ (by omega) (by rw[←h1];simp[hk])
 exact key [] (by simp) rfl
theorem GS (l:List Key) (hl:l.length≤1073741824):aa C ef [cJ l] (vB ((cv l.length (kJ l)&&decide (l.length≤60)))) []:=by
 refine(Oe _ _ ?_).run
 have key:((List.range' 0 (l.length-0)).all (kJ l)&&decide (l.length≤60))=(cv l.length (kJ l)&&decide (l.length≤60))→ah C ef ak 4 0 (jy (l.map bD) ((0:Nat):Int)) (fun u st=>ax C ef ak u st fun r fs=>r=vB ((cv l.length (kJ l)&&decide (l.length≤60)))∧fs=[]):=by
  refine nj (l.length) (fun i=>((List.range' i (l.length-i)).all (kJ l)&&decide (l.length≤60))=(cv l.length (kJ l)&&decide (l.length≤60))→ah C ef ak 4 0 (jy (l.map bD) i) (fun u st=>ax C ef ak u st fun r fs=>r=vB ((cv l.length (kJ l)&&decide (l.length≤60)))∧fs=[])) ?_ ?_
  ·intro h0
   refine Bs _ _ _ (an (by simp) (KN _ _ _ _ _ ?_))
   rw[Nat.sub_self] at h0
   simp only[List.range'_zero,List.all_nil,Bool.true_and] at h0
   rw[←h0]
   simp[fX]
   omega
  ·intro i hi hn h0
   rw[jo hi,List.all_cons] at h0
   have gO:(kJ l) i=false→(cv l.length (kJ l)&&decide (l.length≤60))=false:=fun e=>by rw[←h0,e];rfl
   have gN:(kJ l) i=true→ah C ef ak 4 0 (jy (l.map bD) ((i:Int)+1)) (fun u st=>ax C ef ak u st fun r fs=>r=vB ((cv l.length (kJ l)&&decide (l.length≤60)))∧fs=[]):=fun e=>hn (by rw[←h0,e];rfl)
   refine Bs _ _ _ (ai (by simp;omega) ?_)
   have ha:l[i]?=some l[i]:=List.getElem?_eq_getElem hi
   simp only[mF,DF,Bd,aC,ha,Option.some.injEq,exists_eq_left',exists_eq_left,bL,fQ,iR,dV,fR,ek,fT,fU,iU,dn,natAdd,List.length_map,List.length_append,List.length_singleton,Bool.true_and,Bool.and_true]
   rw[aB (by omega)]
   cases i with
   |zero=>
    have e:kJ l 0=ga l[0]:=by simp[kJ,S3,gz,hi]
    simp only[e] at gO gN
    cases h1:ga l[0]<;>simp only[h1,lN,lO,dh,bK,Int.natCast_zero,Int.lt_irrefl,if_false]<;>first|exact gN h1|exact Bt _ _ _ _ _ _ (by rw[gO h1];exact⟨rfl,by first|rfl|trivial⟩)
   |succ k=>
    have hk:l[k]?=some l[k]:=List.getElem?_eq_getElem (by omega)
    have e:kJ l (k+1)=(ga l[k+1]&&dj l[k] l[k+1]):=by simp only[kJ,S3,gz,hk,ha]
    simp only[e] at gO gN
    rw[dN (by omega),show((k+1:Nat):Int)-1=(k:Int) by omega]
    simp only[aC,hk,Option.some.injEq,exists_eq_left',dV,dh,bK]
    rw[if_pos (by omega)]
    cases h1:ga l[k+1]<;>cases h2:dj l[k] l[k+1]<;>simp only[lN,lO]<;>first|exact gN (by rw[h1,h2];rfl)|exact Bt _ _ _ _ _ _ (by rw[gO (by rw[h1,h2];rfl)];exact⟨rfl,by first|rfl|trivial⟩)
 exact key rfl
theorem N0 (l:List Key) (hl:l.length≤1073741824) (q:Bool):aa C ef [cJ l] (vB q) []↔q=AN l:=rL (GS l hl)
@[simp] theorem GU (n:ByteArray) (a z:Int) (f:Bool) (s:ByteArray) (a' z':Int) (f':Bool) (q:Bool):aa C mu [.ag [iS n,iI a,iI z,iB f],.bx [iS s,iI a',iI z',iB f']] (vB q) []↔q=decide (a=a'):=rL (by
  refine(IK _ _ _ _ _ _ _ _ _ ?_).run
  simp)
theorem Ai (l:List Vol) (s:ByteArray) (a' z':Int) (f':Bool) (hl:l.length≤1073741824):aa C bZ [AM l,.fn mu [[iS s,iI a',iI z',iB f']]] (vI (jC (fun v:Vol=>decide (v.age=a')) l 0)) []:=by
 refine(oe _ _ _ _ _ _ ?_).run
 have key:jC (fun v:Vol=>decide (v.age=a')) (l.drop 0) ((0:Nat):Int)=jC (fun v:Vol=>decide (v.age=a')) l 0→ah C bZ ak 4 0 (cD (l.map dJ) ((0:Nat):Int) s a' z' f') (fun u st=>ax C bZ ak u st fun r fs=>r=vI (jC (fun v:Vol=>decide (v.age=a')) l 0)∧fs=[]):=by
  refine bk l (fun i=>jC (fun v:Vol=>decide (v.age=a')) (l.drop i) (i:Int)=jC (fun v:Vol=>decide (v.age=a')) l 0→ah C bZ ak 4 0 (cD (l.map dJ) i s a' z' f') _) ?_ ?_
  ·intro h0
   refine iw _ _ _ _ _ _ _ (an (by simp) (nv _ _ _ _ _ _ _ _ _ ?_))
   rw[List.drop_length] at h0
   simp only[jC] at h0
   change _=vI (jC (fun v:Vol=>decide (v.age=a')) l 0)∧_
   rw[←h0]
   exact⟨rfl,by first|rfl|trivial⟩
  ·intro i a hi ha hd htk hn h0
   refine iw _ _ _ _ _ _ _ (ai (by simp;omega) ?_)
   rw[hd] at h0
   simp only[jC] at h0
   simp only[ET,aT,GU,bK,aC,ha,Option.some.injEq,exists_eq_left',exists_eq_left,bL,fQ,iR,dV,fR,ek,fT,fU,iU,dn,natAdd,List.length_map,List.length_append,List.length_singleton,Bool.true_and,Bool.and_true]
   rw[aB (by omega)]
   split at h0
   ·rename_i hp
    have hp:=of_decide_eq_true hp
    first|rw[if_pos hp]|rw[if_pos hp.symm]
    refine nu _ _ _ _ _ _ ?_
    rw[h0]
    exact⟨rfl,by first|rfl|trivial⟩
   ·rename_i hp
    have hp: ¬_:=fun h=>hp (decide_eq_true h)
    first|rw[if_neg hp]|rw[if_neg (fun h=>hp h.symm)]
    exact hn h0
 exact key rfl
theorem Aj (l:List Vol) (s:ByteArray) (a' z':Int) (f':Bool) (hl:l.length≤1073741824):aa C fM [AM l,.fn mu [[iS s,iI a',iI z',iB f']]] (vB (l.any (fun v:Vol=>decide (v.age=a')))) []:=by
 refine(m0 _ _ _ _ _ _ ⟨_,Ai l s a' z' f' hl,?_⟩).run
 rw[fX,Pn _ _ _ (by omega)]
 exact⟨rfl,by first|rfl|trivial⟩
theorem E5 (n:List (List Key)) (hb:n.length≤1073741824) (hl:tot bB n≤1073741824):aa C fy [fY n] (vI (bW n)) []:=by
 refine(Kt _ _ ?_).run
 have key: ∀(c:Nat),c+tot bB (n.drop 0)=bW n→ah C fy aj 4 0 (kT c ((0:Nat):Int) (n.map bS)) (fun u st=>ax C fy aj u st fun r fs=>r=(vI (bW n))∧fs=[]):=by
  refine bk n (fun i=> ∀(c:Nat),c+tot bB (n.drop i)=bW n→ah C fy aj 4 0 (kT c i (n.map bS)) (fun u st=>ax C fy aj u st fun r fs=>r=(vI (bW n))∧fs=[])) ?_ ?_
  ·intro c h0
   refine w8 _ _ _ _ (an (by simp) (FM _ _ _ _ _ ?_))
   rw[List.drop_length] at h0
   simp only[tot,Nat.add_zero] at h0
   rw[h0]
   exact⟨rfl,by first|rfl|trivial⟩
  ·intro i a hi ha hd ht hn c h0
   refine w8 _ _ _ _ (ai (by simp;omega) ?_)
   rw[hd] at h0
   have e5:tot bB (a::n.drop (i+1))=a.length+tot bB (n.drop (i+1)):=rfl
   rw[e5] at h0
   unfold bW at h0
   simp only[sr,aC,ha,Option.some.injEq,exists_eq_left',exists_eq_left,bL,fQ,iR,dV,fR,ek,fT,fU,iU,dn,natAdd,List.length_map,List.length_append,List.length_singleton,Bool.true_and,Bool.and_true]
   rw[aB (by simp only[Int.ofNat_eq_natCast];omega),aB (by omega)]
   exact hn (c+a.length) (by unfold bW;omega)
 exact key 0 (by simp[bW])
theorem E6 (n:List (List Key)) (hs:tot bB n≤1073741824) (hl:n.length≤1073741824):aa C bu [fY n] (vB ((n.all cH&&(decide (n.length≤3)&&decide (bW n≤8))))) []:=by
 refine(Mk _ _ ?_).run
 have key:((n.drop 0).all cH&&(decide (n.length≤3)&&decide (bW n≤8)))=(n.all cH&&(decide (n.length≤3)&&decide (bW n≤8)))→ah C bu ak 4 0 (jK ((0:Nat):Int) (n.map bS)) (fun u st=>ax C bu ak u st fun r fs=>r=vB ((n.all cH&&(decide (n.length≤3)&&decide (bW n≤8))))∧fs=[]):=by
  refine bk n (fun i=>((n.drop i).all cH&&(decide (n.length≤3)&&decide (bW n≤8)))=(n.all cH&&(decide (n.length≤3)&&decide (bW n≤8)))→ah C bu ak 4 0 (jK i (n.map bS)) (fun u st=>ax C bu ak u st fun r fs=>r=vB ((n.all cH&&(decide (n.length≤3)&&decide (bW n≤8))))∧fs=[])) ?_ ?_
  ·intro h0
   refine z8 _ _ _ (an (by simp) (IE _ _ _ _ ?_))
   rw[List.drop_length] at h0
   simp only[List.all_nil,Bool.true_and] at h0
   rw[←h0]
   simp only[fX,List.length_map,Int.ofNat_eq_natCast,bK]
   by_cases h3:n.length≤3
   ·rw[if_pos (by omega)]
    refine⟨_,E5 n hl hs,?_⟩
    simp[h3]
    omega
   ·rw[if_neg (by omega)]
    simp[h3]
  ·intro i a hi ha hd htk hn h0
   have gO:cH a=false→(n.all cH&&(decide (n.length≤3)&&decide (bW n≤8)))=false:=fun e=>by rw[←h0,hd];simp[e]
   have gN:cH a=true→ah C bu ak 4 0 (jK ((i:Int)+1) (n.map bS)) (fun u st=>ax C bu ak u st fun r fs=>r=vB ((n.all cH&&(decide (n.length≤3)&&decide (bW n≤8))))∧fs=[]):=fun e=>hn (by rw[←h0,hd];simp[e])
   refine z8 _ _ _ (ai (by simp;omega) ?_)
   have hz:a.length≤tot bB n:=jR (w:=bB) ha
   have hh: ∀q,aa C eg [cJ a] (vB q) []↔q=AN a:=fun q=>NZ a (by omega) q
   simp only[sr,hh,aT,Int.ofNat_eq_natCast,bK,aC,ha,Option.some.injEq,exists_eq_left',exists_eq_left,bL,fQ,iR,dV,fR,ek,fT,fU,iU,dn,natAdd,List.length_map,List.length_append,List.length_singleton,Bool.true_and,Bool.and_true]
   rw[aB (by omega)]
   cases h1:AN a<;>by_cases h2:a.length=0<;>simp only[lN,lO]<;>first|(rw[if_pos (by omega)];exact Aa _ _ (by rw[gO (by simp[cH,h1,h2])];exact⟨rfl,by first|rfl|trivial⟩))|(rw[if_neg (by omega)];exact gN (by simp[cH,h1,h2]))|exact Aa _ _ (by rw[gO (by simp[cH,h1,h2])];exact⟨rfl,by first|rfl|trivial⟩)
 exact key rfl
theorem qQ (n:List (List Key)) (hb:n.length≤1073741824) (hl:tot bB n≤1073741824):aa C bu [fY n] (vB (eP n)) []:=by
 have:=E6 n hl hb
 rw[MV]
 exact this
theorem GV (l:List Age) (hl:l.length≤1073741824):aa C c6 [jP l] (vB ((cv l.length (dP l)&&decide (l.length≤16)))) []:=by
 refine(LZ _ _ ?_).run
 have key:((List.range' 0 (l.length-0)).all (dP l)&&decide (l.length≤16))=(cv l.length (dP l)&&decide (l.length≤16))→ah C c6 ak 4 0 (fC (l.map di) ((0:Nat):Int)) (fun u st=>ax C c6 ak u st fun r fs=>r=vB ((cv l.length (dP l)&&decide (l.length≤16)))∧fs=[]):=by
  refine nj (l.length) (fun i=>((List.range' i (l.length-i)).all (dP l)&&decide (l.length≤16))=(cv l.length (dP l)&&decide (l.length≤16))→ah C c6 ak 4 0 (fC (l.map di) i) (fun u st=>ax C c6 ak u st fun r fs=>r=vB ((cv l.length (dP l)&&decide (l.length≤16)))∧fs=[])) ?_ ?_
  ·intro h0
   refine zN _ _ _ (an (by simp) (HY _ _ _ _ ?_))
   rw[Nat.sub_self] at h0
   simp only[List.range'_zero,List.all_nil,Bool.true_and] at h0
   rw[←h0]
   simp[fX]
   omega
  ·intro i hi hn h0
   rw[jo hi,List.all_cons] at h0
   have gO:(dP l) i=false→(cv l.length (dP l)&&decide (l.length≤16))=false:=fun e=>by rw[←h0,e];rfl
   have gN:(dP l) i=true→ah C c6 ak 4 0 (fC (l.map di) ((i:Int)+1)) (fun u st=>ax C c6 ak u st fun r fs=>r=vB ((cv l.length (dP l)&&decide (l.length≤16)))∧fs=[]):=fun e=>hn (by rw[←h0,e];rfl)
   refine zN _ _ _ (ai (by simp;omega) ?_)
   have ha:l[i]?=some l[i]:=List.getElem?_eq_getElem hi
   have hh: ∀q,aa C dR [jP (l.take i),vI l[i].fr] (vI q) []↔q=jd (l.take i) l[i].fr:=fun q=>yf (l.take i) l[i].fr (by simp;omega) q
   have hcut:ay (l.map di) 0 (i:Int)=(l.take i).map di:=by rw[cA,Int.toNat_natCast];rfl
   have hin:ew 0 (i:Int) (l.length:Int)=true:=by simp;omega
   simp only[vw,Bc,hcut,aC,ha,Option.some.injEq,exists_eq_left',exists_eq_left,bL,fQ,iR,dV,fR,ek,fT,fU,iU,dn,natAdd,List.length_map,List.length_append,List.length_singleton,Bool.true_and,Bool.and_true]
   simp only[ha,hin,hh,exists_eq_left,Option.some.injEq,exists_eq_left',lN,aT,fX,dh,bK,Int.ofNat_eq_natCast,List.length_map]
   rw[aB (by omega)]
   cases i with
   |zero=>
    have e:dP l 0=(iQ l[0].id 1 60&&(decide (l[0].fr=0)|| !decide (jd (l.take 0) l[0].fr<0))):=by simp[dP,S3,gz,hi]
    rw[e] at gO gN
    have hz: ¬((0:Int)<((0:Nat):Int)):=by omega
    simp only[if_neg hz]
    cases h1:iQ l[0].id 1 60 with
    |false=>simp only[lO];exact mh _ (by rw[gO (by rw[h1];simp)];exact⟨rfl,by first|rfl|trivial⟩)
    |true=>
     simp only[lN]
     by_cases h2:l[0].fr=0
     ·rw[if_pos h2];exact gN (by rw[h1,decide_eq_true h2];simp)
     ·rw[if_neg h2]
      by_cases h3:jd (l.take 0) l[0].fr<0
      ·rw[if_pos h3];exact mh _ (by rw[gO (by rw[decide_eq_false h2,decide_eq_true h3];simp)];exact⟨rfl,by first|rfl|trivial⟩)
      ·rw[if_neg h3];exact gN (by rw[h1,decide_eq_false h3];simp)
   |succ k=>
    have hk:l[k]?=some l[k]:=List.getElem?_eq_getElem (by omega)
    have e:dP l (k+1)=(iQ l[k+1].id 1 60&&(decide (l[k].id<l[k+1].id)&&(decide (l[k+1].fr=0)|| !decide (jd (l.take (k+1)) l[k+1].fr<0)))):=by simp only[dP,S3,gz,hk,ha]
    rw[e] at gO gN
    rw[dN (by omega),show((k+1:Nat):Int)-1=(k:Int) by omega]
    simp only[aC,hk,Option.some.injEq,exists_eq_left']
    rw[if_pos (by omega)]
    cases h1:iQ l[k+1].id 1 60 with
    |false=>simp only[lO];exact mh _ (by rw[gO (by rw[h1];simp)];exact⟨rfl,by first|rfl|trivial⟩)
    |true=>
     simp only[lN]
     by_cases h4:l[k].id<l[k+1].id
     ·rw[if_neg (by omega)]
      by_cases h2:l[k+1].fr=0
      ·rw[if_pos h2];exact gN (by rw[h1,decide_eq_true h4,decide_eq_true h2];simp)
      ·rw[if_neg h2]
       by_cases h3:jd (l.take (k+1)) l[k+1].fr<0
       ·rw[if_pos h3];exact mh _ (by rw[gO (by rw[decide_eq_false h2,decide_eq_true h3];simp)];exact⟨rfl,by first|rfl|trivial⟩)
       ·rw[if_neg h3];exact gN (by rw[h1,decide_eq_true h4,decide_eq_false h3];simp)
     ·rw[if_pos (by omega)];exact mh _ (by rw[gO (by rw[decide_eq_false h4];simp)];exact⟨rfl,by first|rfl|trivial⟩)
 exact key rfl
theorem Lg (l:List Age) (hl:l.length≤1073741824) (q:Bool):aa C c6 [jP l] (vB q) []↔q=lE l:=rL (GV l hl)
theorem E7 (n:List (List Key)) (hb:n.length≤1073741824) (hl:tot bB n≤1073741824):aa C bf [fY n] (vB (n.all cH&&(decide (n.length≤3)&&decide (bW n≤8)))) []:=by
 refine(LA _ _ ?_).run
 have key: ∀(c:Nat),c+tot bB (n.drop 0)=bW n→((n.drop 0).all cH&&(decide (n.length≤3)&&decide (bW n≤8)))=(n.all cH&&(decide (n.length≤3)&&decide (bW n≤8)))→ah C bf aj 4 0 (lR c (n.map bS) ((0:Nat):Int)) (fun u st=>ax C bf aj u st fun r fs=>r=(vB (n.all cH&&(decide (n.length≤3)&&decide (bW n≤8))))∧fs=[]):=by
  refine bk n (fun i=> ∀(c:Nat),c+tot bB (n.drop i)=bW n→((n.drop i).all cH&&(decide (n.length≤3)&&decide (bW n≤8)))=(n.all cH&&(decide (n.length≤3)&&decide (bW n≤8)))→ah C bf aj 4 0 (lR c (n.map bS) i) (fun u st=>ax C bf aj u st fun r fs=>r=(vB (n.all cH&&(decide (n.length≤3)&&decide (bW n≤8))))∧fs=[])) ?_ ?_
  ·intro c h0 h1
   refine zy _ _ _ _ (an (by simp) (Hp _ _ _ _ _ _ ?_))
   rw[List.drop_length] at h0 h1
   simp only[tot,Nat.add_zero] at h0
   simp only[List.all_nil,Bool.true_and] at h1
   rw[←h1]
   simp only[fX,List.length_map,Int.ofNat_eq_natCast,bK]
   by_cases h3:n.length≤3
   ·rw[if_pos (by omega)]
    simp[h3]
    omega
   ·rw[if_neg (by omega)]
    simp[h3]
  ·intro i a hi ha hd ht hn c h0 h1
   refine zy _ _ _ _ (ai (by simp;omega) ?_)
   have hz:a.length≤tot bB n:=jR (w:=bB) ha
   have hh: ∀q,aa C ef [cJ a] (vB q) []↔q=AN a:=fun q=>N0 a (by omega) q
   rw[hd] at h0 h1
   have e5:tot bB (a::n.drop (i+1))=a.length+tot bB (n.drop (i+1)):=rfl
   rw[e5] at h0
   unfold bW at h0
   have hO:cH a=false→ax C bf aj TX.ret (oH (n.map bS)) (fun r fs=>r=vB (n.all cH&&(decide (n.length≤3)&&decide (bW n≤8)))∧fs=[]):=fun e=>Ho _ _ (by rw[←h1];simp only[List.all_cons,e];exact⟨rfl,by first|rfl|trivial⟩)
   simp only[sr,hh,aT,Int.ofNat_eq_natCast,bK,aC,ha,Option.some.injEq,exists_eq_left',exists_eq_left,bL,fQ,iR,dV,fR,ek,fT,fU,iU,dn,natAdd,List.length_map,List.length_append,List.length_singleton,Bool.true_and,Bool.and_true]
   rw[aB (by omega),aB (by omega)]
   cases h2:AN a<;>by_cases h3:a.length=0<;>simp only[lN,lO]
   ·exact hO (by simp[cH,h2])
   ·exact hO (by simp[cH,h2])
   ·rw[if_pos (by omega)];exact hO (by simp[cH,h3])
   ·rw[if_neg (by omega)]
    exact hn (c+a.length) (by unfold bW;omega) (by rw[←h1];simp[cH,h2,h3])
 exact key 0 (by simp[bW]) rfl
theorem qR (n:List (List Key)) (hb:n.length≤1073741824) (hl:tot bB n≤1073741824):aa C bf [fY n] (vB (eP n)) []:=by
 have:=E7 n hb hl
 rw[MV]
 exact this
theorem Lh (n:List (List Key)) (hb:n.length≤1073741824) (hl:tot bB n≤1073741824) (q:Bool):aa C bf [.ag [.sub 1 (n.map bS)]] (vB q) []↔q=eP n:=rL (qR n hb hl)
theorem GW (l:List Age) (hl:l.length≤1073741824):aa C c7 [jP l] (vB ((cv l.length (dP l)&&decide (l.length≤16)))) []:=by
 refine(LK _ _ ?_).run
 have key:((List.range' 0 (l.length-0)).all (dP l)&&decide (l.length≤16))=(cv l.length (dP l)&&decide (l.length≤16))→ah C c7 ak 4 0 (fA (l.map di) ((0:Nat):Int)) (fun u st=>ax C c7 ak u st fun r fs=>r=vB ((cv l.length (dP l)&&decide (l.length≤16)))∧fs=[]):=by
  refine nj (l.length) (fun i=>((List.range' i (l.length-i)).all (dP l)&&decide (l.length≤16))=(cv l.length (dP l)&&decide (l.length≤16))→ah C c7 ak 4 0 (fA (l.map di) i) (fun u st=>ax C c7 ak u st fun r fs=>r=vB ((cv l.length (dP l)&&decide (l.length≤16)))∧fs=[])) ?_ ?_
  ·intro h0
   refine zF _ _ _ (an (by simp) (HI _ _ _ _ _ ?_))
   rw[Nat.sub_self] at h0
   simp only[List.range'_zero,List.all_nil,Bool.true_and] at h0
   rw[←h0]
   simp[fX]
   omega
  ·intro i hi hn h0
   rw[jo hi,List.all_cons] at h0
   have gO:(dP l) i=false→(cv l.length (dP l)&&decide (l.length≤16))=false:=fun e=>by rw[←h0,e];rfl
   have gN:(dP l) i=true→ah C c7 ak 4 0 (fA (l.map di) ((i:Int)+1)) (fun u st=>ax C c7 ak u st fun r fs=>r=vB ((cv l.length (dP l)&&decide (l.length≤16)))∧fs=[]):=fun e=>hn (by rw[←h0,e];rfl)
   refine zF _ _ _ (ai (by simp;omega) ?_)
   have ha:l[i]?=some l[i]:=List.getElem?_eq_getElem hi
   have hh: ∀q,aa C ju [jP (l.take i),vI l[i].fr] (vI q) []↔q=jd (l.take i) l[i].fr:=fun q=>yg (l.take i) l[i].fr (by simp;omega) q
   have hcut:ay (l.map di) 0 (i:Int)=(l.take i).map di:=by rw[cA,Int.toNat_natCast];rfl
   have hin:ew 0 (i:Int) (l.length:Int)=true:=by simp;omega
   simp only[vw,qL,hcut,aC,ha,Option.some.injEq,exists_eq_left',exists_eq_left,bL,fQ,iR,dV,fR,ek,fT,fU,iU,dn,natAdd,List.length_map,List.length_append,List.length_singleton,Bool.true_and,Bool.and_true]
   simp only[ha,hin,hh,exists_eq_left,Option.some.injEq,exists_eq_left',lN,aT,fX,dh,bK,Int.ofNat_eq_natCast,List.length_map]
   rw[aB (by omega)]
   cases i with
   |zero=>
    have e:dP l 0=(iQ l[0].id 1 60&&(decide (l[0].fr=0)|| !decide (jd (l.take 0) l[0].fr<0))):=by simp[dP,S3,gz,hi]
    rw[e] at gO gN
    have hz: ¬((0:Int)<((0:Nat):Int)):=by omega
    simp only[if_neg hz]
    cases h1:iQ l[0].id 1 60 with
    |false=>simp only[lO];exact mg _ _ _ (by rw[gO (by rw[h1];simp)];exact⟨rfl,by first|rfl|trivial⟩)
    |true=>
     simp only[lN]
     by_cases h2:l[0].fr=0
     ·rw[if_pos h2];exact gN (by rw[h1,decide_eq_true h2];simp)
     ·rw[if_neg h2]
      by_cases h3:jd (l.take 0) l[0].fr<0
      ·rw[if_pos h3];exact mg _ _ _ (by rw[gO (by rw[decide_eq_false h2,decide_eq_true h3];simp)];exact⟨rfl,by first|rfl|trivial⟩)
      ·rw[if_neg h3];exact gN (by rw[h1,decide_eq_false h3];simp)
   |succ k=>
    have hk:l[k]?=some l[k]:=List.getElem?_eq_getElem (by omega)
    have e:dP l (k+1)=(iQ l[k+1].id 1 60&&(decide (l[k].id<l[k+1].id)&&(decide (l[k+1].fr=0)|| !decide (jd (l.take (k+1)) l[k+1].fr<0)))):=by simp only[dP,S3,gz,hk,ha]
    rw[e] at gO gN
    rw[dN (by omega),show((k+1:Nat):Int)-1=(k:Int) by omega]
    simp only[aC,hk,Option.some.injEq,exists_eq_left']
    rw[if_pos (by omega)]
    cases h1:iQ l[k+1].id 1 60 with
    |false=>simp only[lO];exact mg _ _ _ (by rw[gO (by rw[h1];simp)];exact⟨rfl,by first|rfl|trivial⟩)
    |true=>
     simp only[lN]
     by_cases h4:l[k].id<l[k+1].id
     ·rw[if_neg (by omega)]
      by_cases h2:l[k+1].fr=0
      ·rw[if_pos h2];exact gN (by rw[h1,decide_eq_true h4,decide_eq_true h2];simp)
      ·rw[if_neg h2]
       by_cases h3:jd (l.take (k+1)) l[k+1].fr<0
       ·rw[if_pos h3];exact mg _ _ _ (by rw[gO (by rw[decide_eq_false h2,decide_eq_true h3];simp)];exact⟨rfl,by first|rfl|trivial⟩)
       ·rw[if_neg h3];exact gN (by rw[h1,decide_eq_true h4,decide_eq_false h3];simp)
     ·rw[if_pos (by omega)];exact mg _ _ _ (by rw[gO (by rw[decide_eq_false h4];simp)];exact⟨rfl,by first|rfl|trivial⟩)
 exact key rfl
theorem Li (l:List Age) (hl:l.length≤1073741824) (q:Bool):aa C c7 [jP l] (vB q) []↔q=lE l:=rL (GW l hl)
@[simp] theorem B4 (b a q:Int):aa C tY [vI b,vI a] (vI q) []↔q=gh b a:=UC ((LQ _ _ _ ⟨rfl,by first|rfl|trivial⟩).run)
@[simp] theorem B5 (b a k c g q:Int):aa C lu [.ag [iI b,iI a,iI k,iI c,iI g]] (vI q) []↔q=gh b a:=UC (by
  refine(Mh _ _ _ _ _ _ ?_).run
  simp only[B4,exists_eq_left]
  simp)
@[simp] theorem vG (b a q:Int):aa C qH [vI b,vI a] (vI q) []↔q=gh b a:=UC ((Lw _ _ _ ⟨rfl,by first|rfl|trivial⟩).run)
theorem E8 (t:Tree) (i:Nat) (n:List (List Key)) (hi:i<t.lows.length) (hl:dO t≤1073741824) (hn:n.length≤1073741824) (hz:tot bB n≤1073741824):ah C aV az 4 0 (gD i ((0:Nat):Int) (t.lows.map bG) (t.nodes.map aI) (n.map bS)) (fun u st=>ax C aV az u st fun r fs=>r=vB (n.all (bM t.lows i))∧fs=[]):=by
 have hll:t.lows.length≤1073741824:=by unfold dO at hl;omega
 have hlo:t.lows[i]?=some t.lows[i]:=List.getElem?_eq_getElem hi
 have key:(n.drop 0).all (bM t.lows i)=n.all (bM t.lows i)→ah C aV az 4 0 (gD i ((0:Nat):Int) (t.lows.map bG) (t.nodes.map aI) (n.map bS)) (fun u st=>ax C aV az u st fun r fs=>r=vB (n.all (bM t.lows i))∧fs=[]):=by
  refine bk n (fun k=>(n.drop k).all (bM t.lows i)=n.all (bM t.lows i)→ah C aV az 4 0 (gD i k (t.lows.map bG) (t.nodes.map aI) (n.map bS)) (fun u st=>ax C aV az u st fun r fs=>r=vB (n.all (bM t.lows i))∧fs=[])) ?_ ?_
  ·intro h0
   refine zw _ _ _ _ _ _ (an (by simp) (Hh _ _ _ _ _ _ _ ?_))
   rw[List.drop_length] at h0
   simp only[List.all_nil] at h0
   rw[←h0]
   exact⟨rfl,by first|rfl|trivial⟩
  ·intro k s hk hs hd htk hnext h0
   have hsl:s.length≤tot bB n:=jR (w:=bB) hs
   rw[hd,List.all_cons] at h0
   refine zw _ _ _ _ _ _ (ai (by simp;omega) ?_)
   have keyI:(s.drop 0).all (fK t.lows i)=s.all (fK t.lows i)→ah C aV kD 3 2 (iJ i k ((0:Nat):Int) (t.lows.map bG) (t.nodes.map aI) (n.map bS)) (fun u st=>pL C aV az 4 0 CN u st (fun u st=>ax C aV az u st fun r fs=>r=vB (n.all (bM t.lows i))∧fs=[])):=by
    refine bk s (fun j=>(s.drop j).all (fK t.lows i)=s.all (fK t.lows i)→ah C aV kD 3 2 (iJ i k j (t.lows.map bG) (t.nodes.map aI) (n.map bS)) (fun u st=>pL C aV az 4 0 CN u st (fun u st=>ax C aV az u st fun r fs=>r=vB (n.all (bM t.lows i))∧fs=[]))) ?_ ?_
    ·intro h1
     rw[List.drop_length] at h1
     simp only[List.all_nil] at h1
     refine zx _ _ _ _ _ _ _ (⟨_,cw hs,an (by simp) (Hj _ _ _ _ _ _ _ _ ?_)⟩)
     rw[aB (by omega)]
     exact hnext (by rw[←h0];unfold bM;rw[←h1];simp)
    ·intro j x hj hx hdj htj hn2 h1
     rw[hdj,List.all_cons] at h1
     have gO:fK t.lows i x=false→pL C aV az 4 0 CN TX.ret (oG (t.lows.map bG) (t.nodes.map aI) (n.map bS)) (fun u st=>ax C aV az u st fun r fs=>r=vB (n.all (bM t.lows i))∧fs=[]):=fun e=>Hi _ _ _ _ (Hl _ _ _ _ (by
      have e2:bM t.lows i s=false:=by unfold bM;rw[←h1,e];rfl
      rw[←h0,e2];exact⟨rfl,by first|rfl|trivial⟩))
     have gN:fK t.lows i x=true→ah C aV kD 3 2 (iJ i k ((j:Int)+1) (t.lows.map bG) (t.nodes.map aI) (n.map bS)) (fun u st=>pL C aV az 4 0 CN u st (fun u st=>ax C aV az u st fun r fs=>r=vB (n.all (bM t.lows i))∧fs=[])):=fun e=>hn2 (by rw[←h1,e];rfl)
     have e:fK t.lows i x=(!decide (gh x.b x.a<t.lows[i])&&(match t.lows[i+1]? with|some hi=>decide (gh x.b x.a<hi)|none=>true)):=by simp only[fK,QN,hlo];rfl
     rw[e] at gO gN
     refine zx _ _ _ _ _ _ _ (⟨_,cw hs,ai (by simp;omega) ⟨_,cw hs,?_⟩⟩)
     rw[aB (a:=(i:Int)) (by omega),aB (a:=(j:Int)) (by omega)]
     simp only[mF,vv,aC,hx,hlo,Option.some.injEq,exists_eq_left',B5,exists_eq_left,dh,fX,bK,List.length_map,Int.ofNat_eq_natCast]
     by_cases h2:gh x.b x.a<t.lows[i]
     ·rw[if_pos h2]
      exact gO (by rw[decide_eq_true h2];rfl)
     ·rw[if_neg h2]
      by_cases h3:i+1<t.lows.length
      ·have hhi:t.lows[i+1]?=some t.lows[i+1]:=List.getElem?_eq_getElem h3
       rw[if_pos (by omega),show((i:Int)+1)=((i+1:Nat):Int) by omega,aC,hhi]
       simp only[Option.some.injEq,exists_eq_left']
       rw[hhi] at gO gN
       by_cases h4:gh x.b x.a<t.lows[i+1]
       ·rw[if_neg (by omega)]
        exact gN (by rw[decide_eq_false h2];simp[h4])
       ·rw[if_pos (by omega)]
        exact gO (by simp[h4])
      ·rw[if_neg (by omega)]
       have hno:t.lows[i+1]?=none:=List.getElem?_eq_none (by omega)
       rw[hno] at gN
       exact gN (by rw[decide_eq_false h2];rfl)
   exact keyI rfl
 exact key rfl
theorem CH (t:Tree) (i:Nat) (n:List (List Key)) (hi:i<t.lows.length) (hl:dO t≤1073741824) (hn:n.length≤1073741824) (hz:tot bB n≤1073741824):ah C aR ak 4 0 (iC i (n.map bS) (n.length:Int) ((0:Nat):Int) (t.lows.map bG) (t.nodes.map aI)) (fun u st=>ax C aR ak u st fun r fs=>r=vB (n.all (bM t.lows i))∧fs=[]):=by
 have hll:t.lows.length≤1073741824:=by unfold dO at hl;omega
 have hlo:t.lows[i]?=some t.lows[i]:=List.getElem?_eq_getElem hi
 have key:(n.drop 0).all (bM t.lows i)=n.all (bM t.lows i)→ah C aR ak 4 0 (iC i (n.map bS) (n.length:Int) ((0:Nat):Int) (t.lows.map bG) (t.nodes.map aI)) (fun u st=>ax C aR ak u st fun r fs=>r=vB (n.all (bM t.lows i))∧fs=[]):=by
  refine bk n (fun k=>(n.drop k).all (bM t.lows i)=n.all (bM t.lows i)→ah C aR ak 4 0 (iC i (n.map bS) (n.length:Int) k (t.lows.map bG) (t.nodes.map aI)) (fun u st=>ax C aR ak u st fun r fs=>r=vB (n.all (bM t.lows i))∧fs=[])) ?_ ?_
  ·intro h0
   refine u6 _ _ _ _ _ _ _ (an (by simp) (Eb _ _ _ _ _ _ _ _ ?_))
   rw[List.drop_length] at h0
   simp only[List.all_nil] at h0
   rw[←h0]
   exact⟨rfl,by first|rfl|trivial⟩
  ·intro k s hk hs hd htk hnext h0
   have hsl:s.length≤tot bB n:=jR (w:=bB) hs
   rw[hd,List.all_cons] at h0
   refine u6 _ _ _ _ _ _ _ (ai (by simp;omega) ⟨_,cw hs,?_⟩)
   have keyI:(s.drop 0).all (fK t.lows i)=s.all (fK t.lows i)→ah C aR kC 3 2 (gu i (n.map bS) (n.length:Int) k (s.map bD) ((0:Nat):Int) (t.lows.map bG) (t.nodes.map aI)) (fun u st=>pL C aR ak 4 0 sE u st (fun u st=>ax C aR ak u st fun r fs=>r=vB (n.all (bM t.lows i))∧fs=[])):=by
    refine bk s (fun j=>(s.drop j).all (fK t.lows i)=s.all (fK t.lows i)→ah C aR kC 3 2 (gu i (n.map bS) (n.length:Int) k (s.map bD) j (t.lows.map bG) (t.nodes.map aI)) (fun u st=>pL C aR ak 4 0 sE u st (fun u st=>ax C aR ak u st fun r fs=>r=vB (n.all (bM t.lows i))∧fs=[]))) ?_ ?_
    ·intro h1
     rw[List.drop_length] at h1
     simp only[List.all_nil] at h1
     refine u7 _ _ _ _ _ _ _ _ _ (an (by simp) (Ed _ _ _ _ _ _ _ _ _ _ _ ?_))
     rw[aB (by omega)]
     exact hnext (by rw[←h0];unfold bM;rw[←h1];simp)
    ·intro j x hj hx hdj htj hn2 h1
     rw[hdj,List.all_cons] at h1
     have gO:fK t.lows i x=false→pL C aR ak 4 0 sE TX.ret (mV (t.lows.map bG) (t.nodes.map aI) x.b x.a x.k x.c x.g) (fun u st=>ax C aR ak u st fun r fs=>r=vB (n.all (bM t.lows i))∧fs=[]):=fun e=>Ec _ _ _ _ _ _ _ _ (Ee _ _ _ _ _ _ _ _ (by
      have e2:bM t.lows i s=false:=by unfold bM;rw[←h1,e];rfl
      rw[←h0,e2];exact⟨rfl,by first|rfl|trivial⟩))
     have gN:fK t.lows i x=true→ah C aR kC 3 2 (gu i (n.map bS) (n.length:Int) k (s.map bD) ((j:Int)+1) (t.lows.map bG) (t.nodes.map aI)) (fun u st=>pL C aR ak 4 0 sE u st (fun u st=>ax C aR ak u st fun r fs=>r=vB (n.all (bM t.lows i))∧fs=[])):=fun e=>hn2 (by rw[←h1,e];rfl)
     have e:fK t.lows i x=(!decide (gh x.b x.a<t.lows[i])&&(match t.lows[i+1]? with|some hi=>decide (gh x.b x.a<hi)|none=>true)):=by simp only[fK,QN,hlo];rfl
     rw[e] at gO gN
     refine u7 _ _ _ _ _ _ _ _ _ (ai (by simp;omega) ?_)
     rw[aB (a:=(i:Int)) (by omega),aB (a:=(j:Int)) (by omega)]
     simp only[mF,vv,aC,hx,hlo,Option.some.injEq,exists_eq_left',vG,exists_eq_left,dh,fX,bK,List.length_map,Int.ofNat_eq_natCast]
     by_cases h2:gh x.b x.a<t.lows[i]
     ·rw[if_pos h2]
      exact gO (by rw[decide_eq_true h2];rfl)
     ·rw[if_neg h2]
      by_cases h3:i+1<t.lows.length
      ·have hhi:t.lows[i+1]?=some t.lows[i+1]:=List.getElem?_eq_getElem h3
       rw[if_pos (by omega),show((i:Int)+1)=((i+1:Nat):Int) by omega,aC,hhi]
       simp only[Option.some.injEq,exists_eq_left']
       rw[hhi] at gO gN
       by_cases h4:gh x.b x.a<t.lows[i+1]
       ·rw[if_neg (by omega)]
        exact gN (by rw[decide_eq_false h2];simp[h4])
       ·rw[if_pos (by omega)]
        exact gO (by simp[h4])
      ·rw[if_neg (by omega)]
       have hno:t.lows[i+1]?=none:=List.getElem?_eq_none (by omega)
       rw[hno] at gN
       exact gN (by rw[decide_eq_false h2];rfl)
   exact keyI rfl
 exact key rfl
theorem GX (t:Tree) (i:Nat) (n:List (List Key)) (ha:t.nodes[i]?=some n) (hlo:i<t.lows.length) (hl:dO t≤1073741824):aa C aV [dG t,vI i] (vB (eP n&&((decide (i=0)|| !decide ((aF n).length=0))&&n.all (bM t.lows i)))) []:=by
 have hz:aH n≤tot aH t.nodes:=jR (w:=aH) ha
 have e1:aH n=n.length+tot bB n:=rfl
 have e2:dO t=t.lows.length+(t.nodes.length+tot aH t.nodes):=rfl
 have hnk:=cE n
 refine(Ly _ _ _ _ ⟨_,cw (e:=aI) ha,_,qQ n (by omega) (by omega),?_⟩).run
 cases h1:eP n with
 |false=>exact ai rfl ⟨rfl,by first|rfl|trivial⟩
 |true=>
  refine an rfl ?_
  have hloop:=E8 t i n hlo hl (by omega) (by omega)
  have conv: ∀B:Bool,B=n.all (bM t.lows i)→ah C aV az 4 0 (gD i 0 (t.lows.map bG) (t.nodes.map aI) (n.map bS)) (fun u st=>ax C aV az u st fun r fs=>r=vB B∧fs=[]):=fun B hB=>by subst hB;exact hloop
  cases i with
  |zero=>exact an (by simp) (conv _ (by simp))
  |succ k=>
   refine ai (by first|(simp;done)|(simp;omega)) ⟨_,tZ n (by omega) (by omega),?_⟩
   by_cases h2:(aF n).length=0
   ·refine ai (by simp[h2]) ?_
    simp[h2]
   ·exact an (by simpa using h2) (conv _ (by simp[h2]))
theorem qS (t:Tree) (hl:dO t≤1073741824):aa C aJ [dG t] (vB (dQ t)) []:=by
 have e2:dO t=t.lows.length+(t.nodes.length+tot aH t.nodes):=rfl
 refine(LJ _ _ _ ?_).run
 simp only[Bc,exists_eq_left,List.length_map,Int.ofNat_eq_natCast,aT,bL]
 unfold dQ
 cases h1:iQ (t.nodes.length:Int) 1 20 with
 |false=>exact an rfl ⟨rfl,by first|rfl|trivial⟩
 |true=>
  refine ai rfl ?_
  have hn1:1≤t.nodes.length:=by have:=of_decide_eq_true h1;omega
  by_cases h2:t.lows.length=t.nodes.length
  ·refine ai (by simp[h2]) ?_
   have h0:t.lows[0]?=some t.lows[0]:=List.getElem?_eq_getElem (by omega)
   have hz0:fE t.lows 0=some t.lows[0]:=by rw[show(0:Int)=((0:Nat):Int) from rfl,aC];exact h0
   simp only[vv,hz0,h0,Option.some.injEq,exists_eq_left',bK]
   by_cases h3:t.lows[0]=0
   ·rw[if_pos (by simpa using h3)]
    have hw:(true&&(decide (t.lows.length=t.nodes.length)&&((decide (t.lows[0]=0))&&(cv t.nodes.length (cC t)&&decide ((aK t).length≤60)))))=(cv t.nodes.length (cC t)&&decide ((aK t).length≤60)):=by simp[h2,h3]
    rw[hw]
    have key:((List.range' 0 (t.nodes.length-0)).all (cC t)&&decide ((aK t).length≤60))=(cv t.nodes.length (cC t)&&decide ((aK t).length≤60))→ah C aJ aj 4 0 (iK ((0:Nat):Int) (t.lows.map bG) (t.nodes.map aI)) (fun u st=>ax C aJ aj u st fun r fs=>r=vB (cv t.nodes.length (cC t)&&decide ((aK t).length≤60))∧fs=[]):=by
     refine nj t.nodes.length (fun i=>((List.range' i (t.nodes.length-i)).all (cC t)&&decide ((aK t).length≤60))=(cv t.nodes.length (cC t)&&decide ((aK t).length≤60))→ah C aJ aj 4 0 (iK i (t.lows.map bG) (t.nodes.map aI)) _) ?_ ?_
     ·intro h0
      rw[Nat.sub_self] at h0
      simp only[List.range'_zero,List.all_nil,Bool.true_and] at h0
      refine zE _ _ _ _ (an (by simp) (HH _ _ _ _ _ ⟨_,pT t hl,?_⟩))
      rw[←h0]
      simp[fX]
      omega
     ·intro i hi hn h0
      rw[jo hi,List.all_cons] at h0
      have ha:t.nodes[i]?=some t.nodes[i]:=List.getElem?_eq_getElem hi
      have hli:t.lows[i]?=some t.lows[i]:=List.getElem?_eq_getElem (by omega)
      have gO:cC t i=false→ax C aJ aj TX.ret (lT (t.lows.map bG) (t.nodes.map aI)) (fun r fs=>r=vB (cv t.nodes.length (cC t)&&decide ((aK t).length≤60))∧fs=[]):=fun e=>HG _ _ _ (by rw[←h0,e];exact⟨rfl,by first|rfl|trivial⟩)
      have gN:cC t i=true→ah C aJ aj 4 0 (iK ((i:Int)+1) (t.lows.map bG) (t.nodes.map aI)) (fun u st=>ax C aJ aj u st fun r fs=>r=vB (cv t.nodes.length (cC t)&&decide ((aK t).length≤60))∧fs=[]):=fun e=>hn (by rw[←h0,e];rfl)
      have hh: ∀q,aa C aV [dG t,vI i] (vB q) []↔q=_:=fun q=>rL (GX t i t.nodes[i] ha (by omega) hl)
      refine zE _ _ _ _ (ai (by simp;omega) ?_)
      rw[aB (by omega)]
      simp only[hh,exists_eq_left,dh,fX,bK,bL]
      cases i with
      |zero=>
       have e:cC t 0=(eP t.nodes[0]&&((decide (0=0)|| !decide ((aF t.nodes[0]).length=0))&&t.nodes[0].all (bM t.lows 0))):=by simp only[cC,gz,ha,Bool.true_and]
       rw[e] at gO gN
       rw[if_neg (by omega)]
       exact pM gN gO
      |succ k=>
       have hk:t.lows[k]?=some t.lows[k]:=List.getElem?_eq_getElem (by omega)
       have e:cC t (k+1)=(decide (t.lows[k]<t.lows[k+1])&&(eP t.nodes[k+1]&&((decide (k+1=0)|| !decide ((aF t.nodes[k+1]).length=0))&&t.nodes[k+1].all (bM t.lows (k+1))))):=by simp only[cC,gz,ha,hk,hli]
       rw[e] at gO gN
       rw[if_pos (by omega),dN (by omega),show((k+1:Nat):Int)-1=(k:Int) by omega]
       simp only[vv,aC,hk,hli,Option.some.injEq,exists_eq_left']
       by_cases h4:t.lows[k]<t.lows[k+1]
       ·rw[if_neg (by omega)]
        rw[decide_eq_true h4,Bool.true_and] at gO gN
        exact pM gN gO
       ·rw[if_pos (by omega)]
        exact gO (by rw[decide_eq_false h4];rfl)
    exact key rfl
   ·rw[if_neg (by simpa using h3)]
    simp[h3]
  ·refine an (by simp;omega) ?_
   simp[h2]
theorem DI (t:Tree) (i:Nat) (n:List (List Key)) (ha:t.nodes[i]?=some n) (hlo:i<t.lows.length) (hl:dO t≤1073741824):aa C aR [dG t,vI i] (vB (n.all (bM t.lows i))) []:=by
 have hz:aH n≤tot aH t.nodes:=jR (w:=aH) ha
 have e1:aH n=n.length+tot bB n:=rfl
 have e2:dO t=t.lows.length+(t.nodes.length+tot aH t.nodes):=rfl
 refine(HM _ _ _ _ ⟨_,cw (e:=aI) ha,?_⟩).run
 simp only[List.length_map,Int.ofNat_eq_natCast]
 exact CH t i n hlo hl (by omega) (by omega)
theorem qT (t:Tree) (hl:dO t≤1073741824):aa C bP [dG t] (vB (dQ t)) []:=by
 have e2:dO t=t.lows.length+(t.nodes.length+tot aH t.nodes):=rfl
 refine(Lu _ _ _ ?_).run
 simp only[qL,exists_eq_left,List.length_map,Int.ofNat_eq_natCast,aT,bL]
 unfold dQ
 cases h1:iQ (t.nodes.length:Int) 1 20 with
 |false=>exact an rfl ⟨rfl,by first|rfl|trivial⟩
 |true=>
  refine ai rfl ?_
  have hn1:1≤t.nodes.length:=by have:=of_decide_eq_true h1;omega
  by_cases h2:t.lows.length=t.nodes.length
  ·refine ai (by simp[h2]) ?_
   have h0:t.lows[0]?=some t.lows[0]:=List.getElem?_eq_getElem (by omega)
   have hz0:fE t.lows 0=some t.lows[0]:=by rw[show(0:Int)=((0:Nat):Int) from rfl,aC];exact h0
   simp only[vv,hz0,h0,Option.some.injEq,exists_eq_left',bK]
   by_cases h3:t.lows[0]=0
   ·rw[if_pos (by simpa using h3)]
    have hw:(true&&(decide (t.lows.length=t.nodes.length)&&((decide (t.lows[0]=0))&&(cv t.nodes.length (cC t)&&decide ((aK t).length≤60)))))=(cv t.nodes.length (cC t)&&decide ((aK t).length≤60)):=by simp[h2,h3]
    rw[hw]
    have key: ∀c:Nat,c+((t.nodes.drop 0).flatMap aF).length=(aK t).length→((List.range' 0 (t.nodes.length-0)).all (cC t)&&decide ((aK t).length≤60))=(cv t.nodes.length (cC t)&&decide ((aK t).length≤60))→ah C bP az 4 0 (fz c (t.nodes.map aI) ((0:Nat):Int) (t.lows.map bG)) (fun u st=>ax C bP az u st fun r fs=>r=vB (cv t.nodes.length (cC t)&&decide ((aK t).length≤60))∧fs=[]):=by
     refine nj t.nodes.length (fun i=> ∀c:Nat,c+((t.nodes.drop i).flatMap aF).length=(aK t).length→((List.range' i (t.nodes.length-i)).all (cC t)&&decide ((aK t).length≤60))=(cv t.nodes.length (cC t)&&decide ((aK t).length≤60))→ah C bP az 4 0 (fz c (t.nodes.map aI) i (t.lows.map bG)) _) ?_ ?_
     ·intro c hc h0
      rw[Nat.sub_self] at h0
      simp only[List.range'_zero,List.all_nil,Bool.true_and] at h0
      rw[List.drop_length] at hc
      simp at hc
      refine zu _ _ _ _ _ (an (by simp) (Hg _ _ _ _ _ _ _ ?_))
      rw[←h0]
      simp[fX]
      omega
     ·intro i hi hn c hc h0
      rw[jo hi,List.all_cons] at h0
      have ha:t.nodes[i]?=some t.nodes[i]:=List.getElem?_eq_getElem hi
      have hli:t.lows[i]?=some t.lows[i]:=List.getElem?_eq_getElem (by omega)
      rw[List.drop_eq_getElem_cons hi,List.flatMap_cons,List.length_append] at hc
      have hz:aH t.nodes[i]≤tot aH t.nodes:=jR (w:=aH) ha
      have e1:aH t.nodes[i]=t.nodes[i].length+tot bB t.nodes[i]:=rfl
      have hnk:=cE t.nodes[i]
      have htk:=lD t
      have gO1:cC t i=false→ax C bP az TX.ret (iH (t.lows.map bG) (t.nodes.map aI) (t.nodes[i].map bS)) (fun r fs=>r=vB (cv t.nodes.length (cC t)&&decide ((aK t).length≤60))∧fs=[]):=fun e=>He _ _ _ _ (by rw[←h0,e];exact⟨rfl,by first|rfl|trivial⟩)
      have gO2:cC t i=false→ax C bP az TX.ret (oF (t.lows.map bG) (t.nodes.map aI) (t.nodes[i].map bS) ((aF t.nodes[i]).map bD)) (fun r fs=>r=vB (cv t.nodes.length (cC t)&&decide ((aK t).length≤60))∧fs=[]):=fun e=>Hf _ _ _ _ _ (by rw[←h0,e];exact⟨rfl,by first|rfl|trivial⟩)
      have gN:cC t i=true→ah C bP az 4 0 (fz ((c:Int)+((aF t.nodes[i]).length:Int)) (t.nodes.map aI) ((i:Int)+1) (t.lows.map bG)) (fun u st=>ax C bP az u st fun r fs=>r=vB (cv t.nodes.length (cC t)&&decide ((aK t).length≤60))∧fs=[]):=fun e=>hn (c+(aF t.nodes[i]).length) (by omega) (by rw[←h0,e];rfl)
      have hb: ∀q,aa C aR [dG t,vI i] (vB q) []↔q=_:=fun q=>rL (DI t i t.nodes[i] ha (by omega) hl)
      have hk: ∀q,aa C cj [fY t.nodes[i]] (.c (.sub 5 q)) []↔q=(aF t.nodes[i]).map bD:=fun q=>iG t.nodes[i] (by omega) (by omega) q
      have ho: ∀q,aa C bf [fY t.nodes[i]] (vB q) []↔q=eP t.nodes[i]:=fun q=>Lh t.nodes[i] (by omega) (by omega) q
      refine zu _ _ _ _ _ (ai (by simp;omega) ?_)
      simp only[rK,aC,ha,Option.some.injEq,exists_eq_left',hb,hk,ho,exists_eq_left,dh,fX,aT,bK,bL,List.length_map,Int.ofNat_eq_natCast]
      rw[aB (a:=(c:Int)) (by omega),aB (a:=(i:Int)) (by omega)]
      cases i with
      |zero=>
       have e:cC t 0=(eP t.nodes[0]&&((decide (0=0)|| !decide ((aF t.nodes[0]).length=0))&&t.nodes[0].all (bM t.lows 0))):=by simp only[cC,gz,ha,Bool.true_and]
       rw[e] at gO1 gN
       have hzz: ¬((0:Int)<((0:Nat):Int)):=by omega
       simp only[if_neg hzz]
       cases h4:eP t.nodes[0] with
       |false=>exact an rfl (gO1 (by rw[h4];rfl))
       |true=>
        refine ai rfl ?_
        cases h5:t.nodes[0].all (bM t.lows 0) with
        |false=>exact an rfl (gO1 (by rw[h4,h5];simp))
        |true=>exact ai rfl (gN (by rw[h4,h5];simp))
      |succ k=>
       have hk1:t.lows[k]?=some t.lows[k]:=List.getElem?_eq_getElem (by omega)
       have e:cC t (k+1)=(decide (t.lows[k]<t.lows[k+1])&&(eP t.nodes[k+1]&&((decide (k+1=0)|| !decide ((aF t.nodes[k+1]).length=0))&&t.nodes[k+1].all (bM t.lows (k+1))))):=by simp only[cC,gz,ha,hk1,hli]
       rw[e] at gO1 gO2 gN
       have hzz:(0:Int)<((k+1:Nat):Int):=by omega
       simp only[if_pos hzz]
       rw[dN (by omega),show((k+1:Nat):Int)-1=(k:Int) by omega]
       simp only[vv,aC,hk1,hli,Option.some.injEq,exists_eq_left']
       by_cases h6:t.lows[k]<t.lows[k+1]
       ·rw[if_neg (by omega)]
        cases h4:eP t.nodes[k+1] with
        |false=>exact an rfl (gO1 (by rw[h4];simp))
        |true=>
         refine ai rfl ?_
         cases h5:t.nodes[k+1].all (bM t.lows (k+1)) with
         |false=>exact an rfl (gO1 (by rw[h4,h5];simp))
         |true=>
          refine ai rfl ?_
          by_cases h7:(aF t.nodes[k+1]).length=0
          ·rw[if_pos (by omega)];exact gO2 (by rw[h4,h5];simp[h7])
          ·rw[if_neg (by omega)];exact gN (by rw[h4,h5,decide_eq_true h6];simp[h7])
       ·rw[if_pos (by omega)]
        exact gO1 (by rw[decide_eq_false h6];rfl)
    exact key 0 (by simp[aK]) rfl
   ·rw[if_neg (by simpa using h3)]
    simp[h3]
  ·refine an (by simp;omega) ?_
   simp[h2]
theorem E9 (p:Pool) (hS:cY p≤4194304):aa C aU [fZ p] (vB (gM p)) []:=by
 have hP:=jS hS
 have hname: ∀v∈p.vols,v.name.size≤140737488355328:=fun v hv=>by have:=qw (w:=pk) hv;have e:pk v=v.name.size:=rfl;omega
 refine(Kk _ _ _ _ _ _ _ ?_).run
 unfold gM
 have key:((List.range' 0 (p.vols.length-0)).all (bQ p)&&decide (p.vols.length≤6))=(cv p.vols.length (bQ p)&&decide (p.vols.length≤6))→ah C aU ak 4 0 (jh ((0:Nat):Int) (p.t.lows.map bG) (p.t.nodes.map aI) (p.ages.map di) (p.cells.map bJ) (p.vols.map dJ) p.next) (fun u st=>ax C aU ak u st fun r fs=>r=vB (cv p.vols.length (bQ p)&&decide (p.vols.length≤6))∧fs=[]):=by
  refine nj p.vols.length (fun i=>((List.range' i (p.vols.length-i)).all (bQ p)&&decide (p.vols.length≤6))=(cv p.vols.length (bQ p)&&decide (p.vols.length≤6))→ah C aU ak 4 0 (jh i (p.t.lows.map bG) (p.t.nodes.map aI) (p.ages.map di) (p.cells.map bJ) (p.vols.map dJ) p.next) (fun u st=>ax C aU ak u st fun r fs=>r=vB (cv p.vols.length (bQ p)&&decide (p.vols.length≤6))∧fs=[])) ?_ ?_
  ·intro h0
   rw[Nat.sub_self] at h0
   simp only[List.range'_zero,List.all_nil,Bool.true_and] at h0
   refine wZ _ _ _ _ _ _ _ _ (an (by simp) (FC _ _ _ _ _ _ _ _ _ ?_))
   rw[←h0]
   simp[fX]
   omega
  ·intro i hi hn h0
   rw[jo hi,List.all_cons] at h0
   have ha:p.vols[i]?=some p.vols[i]:=List.getElem?_eq_getElem hi
   have hv:=hname p.vols[i] (List.getElem_mem hi)
   have hkl:=JO p.ages p.vols[i].age
   have gO1:bQ p i=false→ax C aU ak TX.ret (ji (p.t.lows.map bG) (p.t.nodes.map aI) (p.ages.map di) (p.cells.map bJ) (p.vols.map dJ) p.next p.vols[i].name p.vols[i].age p.vols[i].size p.vols[i].fx) (fun r fs=>r=vB (cv p.vols.length (bQ p)&&decide (p.vols.length≤6))∧fs=[]):=fun e=>FA _ _ _ _ _ _ _ _ _ _ _ (by rw[←h0,e];exact⟨rfl,by first|rfl|trivial⟩)
   have gO2:bQ p i=false→ax C aU ak TX.ret (nJ (p.t.lows.map bG) (p.t.nodes.map aI) (p.ages.map di) (p.cells.map bJ) (p.vols.map dJ) p.next p.vols[i].name p.vols[i].age p.vols[i].size p.vols[i].fx ((iT p.ages p.vols[i].age).map bG)) (fun r fs=>r=vB (cv p.vols.length (bQ p)&&decide (p.vols.length≤6))∧fs=[]):=fun e=>FB _ _ _ _ _ _ _ _ _ _ _ _ (by rw[←h0,e];exact⟨rfl,by first|rfl|trivial⟩)
   have gN:bQ p i=true→ah C aU ak 4 0 (jh ((i:Int)+1) (p.t.lows.map bG) (p.t.nodes.map aI) (p.ages.map di) (p.cells.map bJ) (p.vols.map dJ) p.next) (fun u st=>ax C aU ak u st fun r fs=>r=vB (cv p.vols.length (bQ p)&&decide (p.vols.length≤6))∧fs=[]):=fun e=>hn (by rw[←h0,e];rfl)
   have hin: ∀b:Bool,((p.vols.take i).any fun u=>decide (u.age=p.vols[i].age))=b→(b=true→bQ p i=false)→(b=false→bQ p i=true)→ah C aU kz 3 2 (gP i 0 (p.t.lows.map bG) (p.t.nodes.map aI) (p.ages.map di) (p.cells.map bJ) (p.vols.map dJ) p.next p.vols[i].name p.vols[i].age p.vols[i].size p.vols[i].fx) (fun u st=>pL C aU ak 4 0 sD u st (fun u st=>ax C aU ak u st fun r fs=>r=vB (cv p.vols.length (bQ p)&&decide (p.vols.length≤6))∧fs=[])):=by
    intro b hb hbt hbf
    have keyI:(((p.vols.take i).drop 0).any fun u=>decide (u.age=p.vols[i].age))=b→ah C aU kz 3 2 (gP i ((0:Nat):Int) (p.t.lows.map bG) (p.t.nodes.map aI) (p.ages.map di) (p.cells.map bJ) (p.vols.map dJ) p.next p.vols[i].name p.vols[i].age p.vols[i].size p.vols[i].fx) (fun u st=>pL C aU ak 4 0 sD u st (fun u st=>ax C aU ak u st fun r fs=>r=vB (cv p.vols.length (bQ p)&&decide (p.vols.length≤6))∧fs=[])):=by
     have hle:(p.vols.take i).length=i:=by simp;omega
     refine bk (p.vols.take i) (fun k=>(((p.vols.take i).drop k).any fun u=>decide (u.age=p.vols[i].age))=b→ah C aU kz 3 2 (gP i k (p.t.lows.map bG) (p.t.nodes.map aI) (p.ages.map di) (p.cells.map bJ) (p.vols.map dJ) p.next p.vols[i].name p.vols[i].age p.vols[i].size p.vols[i].fx) (fun u st=>pL C aU ak 4 0 sD u st (fun u st=>ax C aU ak u st fun r fs=>r=vB (cv p.vols.length (bQ p)&&decide (p.vols.length≤6))∧fs=[]))) ?_ ?_
     ·intro h1
      rw[List.drop_length] at h1
      simp only[List.any_nil] at h1
      refine w4 _ _ _ _ _ _ _ _ _ _ _ _ _ (an (by simp;omega) (FE _ _ _ _ _ _ _ _ _ _ _ _ _ ?_))
      rw[aB (by omega)]
      exact gN (hbf h1.symm)
     ·intro k u hk hu hd htk hn2 h1
      have hu':p.vols[k]?=some u:=by rw[←hu,List.getElem?_take];simp;omega
      rw[hd,List.any_cons] at h1
      refine w4 _ _ _ _ _ _ _ _ _ _ _ _ _ (ai (by simp;omega) ?_)
      rw[aB (by omega)]
      simp only[ET,aC,hu',Option.some.injEq,exists_eq_left',aT,bK]
      by_cases h2:u.age=p.vols[i].age
      ·rw[if_pos h2]
       rw[decide_eq_true h2,Bool.true_or] at h1
       exact FD _ _ _ _ _ _ _ _ _ _ _ (gO1 (hbt h1.symm))
      ·rw[if_neg h2]
       rw[decide_eq_false h2,Bool.false_or] at h1
       exact hn2 h1
    exact keyI hb
   have hage: ∀z,aa C dR [jP p.ages,vI p.vols[i].age] (vI z) []↔z=jd p.ages p.vols[i].age:=fun z=>yf p.ages p.vols[i].age (by omega) z
   have hkid: ∀z,aa C eE [jP p.ages,vI p.vols[i].age] (.c (.sub 1 z)) []↔z=(iT p.ages p.vols[i].age).map bG:=fun z=>Pk (GO p.ages p.vols[i].age (by omega))
   refine wZ _ _ _ _ _ _ _ _ (ai (by simp;omega) ?_)
   simp only[ET,aC,ha,Option.some.injEq,exists_eq_left',Le p.vols[i].name hv,Bc,hage,hkid,exists_eq_left,bL,dh,bK,List.length_map,Int.ofNat_eq_natCast]
   cases h1:AO p.vols[i].name with
   |false=>exact an rfl (gO1 (by simp[bQ,ha,h1]))
   |true=>
    refine ai rfl ?_
    cases h2:iQ p.vols[i].size 1 12 with
    |false=>exact an rfl (gO1 (by simp[bQ,ha,h2]))
    |true=>
     refine ai rfl ?_
     by_cases h3:jd p.ages p.vols[i].age<0
     ·rw[if_pos h3];exact gO1 (by simp[bQ,ha,h3])
     ·rw[if_neg h3]
      by_cases h4:(iT p.ages p.vols[i].age).length=0
      ·rw[if_neg (by omega)]
       cases i with
       |zero=>
        rw[if_neg (by omega)]
        exact hin _ rfl (fun e=>by simp at e) (fun e=>by simp[bQ,ha,h1,h2,h3,h4,gz])
       |succ k=>
        have hk:p.vols[k]?=some p.vols[k]:=List.getElem?_eq_getElem (by omega)
        rw[if_pos (by omega),dN (by omega),show((k+1:Nat):Int)-1=(k:Int) by omega]
        simp only[aC,hk,Option.some.injEq,exists_eq_left']
        cases h5:KV p.vols[k].name p.vols[k+1].name with
        |false=>exact an rfl (gO2 (by simp[bQ,ha,hk,gz,h5]))
        |true=>exact ai rfl (hin _ rfl (fun e=>by simp only[bQ,ha,e];simp) (fun e=>by simp only[bQ,ha,hk,gz,h5,h1,h2,e];simp[h3,h4]))
      ·rw[if_pos (by omega)];exact gO2 (by simp[bQ,ha,h4])
 exact key rfl
theorem GY (p:Pool) (hS:cY p≤4194304):aa C c8 [fZ p] (vB (gM p)) []:=by
 have hP:=jS hS
 have hname: ∀v∈p.vols,v.name.size≤140737488355328:=fun v hv=>by have:=qw (w:=pk) hv;have e:pk v=v.name.size:=rfl;omega
 refine(Mg _ _ _ _ _ _ _ ?_).run
 unfold gM
 have key:((List.range' 0 (p.vols.length-0)).all (bQ p)&&decide (p.vols.length≤6))=(cv p.vols.length (bQ p)&&decide (p.vols.length≤6))→ah C c8 ak 4 0 (iP (p.vols.map dJ) ((0:Nat):Int) (p.t.lows.map bG) (p.t.nodes.map aI) (p.ages.map di) (p.cells.map bJ) p.next) (fun u st=>ax C c8 ak u st fun r fs=>r=vB (cv p.vols.length (bQ p)&&decide (p.vols.length≤6))∧fs=[]):=by
  refine nj p.vols.length (fun i=>((List.range' i (p.vols.length-i)).all (bQ p)&&decide (p.vols.length≤6))=(cv p.vols.length (bQ p)&&decide (p.vols.length≤6))→ah C c8 ak 4 0 (iP (p.vols.map dJ) i (p.t.lows.map bG) (p.t.nodes.map aI) (p.ages.map di) (p.cells.map bJ) p.next) (fun u st=>ax C c8 ak u st fun r fs=>r=vB (cv p.vols.length (bQ p)&&decide (p.vols.length≤6))∧fs=[])) ?_ ?_
  ·intro h0
   rw[Nat.sub_self] at h0
   simp only[List.range'_zero,List.all_nil,Bool.true_and] at h0
   refine zZ _ _ _ _ _ _ _ _ (an (by simp) (Iy _ _ _ _ _ _ _ _ _ _ ?_))
   rw[←h0]
   simp[fX]
   omega
  ·intro i hi hn h0
   rw[jo hi,List.all_cons] at h0
   have ha:p.vols[i]?=some p.vols[i]:=List.getElem?_eq_getElem hi
   have hv:=hname p.vols[i] (List.getElem_mem hi)
   have hkl:=JO p.ages p.vols[i].age
   have gO1:bQ p i=false→ax C c8 ak TX.ret (gE (p.t.lows.map bG) (p.t.nodes.map aI) (p.ages.map di) (p.cells.map bJ) (p.vols.map dJ) p.next p.vols[i].name p.vols[i].age p.vols[i].size p.vols[i].fx) (fun r fs=>r=vB (cv p.vols.length (bQ p)&&decide (p.vols.length≤6))∧fs=[]):=fun e=>Iw _ _ _ _ _ _ _ _ _ _ _ (by rw[←h0,e];exact⟨rfl,by first|rfl|trivial⟩)
   have gO2:bQ p i=false→ax C c8 ak TX.ret (jI (p.t.lows.map bG) (p.t.nodes.map aI) (p.ages.map di) (p.cells.map bJ) (p.vols.map dJ) p.next p.vols[i].name p.vols[i].age p.vols[i].size p.vols[i].fx ((iT p.ages p.vols[i].age).map bG)) (fun r fs=>r=vB (cv p.vols.length (bQ p)&&decide (p.vols.length≤6))∧fs=[]):=fun e=>Ix _ _ _ _ _ _ _ _ _ _ _ _ (by rw[←h0,e];exact⟨rfl,by first|rfl|trivial⟩)
   have gN:bQ p i=true→ah C c8 ak 4 0 (iP (p.vols.map dJ) ((i:Int)+1) (p.t.lows.map bG) (p.t.nodes.map aI) (p.ages.map di) (p.cells.map bJ) p.next) (fun u st=>ax C c8 ak u st fun r fs=>r=vB (cv p.vols.length (bQ p)&&decide (p.vols.length≤6))∧fs=[]):=fun e=>hn (by rw[←h0,e];rfl)
   have hage: ∀z,aa C ju [jP p.ages,vI p.vols[i].age] (vI z) []↔z=jd p.ages p.vols[i].age:=fun z=>yg p.ages p.vols[i].age (by omega) z
   have hkid: ∀z,aa C eF [jP p.ages,vI p.vols[i].age] (.c (.sub 1 z)) []↔z=(iT p.ages p.vols[i].age).map bG:=fun z=>Pk (GR p.ages p.vols[i].age (by omega))
   have hcut:ay (p.vols.map dJ) 0 (i:Int)=(p.vols.take i).map dJ:=by rw[cA,Int.toNat_natCast];rfl
   have hcin:ew 0 (i:Int) (p.vols.length:Int)=true:=by simp;omega
   have hhas: ∀z,aa C fM [AM (p.vols.take i),.fn mu [[iS p.vols[i].name,iI p.vols[i].age,iI p.vols[i].size,iB p.vols[i].fx]]] (vB z) []↔z=(p.vols.take i).any fun u=>decide (u.age=p.vols[i].age):=fun z=>rL (Aj (p.vols.take i) _ _ _ _ (by simp;omega))
   refine zZ _ _ _ _ _ _ _ _ (ai (by simp;omega) ?_)
   simp only[hcut,ET,aC,ha,Option.some.injEq,exists_eq_left',Lf p.vols[i].name hv,qL,hage,hkid,hhas,exists_eq_left,bL,dh,bK,List.length_map,Int.ofNat_eq_natCast]
   rw[aB (by omega)]
   cases h1:AO p.vols[i].name with
   |false=>exact an rfl (gO1 (by simp[bQ,ha,h1]))
   |true=>
    refine ai rfl ?_
    cases i with
    |zero=>
     rw[if_neg (by omega)]
     cases h2:iQ p.vols[0].size 1 12 with
     |false=>exact an rfl (gO1 (by simp[bQ,ha,h2]))
     |true=>
      refine ai rfl ?_
      by_cases h3:jd p.ages p.vols[0].age<0
      ·rw[if_pos h3];exact gO1 (by simp[bQ,ha,h3])
      ·rw[if_neg h3]
       by_cases h4:(iT p.ages p.vols[0].age).length=0
       ·rw[if_neg (by omega)]
        refine ai hcin ?_
        cases h6:(p.vols.take (0)).any fun u=>decide (u.age=p.vols[0].age) with
        |true=>exact ai rfl (gO2 (by simp only[bQ,ha,h6];simp))
        |false=>exact an rfl (gN (by simp only[bQ,ha,h6,h1,h2,gz];simp[h3,h4]))
       ·rw[if_pos (by omega)];exact gO2 (by simp[bQ,ha,h4])
    |succ k=>
     have hk:p.vols[k]?=some p.vols[k]:=List.getElem?_eq_getElem (by omega)
     rw[if_pos (by omega),dN (by omega),show((k+1:Nat):Int)-1=(k:Int) by omega]
     simp only[aC,hk,Option.some.injEq,exists_eq_left']
     cases h5:KV p.vols[k].name p.vols[k+1].name with
     |false=>exact an rfl (gO1 (by simp[bQ,ha,hk,gz,h5]))
     |true=>
      refine ai rfl ?_
      cases h2:iQ p.vols[k+1].size 1 12 with
      |false=>exact an rfl (gO1 (by simp[bQ,ha,h2]))
      |true=>
       refine ai rfl ?_
       by_cases h3:jd p.ages p.vols[k+1].age<0
       ·rw[if_pos h3];exact gO1 (by simp[bQ,ha,h3])
       ·rw[if_neg h3]
        by_cases h4:(iT p.ages p.vols[k+1].age).length=0
        ·rw[if_neg (by omega)]
         refine ai hcin ?_
         cases h6:(p.vols.take (k+1)).any fun u=>decide (u.age=p.vols[k+1].age) with
         |true=>exact ai rfl (gO2 (by simp only[bQ,ha,h6];simp))
         |false=>exact an rfl (gN (by simp only[bQ,ha,h6,h1,h2,gz,hk,h5];simp[h3,h4]))
        ·rw[if_pos (by omega)];exact gO2 (by simp[bQ,ha,h4])
 exact key rfl
theorem US:nX 24=24:=by unfold nX;rfl
theorem Zw {n:Nat} (h:n≤1000):(true&&ee 24 24&&oT 0 24&&fits (nX 24) n)=true:=by rw[US,cW (by omega)];simp
theorem XT:(nE []).map Gu=List.replicate 24 [iB false]:=by rw[Po];rfl
theorem Fa (p:Pool) (hS:cY p≤4194304):aa C aY [fZ p] (vB (en p)) []:=by
 have hP:=jS hS
 have htl:=lD p.t
 refine(Kv _ _ _ _ _ _ _ ?_).run
 refine⟨_,pT p.t (by omega),?_⟩
 unfold en
 generalize aK p.t=L at*
 have hdk:bT L≤L.length:=List.length_filter_le _ _
 have key: ∀c:Nat,c+bT (L.drop 0)=bT L→((List.range' 0 (L.length-0)).all (bY p L)&&decide ((bq p.cells:Int)=bT L))=(cv L.length (bY p L)&&decide ((bq p.cells:Int)=bT L))→ah C aY az 4 0 (gR (c:Int) ((0:Nat):Int) (p.t.lows.map bG) (p.t.nodes.map aI) (p.ages.map di) (p.cells.map bJ) (p.vols.map dJ) p.next (L.map bD)) (fun u st=>ax C aY az u st fun r fs=>r=vB (cv L.length (bY p L)&&decide ((bq p.cells:Int)=bT L))∧fs=[]):=by
  refine nj L.length (fun i=> ∀c:Nat,c+bT (L.drop i)=bT L→((List.range' i (L.length-i)).all (bY p L)&&decide ((bq p.cells:Int)=bT L))=(cv L.length (bY p L)&&decide ((bq p.cells:Int)=bT L))→ah C aY az 4 0 (gR (c:Int) i (p.t.lows.map bG) (p.t.nodes.map aI) (p.ages.map di) (p.cells.map bJ) (p.vols.map dJ) p.next (L.map bD)) (fun u st=>ax C aY az u st fun r fs=>r=vB (cv L.length (bY p L)&&decide ((bq p.cells:Int)=bT L))∧fs=[])) ?_ ?_
  ·intro c hc h0
   rw[Nat.sub_self] at h0
   simp only[List.range'_zero,List.all_nil,Bool.true_and] at h0
   rw[List.drop_length] at hc
   have hc0:c=bT L:=by simpa [bT] using hc
   subst hc0
   refine xb _ _ _ _ _ _ _ _ _ _ (an (by simp) (FQ _ _ _ _ _ _ _ _ _ _ _ ⟨_,CF p.cells (by omega),?_⟩))
   rw[←h0]
   refine⟨?_,by first|rfl|trivial⟩
   simp[aT,eq_comm]
  ·intro i hi hn c hc h0
   rw[jo hi,List.all_cons] at h0
   have ha:L[i]?=some L[i]:=List.getElem?_eq_getElem hi
   rw[List.drop_eq_getElem_cons hi,BX] at hc
   have gO1:bY p L i=false→ax C aY az TX.ret (kV (p.t.lows.map bG) (p.t.nodes.map aI) (p.ages.map di) (p.cells.map bJ) (p.vols.map dJ) p.next (L.map bD)) (fun r fs=>r=vB (cv L.length (bY p L)&&decide ((bq p.cells:Int)=bT L))∧fs=[]):=fun e=>FP _ _ _ _ _ _ _ _ (by rw[←h0,e];exact⟨rfl,by first|rfl|trivial⟩)
   have gN: ∀c':Nat,c'+bT (L.drop (i+1))=bT L→bY p L i=true→ah C aY az 4 0 (gR (c':Int) ((i:Int)+1) (p.t.lows.map bG) (p.t.nodes.map aI) (p.ages.map di) (p.cells.map bJ) (p.vols.map dJ) p.next (L.map bD)) (fun u st=>ax C aY az u st fun r fs=>r=vB (cv L.length (bY p L)&&decide ((bq p.cells:Int)=bT L))∧fs=[]):=fun c' e' e=>hn c' e' (by rw[←h0,e];rfl)
   have hin: ∀b:Bool,((L.take i).any fun x=>decide (x.k=1)&&decide (x.c=L[i].c))=b→(b=true→bY p L i=false)→(b=false→bY p L i=true)→L[i].k=1→ah C aY fH 3 2 (gT c i 0 (p.t.lows.map bG) (p.t.nodes.map aI) (p.ages.map di) (p.cells.map bJ) (p.vols.map dJ) p.next (L.map bD)) (fun u st=>pL C aY az 4 0 pF u st (fun u st=>ax C aY az u st fun r fs=>r=vB (cv L.length (bY p L)&&decide ((bq p.cells:Int)=bT L))∧fs=[])):=by
    intro b hb hbt hbf hk1
    rw[if_pos hk1] at hc
    have keyI:(((L.take i).drop 0).any fun x=>decide (x.k=1)&&decide (x.c=L[i].c))=b→ah C aY fH 3 2 (gT c i ((0:Nat):Int) (p.t.lows.map bG) (p.t.nodes.map aI) (p.ages.map di) (p.cells.map bJ) (p.vols.map dJ) p.next (L.map bD)) (fun u st=>pL C aY az 4 0 pF u st (fun u st=>ax C aY az u st fun r fs=>r=vB (cv L.length (bY p L)&&decide ((bq p.cells:Int)=bT L))∧fs=[])):=by
     have hle:(L.take i).length=i:=by simp;omega
     refine bk (L.take i) (fun k=>(((L.take i).drop k).any fun x=>decide (x.k=1)&&decide (x.c=L[i].c))=b→ah C aY fH 3 2 (gT c i k (p.t.lows.map bG) (p.t.nodes.map aI) (p.ages.map di) (p.cells.map bJ) (p.vols.map dJ) p.next (L.map bD)) (fun u st=>pL C aY az 4 0 pF u st (fun u st=>ax C aY az u st fun r fs=>r=vB (cv L.length (bY p L)&&decide ((bq p.cells:Int)=bT L))∧fs=[]))) ?_ ?_
     ·intro h1
      rw[List.drop_length] at h1
      simp only[List.any_nil] at h1
      refine xd _ _ _ _ _ _ _ _ _ _ _ (an (by simp;omega) (FT _ _ _ _ _ _ _ _ _ _ _ ?_))
      rw[aB (by omega),aB (by omega)]
      exact gN (c+1) (by omega) (hbf h1.symm)
     ·intro k u hk hu hd htk hn2 h1
      have hu':L[k]?=some u:=by rw[←hu,List.getElem?_take];simp;omega
      rw[hd,List.any_cons] at h1
      refine xd _ _ _ _ _ _ _ _ _ _ _ (ai (by simp;omega) ?_)
      rw[aB (by omega)]
      simp only[mF,aC,hu',ha,Option.some.injEq,exists_eq_left',aT,bK]
      by_cases h3:u.k=1
      ·rw[if_pos h3]
       by_cases h2:u.c=L[i].c
       ·rw[if_pos h2]
        rw[decide_eq_true h3,decide_eq_true h2,Bool.and_self,Bool.true_or] at h1
        exact FR _ _ _ _ _ _ _ _ (gO1 (hbt h1.symm))
       ·rw[if_neg h2]
        rw[decide_eq_false h2,Bool.and_false,Bool.false_or] at h1
        exact hn2 h1
      ·rw[if_neg h3]
       rw[decide_eq_false h3,Bool.false_and,Bool.false_or] at h1
       exact hn2 h1
    exact keyI hb
   have hage: ∀z,aa C dR [jP p.ages,vI L[i].a] (vI z) []↔z=jd p.ages L[i].a:=fun z=>yf p.ages L[i].a (by omega) z
   have hcell: ∀n b,aa C qI [e9 p.cells,vI L[i].c,vI L[i].g] (.tu [(0,[iI n]),(0,[iB b])]) []↔n=(cellAt p.cells L[i].c L[i].g).1∧b=(cellAt p.cells L[i].c L[i].g).2:=fun n b=>Lc p.cells (by omega) _ _ n b
   refine xb _ _ _ _ _ _ _ _ _ _ (ai (by simp;omega) ?_)
   simp only[mF,aC,ha,Option.some.injEq,exists_eq_left',hage,hcell,and_assoc,exists_and_left,exists_eq_left,dh,aT,bL,bK]
   rw[aB (a:=(i:Int)) (by omega)]
   by_cases h1:jd p.ages L[i].a<0
   ·rw[if_pos h1];exact gO1 (by simp[bY,ha,h1])
   ·rw[if_neg h1]
    by_cases h2:L[i].k=1
    ·rw[if_pos h2]
     cases h3:(cellAt p.cells L[i].c L[i].g).2 with
     |false=>exact an rfl (gO1 (by simp[bY,ha,h2,h3]))
     |true=>
      refine ai rfl ?_
      exact hin _ rfl (fun e=>by simp only[bY,ha,e,h2];simp) (fun e=>by simp only[bY,ha,e,h2,h3];simp[h1]) h2
    ·rw[if_neg h2]
     rw[if_neg h2] at hc
     exact gN c (by omega) (by simp[bY,ha,h1,h2])
 exact key 0 (by simp) rfl
theorem Fb (p:Pool) (hS:cY p≤4194304) (h24:p.cells.length=24):aa C de [fZ p] (vB (en p)) []:=by
 have hP:=jS hS
 have htl:=lD p.t
 refine(Kl _ _ _ _ _ _ _ ?_).run
 refine ai (Zw (by omega)) ⟨_,ua p.t (by omega),?_⟩
 unfold en
 generalize aK p.t=L at*
 have hdk:bT L≤L.length:=List.length_filter_le _ _
 have key: ∀c:Nat,c+bT (L.drop 0)=bT L→((List.range' 0 (L.length-0)).all (bY p L)&&decide ((bq p.cells:Int)=bT L))=(cv L.length (bY p L)&&decide ((bq p.cells:Int)=bT L))→ah C de az 4 0 (gQ (c:Int) (L.map bD) ((0:Nat):Int) (p.t.lows.map bG) (p.t.nodes.map aI) (p.ages.map di) (p.cells.map bJ) (p.vols.map dJ) p.next ((nE (L.take 0)).map Gu)) (fun u st=>ax C de az u st fun r fs=>r=vB (cv L.length (bY p L)&&decide ((bq p.cells:Int)=bT L))∧fs=[]):=by
  refine nj L.length (fun i=> ∀c:Nat,c+bT (L.drop i)=bT L→((List.range' i (L.length-i)).all (bY p L)&&decide ((bq p.cells:Int)=bT L))=(cv L.length (bY p L)&&decide ((bq p.cells:Int)=bT L))→ah C de az 4 0 (gQ (c:Int) (L.map bD) i (p.t.lows.map bG) (p.t.nodes.map aI) (p.ages.map di) (p.cells.map bJ) (p.vols.map dJ) p.next ((nE (L.take i)).map Gu)) (fun u st=>ax C de az u st fun r fs=>r=vB (cv L.length (bY p L)&&decide ((bq p.cells:Int)=bT L))∧fs=[])) ?_ ?_
  ·intro c hc h0
   rw[Nat.sub_self] at h0
   simp only[List.range'_zero,List.all_nil,Bool.true_and] at h0
   rw[List.drop_length] at hc
   have hc0:c=bT L:=by simpa [bT] using hc
   subst hc0
   refine w5 _ _ _ _ _ _ _ _ _ _ _ (an (by simp) (FG _ _ _ _ _ _ _ _ _ _ _ _ _ ⟨_,CG p.cells (by omega),?_⟩))
   rw[←h0]
   refine⟨?_,by first|rfl|trivial⟩
   simp[aT,eq_comm]
  ·intro i hi hn c hc h0
   rw[jo hi,List.all_cons] at h0
   have ha:L[i]?=some L[i]:=List.getElem?_eq_getElem hi
   rw[List.drop_eq_getElem_cons hi,BX] at hc
   have gO1: ∀u,bY p L i=false→ax C de az TX.ret (kQ (p.t.lows.map bG) (p.t.nodes.map aI) (p.ages.map di) (p.cells.map bJ) (p.vols.map dJ) p.next L[i].b L[i].a L[i].k L[i].c L[i].g u (L.map bD)) (fun r fs=>r=vB (cv L.length (bY p L)&&decide ((bq p.cells:Int)=bT L))∧fs=[]):=fun u e=>FF _ _ _ _ _ _ _ _ _ _ _ _ _ _ (by rw[←h0,e];exact⟨rfl,by first|rfl|trivial⟩)
   have ht1:L.take (i+1)=L.take i++[L[i]]:=by rw[List.take_add_one,ha];rfl
   have gN: ∀c':Nat,c'+bT (L.drop (i+1))=bT L→bY p L i=true→ah C de az 4 0 (gQ (c':Int) (L.map bD) ((i:Int)+1) (p.t.lows.map bG) (p.t.nodes.map aI) (p.ages.map di) (p.cells.map bJ) (p.vols.map dJ) p.next ((nE (L.take (i+1))).map Gu)) (fun u st=>ax C de az u st fun r fs=>r=vB (cv L.length (bY p L)&&decide ((bq p.cells:Int)=bT L))∧fs=[]):=fun c' e' e=>hn c' e' (by rw[←h0,e];rfl)
   have hage: ∀z,aa C ju [jP p.ages,vI L[i].a] (vI z) []↔z=jd p.ages L[i].a:=fun z=>yg p.ages L[i].a (by omega) z
   have hcell: ∀n b,aa C qJ [e9 p.cells,vI L[i].c,vI L[i].g] (.tu [(0,[iI n]),(0,[iB b])]) []↔n=(cellAt p.cells L[i].c L[i].g).1∧b=(cellAt p.cells L[i].c L[i].g).2:=fun n b=>Ld p.cells (by omega) _ _ n b
   refine w5 _ _ _ _ _ _ _ _ _ _ _ (ai (by simp;omega) ?_)
   simp only[mF,aC,ha,Option.some.injEq,exists_eq_left',hage,hcell,and_assoc,exists_and_left,exists_eq_left,dh,aT,bL,bK]
   rw[aB (a:=(i:Int)) (by omega)]
   by_cases h1:jd p.ages L[i].a<0
   ·rw[if_pos h1];exact gO1 _ (by simp[bY,ha,h1])
   ·rw[if_neg h1]
    by_cases h2:L[i].k=1
    ·rw[if_pos h2]
     cases h3:(cellAt p.cells L[i].c L[i].g).2 with
     |false=>exact an rfl (gO1 _ (by simp[bY,ha,h2,h3]))
     |true=>
      refine ai rfl ?_
      have hci:=Sv h3
      rw[h24] at hci
      simp only[VU,Pp (L.take i) hci,Option.some.injEq,exists_eq_left',exists_eq_left,VV]
      cases h4:(L.take i).any fun x=>decide (x.k=1)&&decide (x.c=L[i].c) with
      |true=>exact ai rfl (gO1 _ (by simp only[bY,ha,h4,h2];simp))
      |false=>
       refine an rfl ?_
       rw[Pq (L.take i) L[i] h2 hci,←ht1,aB (a:=(c:Int)) (by omega)]
       rw[if_pos h2] at hc
       exact gN (c+1) (by omega) (by simp only[bY,ha,h4,h2,h3];simp[h1])
    ·rw[if_neg h2]
     rw[if_neg h2] at hc
     have hg:=gN c (by omega) (by simp[bY,ha,h1,h2])
     rw[ht1,NP _ _ h2] at hg
     exact hg
 rw[US,←XT];exact key 0 (by simp) rfl
def jc (n:Int) (a:Age):Bool:=decide (a.id<n)
theorem SE (p:Pool):ig p=(p.ages.all (jc p.next)&&(dQ p.t&&(lE p.ages&&(cK p.cells&&(iQ p.next 1 61&&(gM p&&en p)))))):=rfl
theorem Wf {l:List Cell} (h:cK l=true):l.length=24:=by simp[cK] at h;omega
theorem Fc (p:Pool) (hS:cY p≤4194304):aa C dK [fZ p] (vB ((p.ages.all (jc p.next)&&(dQ p.t&&(lE p.ages&&(cK p.cells&&(iQ p.next 1 61&&(gM p&&en p)))))))) []:=by
 refine(Ma _ _ _ _ _ _ _ ?_).run
 have hP:=jS hS
 have htl:=lD p.t
 have key:((p.ages.drop 0).all (jc p.next)&&(dQ p.t&&(lE p.ages&&(cK p.cells&&(iQ p.next 1 61&&(gM p&&en p))))))=(p.ages.all (jc p.next)&&(dQ p.t&&(lE p.ages&&(cK p.cells&&(iQ p.next 1 61&&(gM p&&en p))))))→ah C dK ak 4 0 (jH ((0:Nat):Int) (p.t.lows.map bG) (p.t.nodes.map aI) (p.ages.map di) (p.cells.map bJ) (p.vols.map dJ) p.next) (fun u st=>ax C dK ak u st fun r fs=>r=vB ((p.ages.all (jc p.next)&&(dQ p.t&&(lE p.ages&&(cK p.cells&&(iQ p.next 1 61&&(gM p&&en p)))))))∧fs=[]):=by
  refine bk p.ages (fun i=>((p.ages.drop i).all (jc p.next)&&(dQ p.t&&(lE p.ages&&(cK p.cells&&(iQ p.next 1 61&&(gM p&&en p))))))=(p.ages.all (jc p.next)&&(dQ p.t&&(lE p.ages&&(cK p.cells&&(iQ p.next 1 61&&(gM p&&en p))))))→ah C dK ak 4 0 (jH i (p.t.lows.map bG) (p.t.nodes.map aI) (p.ages.map di) (p.cells.map bJ) (p.vols.map dJ) p.next) (fun u st=>ax C dK ak u st fun r fs=>r=vB ((p.ages.all (jc p.next)&&(dQ p.t&&(lE p.ages&&(cK p.cells&&(iQ p.next 1 61&&(gM p&&en p)))))))∧fs=[])) ?_ ?_
  ·intro h0
   refine zU _ _ _ _ _ _ _ _ (an (by simp) (Ik _ _ _ _ _ _ _ _ _ ?_))
   rw[List.drop_length] at h0
   simp only[List.all_nil,Bool.true_and] at h0
   rw[←h0]
   refine⟨_,qS p.t (by omega),?_⟩
   cases h1:dQ p.t with
   |false=>exact an rfl ⟨rfl,by first|rfl|trivial⟩
   |true=>
    refine ai rfl ⟨_,(Lg p.ages (by omega) (lE p.ages)).2 rfl,?_⟩
    cases h2:lE p.ages with
    |false=>exact an rfl ⟨rfl,by first|rfl|trivial⟩
    |true=>
     refine ai rfl ⟨_,(sy p.cells (by omega) (cK p.cells)).2 rfl,?_⟩
     cases h3:cK p.cells with
     |false=>exact an rfl ⟨rfl,by first|rfl|trivial⟩
     |true=>
      refine ai rfl ⟨_,Bb p.next 1 61,?_⟩
      cases h4:iQ p.next 1 61 with
      |false=>exact an rfl ⟨rfl,by first|rfl|trivial⟩
      |true=>
       refine ai rfl ⟨_,E9 p hS,?_⟩
       cases h5:gM p with
       |false=>exact an rfl ⟨rfl,by first|rfl|trivial⟩
       |true=>exact ai rfl ⟨_,Fa p hS,⟨rfl,by first|rfl|trivial⟩⟩
  ·intro i a hi ha hd htk hn h0
   have gO:(jc p.next) a=false→(p.ages.all (jc p.next)&&(dQ p.t&&(lE p.ages&&(cK p.cells&&(iQ p.next 1 61&&(gM p&&en p))))))=false:=fun e=>by rw[←h0,hd];simp[e]
   have gN:(jc p.next) a=true→ah C dK ak 4 0 (jH ((i:Int)+1) (p.t.lows.map bG) (p.t.nodes.map aI) (p.ages.map di) (p.cells.map bJ) (p.vols.map dJ) p.next) (fun u st=>ax C dK ak u st fun r fs=>r=vB ((p.ages.all (jc p.next)&&(dQ p.t&&(lE p.ages&&(cK p.cells&&(iQ p.next 1 61&&(gM p&&en p)))))))∧fs=[]):=fun e=>hn (by rw[←h0,hd];simp[e])
   refine zU _ _ _ _ _ _ _ _ (ai (by simp;omega) ?_)
   simp only[vw,aC,ha,Option.some.injEq,exists_eq_left',fX,bK]
   rw[aB (by omega)]
   by_cases h1:p.next≤a.id
   ·rw[if_pos h1];exact Ij _ _ _ _ _ _ _ (by rw[gO (by simp[jc];omega)];exact⟨rfl,by first|rfl|trivial⟩)
   ·rw[if_neg h1];exact gN (by simp[jc];omega)
 exact key rfl
theorem yq (p:Pool) (hS:cY p≤4194304):aa C dK [fZ p] (vB (ig p)) []:=Fc p hS
theorem yt (p:Pool) (hS:cY p≤4194304):aa C eW [fZ p] (vB (ig p)) []:=by
 have hP:=jS hS
 rw[SE]
 refine(LG _ _ _ _ _ _ _ ?_).run
 refine⟨_,qT p.t (by omega),?_⟩
 cases h1:dQ p.t with
 |false=>exact ai rfl ⟨by simp,by first|rfl|trivial⟩
 |true=>
  refine an rfl ⟨_,(Li p.ages (by omega) (lE p.ages)).2 rfl,?_⟩
  cases h2:lE p.ages with
  |false=>exact ai rfl ⟨by simp,by first|rfl|trivial⟩
  |true=>
   refine an rfl ⟨_,(sA p.cells (by omega) (cK p.cells)).2 rfl,?_⟩
   cases h3:cK p.cells with
   |false=>exact ai rfl ⟨by simp,by first|rfl|trivial⟩
   |true=>
    refine an rfl ⟨_,sx p.next 1 61,?_⟩
    cases h4:iQ p.next 1 61 with
    |false=>exact ai rfl ⟨by simp,by first|rfl|trivial⟩
    |true=>
     refine an rfl ?_
     simp only[Bool.true_and]
     have key:((p.ages.drop 0).all (jc p.next)&&(gM p&&en p))=(p.ages.all (jc p.next)&&(gM p&&en p))→ah C eW aj 4 0 (lS (p.ages.map di) ((0:Nat):Int) (p.t.lows.map bG) (p.t.nodes.map aI) (p.cells.map bJ) (p.vols.map dJ) p.next) (fun u st=>ax C eW aj u st fun r fs=>r=vB (p.ages.all (jc p.next)&&(gM p&&en p))∧fs=[]):=by
      refine bk p.ages (fun i=>((p.ages.drop i).all (jc p.next)&&(gM p&&en p))=(p.ages.all (jc p.next)&&(gM p&&en p))→ah C eW aj 4 0 (lS (p.ages.map di) i (p.t.lows.map bG) (p.t.nodes.map aI) (p.cells.map bJ) (p.vols.map dJ) p.next) (fun u st=>ax C eW aj u st fun r fs=>r=vB (p.ages.all (jc p.next)&&(gM p&&en p))∧fs=[])) ?_ ?_
      ·intro h0
       rw[List.drop_length] at h0
       simp only[List.all_nil,Bool.true_and] at h0
       refine zA _ _ _ _ _ _ _ _ (an (by simp) (HA _ _ _ _ _ _ _ _ _ _ ⟨_,GY p hS,?_⟩))
       rw[←h0]
       cases h5:gM p with
       |false=>exact an rfl ⟨rfl,by first|rfl|trivial⟩
       |true=>exact ai rfl ⟨_,Fb p hS (Wf h3),⟨rfl,by first|rfl|trivial⟩⟩
      ·intro i a hi ha hd htk hn h0
       rw[hd,List.all_cons] at h0
       refine zA _ _ _ _ _ _ _ _ (ai (by simp;omega) ?_)
       simp only[vw,aC,ha,Option.some.injEq,exists_eq_left',fX,bK]
       rw[aB (by omega)]
       by_cases h5:p.next≤a.id
       ·rw[if_pos h5]
        have e:jc p.next a=false:=by simp[jc];omega
        exact Hz _ _ _ _ _ _ _ _ _ (by rw[←h0,e];exact⟨rfl,by first|rfl|trivial⟩)
       ·rw[if_neg h5]
        have e:jc p.next a=true:=by simp[jc];omega
        exact hn (by rw[←h0,e];rfl)
     exact key rfl
theorem qU (l:List Cell) (hl:l.length≤1073741824):aa C iq [e9 l] (e9 l) []:=by
 refine(Ls _ _ ?_).run
 rw[show bR (l.map bJ)=true from by simp[Cq],cW (by simp;omega)]
 exact⟨rfl,by first|rfl|trivial⟩
theorem o6 (l:List Cell) (hl:l.length≤1073741824):aa C jt [e9 l] (e9 l) []:=by
 refine(Ge _ _ ?_).run
 rw[show bR (l.map bJ)=true from by simp[Cq],cW (by simp;omega)]
 exact⟨rfl,by first|rfl|trivial⟩
theorem DJ (l:List Cell) (i:Int) (hl:l.length≤1073741824):aa C vC [e9 l,vI i] (e9 (jr l i)) []:=by
 refine(HB _ _ _ ⟨_,qU l hl,_,(sy l hl (cK l)).2 rfl,?_⟩).run
 cases h1:cK l with
 |false=>exact an rfl ⟨by rw[Dy h1],by first|rfl|trivial⟩
 |true=>
  refine ai rfl ⟨_,Bb _ _ _,?_⟩
  rw[List.length_map,show dm (Int.ofNat l.length) 1=(l.length:Int)-1 from dN (by simp;omega)]
  by_cases h2:0≤i∧i<l.length
  ·obtain⟨c,hc⟩:=qm h2.1 h2.2
   refine ai (by simp[iQ];omega) ?_
   simp only[kH,hc,Option.some.injEq,exists_eq_left']
   cases h3:c.u with
   |false=>exact an rfl ⟨by rw[Gw hc h3],by first|rfl|trivial⟩
   |true=>
    refine ai rfl (an (by simp) ?_)
    simp only[kH,hc,Option.some.injEq,exists_eq_left',NO]
    exact⟨by rw[Dz hc h1 h3],by first|rfl|trivial⟩
  ·exact an (by simp[iQ];omega) ⟨by rw[BY (nD h2)],by first|rfl|trivial⟩
theorem DK (l:List Cell) (i:Int) (hl:l.length≤1073741824):aa C vE [e9 l,vI i] (e9 (jr l i)) []:=by
 refine(Im _ _ _ ⟨_,o6 l hl,_,(sA l hl (cK l)).2 rfl,?_⟩).run
 cases h1:cK l with
 |false=>exact ai rfl ⟨by rw[Dy h1],by first|rfl|trivial⟩
 |true=>
  have h24:l.length=24:=by simp[cK] at h1;omega
  refine an rfl ⟨_,sx _ _ _,?_⟩
  by_cases h2:0≤i∧i<l.length
  ·obtain⟨c,hc⟩:=qm h2.1 h2.2
   refine an (by simp[iQ];omega) ?_
   simp only[kH,hc,Option.some.injEq,exists_eq_left']
   cases h3:c.u with
   |false=>exact ai rfl ⟨by rw[Gw hc h3],by first|rfl|trivial⟩
   |true=>
    refine an rfl (an (by simp) ?_)
    simp only[kH,hc,Option.some.injEq,exists_eq_left',NO]
    exact⟨by rw[Dz hc h1 h3],by first|rfl|trivial⟩
  ·exact ai (by simp[iQ];omega) ⟨by rw[BY (nD h2)],by first|rfl|trivial⟩
theorem yu (l:List Cell) (hl:l.length≤1073741824):aa C eY [e9 l] (vI (cX l)) []:=by
 refine(LX _ _ ?_).run
 have key:jC su (l.drop 0) ((0:Nat):Int)=cX l→ah C eY ak 4 0 (lW (l.map bJ) ((0:Nat):Int)) (fun u st=>ax C eY ak u st fun r fs=>r=vI (cX l)∧fs=[]):=by
  refine bk l (fun i=>jC su (l.drop i) (i:Int)=cX l→ah C eY ak 4 0 (lW (l.map bJ) i) (fun u st=>ax C eY ak u st fun r fs=>r=vI (cX l)∧fs=[])) ?_ ?_
  ·intro h0
   rw[List.drop_length] at h0
   simp only[jC] at h0
   exact zL _ _ _ (an (by simp) (HV _ _ _ _ _ (by rw[←h0];exact⟨rfl,by first|rfl|trivial⟩)))
  ·intro i a hi ha hd htk hn h0
   rw[hd] at h0
   simp only[jC] at h0
   refine zL _ _ _ (ai (by simp;omega) ?_)
   simp only[kH,aC,ha,Option.some.injEq,exists_eq_left']
   rw[aB (by omega)]
   cases h1:a.u with
   |false=>rw[if_pos (by simp[su,h1])] at h0;exact ai rfl (HU _ _ _ _ _ (by rw[←h0];exact⟨rfl,by first|rfl|trivial⟩))
   |true=>rw[if_neg (by simp[su,h1])] at h0;exact an rfl (hn h0)
 exact key rfl
theorem DL (l:List Cell) (n:Int) (hl:l.length≤1073741824):aa C vD [e9 l,vI n] (V0 (nr l n)) []:=by
 refine(G9 _ _ _ ⟨_,o6 l hl,_,yu l hl,?_⟩).run
 by_cases h0:cX l<0
 ·exact ai (by simp[h0]) ⟨by rw[lq (fun h=>by omega)],by first|rfl|trivial⟩
 ·refine an (by simp;omega) ⟨_,(B3 n (mH n)).2 rfl,?_⟩
  cases h1:mH n with
  |false=>exact ai rfl ⟨by rw[lq (fun h=>by rw[h1] at h;cases h.2.1)],by first|rfl|trivial⟩
  |true=>
   refine an rfl ⟨_,(sA l hl (cK l)).2 rfl,?_⟩
   cases h2:cK l with
   |false=>exact ai rfl ⟨by rw[lq (fun h=>by rw[h2] at h;cases h.1)],by first|rfl|trivial⟩
   |true=>
    obtain⟨c,hc,hf⟩:=UE su l h0
    change fE l (cX l)=some c at hc
    refine an rfl ?_
    simp only[kH,EV,EW,hc,lP,gy,Option.some.injEq,exists_eq_left',mod_mod]
    exact⟨by rw[pO ⟨h2,h1,by omega⟩],by first|rfl|trivial⟩
theorem DM (l:List Cell) (n:Int) (hl:l.length≤1073741824):aa C dH [e9 l,vI n] (V0 (nr l n)) []:=by
 refine(Il _ _ _ ⟨_,qU l hl,?_⟩).run
 have key:jC su (l.drop 0) ((0:Nat):Int)=cX l→ah C dH aj 4 0 (kk (l.map bJ) n ((0:Nat):Int) (l.map bJ)) (fun u st=>ax C dH aj u st fun r fs=>r=V0 (nr l n)∧fs=[]):=by
  refine bk l (fun i=>jC su (l.drop i) (i:Int)=cX l→ah C dH aj 4 0 (kk (l.map bJ) n i (l.map bJ)) (fun u st=>ax C dH aj u st fun r fs=>r=V0 (nr l n)∧fs=[])) ?_ ?_
  ·intro h0
   rw[List.drop_length] at h0
   simp only[jC] at h0
   exact vh _ _ _ _ _ (an (by simp) (vi _ _ _ _ _ ⟨by rw[lq (fun h=>by omega)],by first|rfl|trivial⟩))
  ·intro i a hi ha hd htk hn h0
   rw[hd] at h0
   simp only[jC] at h0
   refine vh _ _ _ _ _ (ai (by simp;omega) ⟨_,(sy l hl (cK l)).2 rfl,?_⟩)
   cases h2:cK l with
   |false=>exact an rfl (vi _ _ _ _ _ ⟨by rw[lq (fun h=>by rw[h2] at h;cases h.1)],by first|rfl|trivial⟩)
   |true=>
    refine ai rfl ⟨_,(B2 n (mH n)).2 rfl,?_⟩
    cases h1:mH n with
    |false=>exact an rfl (El _ _ _ _ _ _ ⟨by rw[lq (fun h=>by rw[h1] at h;cases h.2.1)],by first|rfl|trivial⟩)
    |true=>
     refine ai rfl ?_
     have hc:fE l (i:Int)=some a:=by rw[aC];exact ha
     simp only[kH,hc,Option.some.injEq,exists_eq_left']
     rw[aB (by omega)]
     cases h3:a.u with
     |false=>
      rw[if_pos (by simp[su,h3])] at h0
      refine ai rfl ?_
      simp only[kH,EV,EW,hc,lP,gy,Option.some.injEq,exists_eq_left',mod_mod]
      refine Ek _ _ _ ⟨?_,by first|rfl|trivial⟩
      rw[pO ⟨h2,h1,by omega⟩,←h0]
     |true=>rw[if_neg (by simp[su,h3])] at h0;exact an rfl (hn h0)
 exact key rfl
theorem uc (l:List Int) (hl:l.length≤1073741824):aa C qA [p7 l] (p7 l) []:=by
 refine(ID _ _ ?_).run
 rw[show bR (l.map bG)=true from jE _,cW (by simp;omega)]
 exact⟨rfl,by first|rfl|trivial⟩
theorem J8 (l:List Key) (b a:Int) (hl:l.length≤1073741824):aa C gm [cJ l,vI b,vI a] (Ya (EZ l b a)) []:=by
 refine(Oc _ _ _ _ ?_).run
 have key:setAt (l.drop 0) b a=setAt l b a→ah C gm ak 4 0 (kW (l.map bD) b a ((0:Nat):Int)) (fun u st=>ax C gm ak u st fun r fs=>r=(Ya (EZ l b a))∧fs=[]):=by
  refine bk l (fun i=>setAt (l.drop i) b a=setAt l b a→ah C gm ak 4 0 (kW (l.map bD) b a i) (fun u st=>ax C gm ak u st fun r fs=>r=(Ya (EZ l b a))∧fs=[])) ?_ ?_
  ·intro h0
   rw[List.drop_length] at h0
   refine Bq _ _ _ _ _ (an (by simp) (KJ _ _ _ _ _ _ ⟨?_,by first|rfl|trivial⟩))
   unfold EZ;rw[←h0];rfl
  ·intro i x hi hx hd htk hn h0
   rw[hd] at h0
   simp only[setAt,List.find?_cons] at h0
   refine Bq _ _ _ _ _ (ai (by simp;omega) ?_)
   simp only[mF,aC,hx,Option.some.injEq,exists_eq_left',aT,bK]
   rw[aB (by omega)]
   by_cases h1:x.b=b
   ·rw[if_pos h1]
    by_cases h2:x.a=a
    ·rw[if_pos h2]
     rw[decide_eq_true ⟨h1,h2⟩] at h0
     refine KI _ _ _ _ _ _ ⟨?_,by first|rfl|trivial⟩
     unfold EZ setAt;rw[←h0]
    ·rw[if_neg h2]
     rw[decide_eq_false (fun h=>h2 h.2)] at h0
     exact hn h0
   ·rw[if_neg h1]
    rw[decide_eq_false (fun h=>h1 h.1)] at h0
    exact hn h0
 exact key rfl
theorem Fe (t:Tree) (b a:Int) (hl:t.lows.length≤1073741824):aa C eu [dG t,vI b,vI a] (vI (pQ t b a)) []:=by
 refine(Kw _ _ _ _ _ ?_).run
 unfold pQ
 have key:ah C eu aj 4 0 (jj b a (pP (fun x=>decide (x≤gh b a)) t.lows 0) ((0:Nat):Int) (t.lows.map bG) (t.nodes.map aI)) (fun u st=>ax C eu aj u st fun r fs=>r=(vI (pP (fun x=>decide (x≤gh b a)) t.lows t.lows.length))∧fs=[]):=by
  refine bk t.lows (fun i=>ah C eu aj 4 0 (jj b a (pP (fun x=>decide (x≤gh b a)) t.lows i) i (t.lows.map bG) (t.nodes.map aI)) (fun u st=>ax C eu aj u st fun r fs=>r=(vI (pP (fun x=>decide (x≤gh b a)) t.lows t.lows.length))∧fs=[])) ?_ ?_
  ·exact xe _ _ _ _ _ _ _ (an (by simp) (FU _ _ _ _ _ _ _ _ ⟨rfl,by first|rfl|trivial⟩))
  ·intro i x hi hx hd htk hn
   simp only[pP,hx] at hn
   refine xe _ _ _ _ _ _ _ (ai (by simp;omega) ?_)
   simp only[vv,aC,hx,Option.some.injEq,exists_eq_left',B4,exists_eq_left,fX,bK]
   rw[aB (by omega)]
   by_cases h1:x≤gh b a
   ·rw[if_pos h1]
    rw[if_pos (decide_eq_true h1)] at hn
    exact hn
   ·rw[if_neg h1]
    rw[if_neg (by simpa using h1)] at hn
    exact hn
 exact key
theorem J9 (l:List Key) (b a:Int) (hl:l.length≤1073741824):aa C fG [cJ l,vI b,vI a] (Ya (EZ l b a)) []:=by
 refine(Od _ _ _ _ ?_).run
 have key:setAt (l.drop 0) b a=setAt l b a→ah C fG ak 4 0 (kX b a (l.map bD) ((0:Nat):Int)) (fun u st=>ax C fG ak u st fun r fs=>r=(Ya (EZ l b a))∧fs=[]):=by
  refine bk l (fun i=>setAt (l.drop i) b a=setAt l b a→ah C fG ak 4 0 (kX b a (l.map bD) i) (fun u st=>ax C fG ak u st fun r fs=>r=(Ya (EZ l b a))∧fs=[])) ?_ ?_
  ·intro h0
   rw[List.drop_length] at h0
   refine Br _ _ _ _ _ (an (by simp) (KL _ _ _ _ _ _ _ ⟨?_,by first|rfl|trivial⟩))
   unfold EZ;rw[←h0];rfl
  ·intro i x hi hx hd htk hn h0
   rw[hd] at h0
   simp only[setAt,List.find?_cons] at h0
   refine Br _ _ _ _ _ (ai (by simp;omega) ?_)
   simp only[mF,aC,hx,Option.some.injEq,exists_eq_left',aT,bK]
   rw[aB (by omega)]
   by_cases h1:x.b=b
   ·rw[if_pos h1]
    by_cases h2:x.a=a
    ·rw[if_pos h2]
     rw[decide_eq_true ⟨h1,h2⟩] at h0
     refine KK _ _ _ _ _ _ ⟨?_,by first|rfl|trivial⟩
     unfold EZ setAt;rw[←h0]
    ·rw[if_neg h2]
     rw[decide_eq_false (fun h=>h2 h.2)] at h0
     exact hn h0
   ·rw[if_neg h1]
    rw[decide_eq_false (fun h=>h1 h.1)] at h0
    exact hn h0
 exact key rfl
theorem Ff (t:Tree) (b a:Int) (hl:t.lows.length≤1073741824):aa C fq [dG t,vI b,vI a] (vI (pQ t b a)) []:=by
 refine(Kn _ _ _ _ _ ?_).run
 have key: ∀k:Nat,k≤t.lows.length→pP (fun x=>decide (x≤gh b a)) t.lows k=pQ t b a→ah C fq ak 4 0 (nK b a ((k:Int)-1) (t.lows.map bG) (t.nodes.map aI)) (fun u st=>ax C fq ak u st fun r fs=>r=(vI (pQ t b a))∧fs=[]):=by
  intro k
  induction k with
  |zero=>
   intro _ hk
   refine w6 _ _ _ _ _ _ (an (by simp) (FI _ _ _ _ _ _ _ ⟨?_,by first|rfl|trivial⟩))
   rw[←hk];rfl
  |succ k ih=>
   intro hle hk
   have hx:t.lows[k]?=some t.lows[k]:=List.getElem?_eq_getElem (by omega)
   rw[show((k+1:Nat):Int)-1=(k:Int) by omega]
   generalize t.lows[k]=x at hx
   simp only[pP,hx] at hk
   refine w6 _ _ _ _ _ _ (ai (by simp) ?_)
   simp only[vv,aC,hx,Option.some.injEq,exists_eq_left',vG,exists_eq_left,fX,bK]
   rw[dN (by omega)]
   by_cases h1:x≤gh b a
   ·rw[if_pos h1]
    rw[if_pos (decide_eq_true h1)] at hk
    exact FH _ _ _ _ ⟨by rw[←hk],by first|rfl|trivial⟩
   ·rw[if_neg h1]
    rw[if_neg (by simpa using h1)] at hk
    exact ih (by omega) hk
 rw[List.length_map,show dm (Int.ofNat t.lows.length) 1=(t.lows.length:Int)-1 from dN (by simp;omega)]
 exact key t.lows.length (Nat.le_refl _) rfl
theorem DN (l:List Age) (hl:l.length≤1073741824):aa C ou [jP l] (jP l) []:=by
 refine(HZ _ _ ?_).run
 rw[show bR (l.map di)=true from BJ _,cW (by simp;omega)]
 exact⟨rfl,by first|rfl|trivial⟩
theorem pU (n:List (List Key)) (hl:n.length≤1073741824) (hs: ∀s∈n,s.length≤1073741824):aa C aN [fY n] (fY n) []:=by
 refine(Hq _ _ ?_).run
 skip
 have key:((0:Nat)=0→ah C aN aj 4 0 (mN (n.map bS)) (fun u st=>ax C aN aj u st fun r fs=>r=(fY n)∧fs=[]))∧(0<(0:Nat)→ah C aN aj 4 0 (j8 (n.map bS) ((0:Nat):Int) ((n.take 0).map bS)) (fun u st=>ax C aN aj u st fun r fs=>r=(fY n)∧fs=[])):=by
  refine bk n (fun i=>(i=0→ah C aN aj 4 0 (mN (n.map bS)) (fun u st=>ax C aN aj u st fun r fs=>r=(fY n)∧fs=[]))∧(0<i→ah C aN aj 4 0 (j8 (n.map bS) i ((n.take i).map bS)) (fun u st=>ax C aN aj u st fun r fs=>r=(fY n)∧fs=[]))) ?_ ?_
  ·refine⟨fun h=> ?_,fun h=> ?_⟩
   ·have hnil:n=[]:=List.length_eq_zero_iff.1 h
    refine uQ _ _ (an (by simp[h]) (DY _ _ _ _ ⟨?_,by first|rfl|trivial⟩))
    simp[hnil]
   ·rw[List.take_length]
    exact uR _ _ _ _ (an (by simp) (DZ _ _ _ _ _ _ ⟨rfl,by first|rfl|trivial⟩))
  ·intro i a hi ha hd htk hn
   have hmem:=List.mem_of_getElem? ha
   refine⟨fun h=> ?_,fun h=> ?_⟩
   ·subst h
    have hz:fE n 0=some a:=(aC n 0).trans ha
    have hn2:=hn.2 (by omega)
    rw[htk] at hn2
    refine uQ _ _ (ai (by simp;omega) ?_)
    simp only[sr,hz,Option.some.injEq,exists_eq_left']
    refine⟨_,mK a (by have:=hs a hmem;omega),ai (cW (by simp;try omega)) ?_⟩
    rw[aB (by omega)]
    exact hn2
   ·have hn2:=hn.2 (by omega)
    rw[htk] at hn2
    refine uR _ _ _ _ (ai (by simp;omega) ?_)
    simp only[sr,aC,ha,Option.some.injEq,exists_eq_left']
    refine⟨_,mK a (by have:=hs a hmem;omega),ai (cW (by simp;try omega)) ?_⟩
    rw[aB (by omega)]
    rw[List.map_append] at hn2
    exact hn2
 exact key.1 rfl
theorem qV (n:List (List Key)) (hl:n.length≤1073741824) (hs: ∀s∈n,s.length≤1073741824):aa C aX [fY n] (fY n) []:=by
 refine(Mj _ _ ?_).run
 skip
 have key:((0:Nat)=0→ah C aX aj 4 0 (oP (n.map bS)) (fun u st=>ax C aX aj u st fun r fs=>r=(fY n)∧fs=[]))∧(0<(0:Nat)→ah C aX aj 4 0 (me ((0:Nat):Int) (n.map bS) ((n.take 0).map bS)) (fun u st=>ax C aX aj u st fun r fs=>r=(fY n)∧fs=[])):=by
  refine bk n (fun i=>(i=0→ah C aX aj 4 0 (oP (n.map bS)) (fun u st=>ax C aX aj u st fun r fs=>r=(fY n)∧fs=[]))∧(0<i→ah C aX aj 4 0 (me i (n.map bS) ((n.take i).map bS)) (fun u st=>ax C aX aj u st fun r fs=>r=(fY n)∧fs=[]))) ?_ ?_
  ·refine⟨fun h=> ?_,fun h=> ?_⟩
   ·have hnil:n=[]:=List.length_eq_zero_iff.1 h
    refine z6 _ _ (an (by simp[h]) (IB _ _ _ ⟨?_,by first|rfl|trivial⟩))
    simp[hnil]
   ·rw[List.take_length]
    exact z7 _ _ _ _ (an (by simp) (IC _ _ _ _ _ ⟨rfl,by first|rfl|trivial⟩))
  ·intro i a hi ha hd htk hn
   have hmem:=List.mem_of_getElem? ha
   refine⟨fun h=> ?_,fun h=> ?_⟩
   ·subst h
    have hz:fE n 0=some a:=(aC n 0).trans ha
    have hn2:=hn.2 (by omega)
    rw[htk] at hn2
    refine z6 _ _ (ai (by simp;omega) ?_)
    simp only[sr,hz,Option.some.injEq,exists_eq_left']
    have hsa:=hs a hmem
    refine ai (by rw[show bR (a.map bD)=true from jF _,cW (by simp;omega)];rfl) (ai (cW (by simp;try omega)) ?_)
    rw[aB (by omega)]
    exact hn2
   ·have hn2:=hn.2 (by omega)
    rw[htk] at hn2
    refine z7 _ _ _ _ (ai (by simp;omega) ?_)
    simp only[sr,aC,ha,Option.some.injEq,exists_eq_left']
    have hsa:=hs a hmem
    refine ai (by rw[show bR (a.map bD)=true from jF _,cW (by simp;omega)];rfl) (ai (cW (by simp;try omega)) ?_)
    rw[aB (by omega)]
    rw[List.map_append] at hn2
    exact hn2
 exact key.1 rfl
theorem ud (t:Tree) (hl:t.lows.length≤1073741824∧t.nodes.length≤1073741824) (hs: ∀n∈t.nodes,n.length≤1073741824∧ ∀s∈n,s.length≤1073741824):aa C aW [dG t] (dG t) []:=by
 refine(HJ _ _ _ ?_).run
 refine⟨_,uc t.lows hl.1,?_⟩
 have key:((0:Nat)=0→ah C aW aj 4 0 (mU (t.nodes.map aI) (t.lows.map bG)) (fun u st=>ax C aW aj u st fun r fs=>r=(dG t)∧fs=[]))∧(0<(0:Nat)→ah C aW aj 4 0 (kf (t.nodes.map aI) ((0:Nat):Int) (t.lows.map bG) ((t.nodes.take 0).map aI)) (fun u st=>ax C aW aj u st fun r fs=>r=(dG t)∧fs=[])):=by
  refine bk t.nodes (fun i=>(i=0→ah C aW aj 4 0 (mU (t.nodes.map aI) (t.lows.map bG)) (fun u st=>ax C aW aj u st fun r fs=>r=(dG t)∧fs=[]))∧(0<i→ah C aW aj 4 0 (kf (t.nodes.map aI) i (t.lows.map bG) ((t.nodes.take i).map aI)) (fun u st=>ax C aW aj u st fun r fs=>r=(dG t)∧fs=[]))) ?_ ?_
  ·refine⟨fun h=> ?_,fun h=> ?_⟩
   ·have hnil:t.nodes=[]:=List.length_eq_zero_iff.1 h
    refine uZ _ _ _ (an (by simp[h]) (D9 _ _ _ _ _ ⟨?_,by first|rfl|trivial⟩))
    simp[hnil]
   ·rw[List.take_length]
    exact u5 _ _ _ _ _ (an (by simp) (Ea _ _ _ _ _ _ _ ⟨rfl,by first|rfl|trivial⟩))
  ·intro i a hi ha hd htk hn
   have hmem:=List.mem_of_getElem? ha
   refine⟨fun h=> ?_,fun h=> ?_⟩
   ·subst h
    have hz:fE t.nodes 0=some a:=(aC t.nodes 0).trans ha
    have hn2:=hn.2 (by omega)
    rw[htk] at hn2
    refine uZ _ _ _ (ai (by simp;omega) ?_)
    simp only[rK,hz,Option.some.injEq,exists_eq_left']
    refine⟨_,pU a (hs a hmem).1 (hs a hmem).2,ai (cW (by simp;try omega)) ?_⟩
    rw[aB (by omega)]
    exact hn2
   ·have hn2:=hn.2 (by omega)
    rw[htk] at hn2
    refine u5 _ _ _ _ _ (ai (by simp;omega) ?_)
    simp only[rK,aC,ha,Option.some.injEq,exists_eq_left']
    refine⟨_,pU a (hs a hmem).1 (hs a hmem).2,ai (cW (by simp;try omega)) ?_⟩
    rw[aB (by omega)]
    rw[List.map_append] at hn2
    exact hn2
 exact key.1 rfl
theorem yw (t:Tree) (hl:t.lows.length≤1073741824∧t.nodes.length≤1073741824) (hs: ∀n∈t.nodes,n.length≤1073741824∧ ∀s∈n,s.length≤1073741824):aa C cq [dG t] (dG t) []:=by
 refine(Md _ _ _ ?_).run
 refine ai (by rw[show bR (t.lows.map bG)=true from jE _,cW (by simp;omega)];rfl) ?_
 have key:((0:Nat)=0→ah C cq aj 4 0 (oO (t.lows.map bG) (t.nodes.map aI)) (fun u st=>ax C cq aj u st fun r fs=>r=(dG t)∧fs=[]))∧(0<(0:Nat)→ah C cq aj 4 0 (lZ ((0:Nat):Int) (t.lows.map bG) (t.nodes.map aI) ((t.nodes.take 0).map aI)) (fun u st=>ax C cq aj u st fun r fs=>r=(dG t)∧fs=[])):=by
  refine bk t.nodes (fun i=>(i=0→ah C cq aj 4 0 (oO (t.lows.map bG) (t.nodes.map aI)) (fun u st=>ax C cq aj u st fun r fs=>r=(dG t)∧fs=[]))∧(0<i→ah C cq aj 4 0 (lZ i (t.lows.map bG) (t.nodes.map aI) ((t.nodes.take i).map aI)) (fun u st=>ax C cq aj u st fun r fs=>r=(dG t)∧fs=[]))) ?_ ?_
  ·refine⟨fun h=> ?_,fun h=> ?_⟩
   ·have hnil:t.nodes=[]:=List.length_eq_zero_iff.1 h
    refine zV _ _ _ (an (by simp[h]) (Io _ _ _ _ ⟨?_,by first|rfl|trivial⟩))
    simp[hnil]
   ·rw[List.take_length]
    exact zW _ _ _ _ _ (an (by simp) (Ip _ _ _ _ _ _ ⟨rfl,by first|rfl|trivial⟩))
  ·intro i a hi ha hd htk hn
   have hmem:=List.mem_of_getElem? ha
   refine⟨fun h=> ?_,fun h=> ?_⟩
   ·subst h
    have hz:fE t.nodes 0=some a:=(aC t.nodes 0).trans ha
    have hn2:=hn.2 (by omega)
    rw[htk] at hn2
    refine zV _ _ _ (ai (by simp;omega) ?_)
    simp only[rK,hz,Option.some.injEq,exists_eq_left']
    refine⟨_,qV a (hs a hmem).1 (hs a hmem).2,ai (cW (by simp;try omega)) ?_⟩
    rw[aB (by omega)]
    exact hn2
   ·have hn2:=hn.2 (by omega)
    rw[htk] at hn2
    refine zW _ _ _ _ _ (ai (by simp;omega) ?_)
    simp only[rK,aC,ha,Option.some.injEq,exists_eq_left']
    refine⟨_,qV a (hs a hmem).1 (hs a hmem).2,ai (cW (by simp;try omega)) ?_⟩
    rw[aB (by omega)]
    rw[List.map_append] at hn2
    exact hn2
 exact key.1 rfl
theorem ue {t:Tree} (h:dO t≤4194304):(t.lows.length≤1073741824∧t.nodes.length≤1073741824)∧ ∀n∈t.nodes,n.length≤1073741824∧ ∀s∈n,s.length≤1073741824:=by
 have e2:dO t=t.lows.length+(t.nodes.length+tot aH t.nodes):=rfl
 refine⟨⟨by omega,by omega⟩,fun n hn=> ?_⟩
 have h1:aH n≤tot aH t.nodes:=qw (w:=aH) hn
 have h2:aH n=n.length+tot bB n:=rfl
 refine⟨by omega,fun s hs=> ?_⟩
 have h3:bB s≤tot bB n:=qw (w:=bB) hs
 have h4:bB s=s.length:=rfl
 omega
theorem we (p:Pool) (hS:cY p≤4194304):aa C nG [fZ p] (fZ p) []:=by
 have hP:=jS hS
 have hN:=ue hP.1
 have hT:=yw p.t hN.1 hN.2
 have hA:(bR (p.ages.map di)&&fits (Nat.add 0 (p.ages.map di).length) 16)=true:=by rw[BJ,cW (by simp;omega)];rfl
 have hC:=qU p.cells (by omega)
 have hV:(bR (p.vols.map dJ)&&fits (Nat.add 0 (p.vols.map dJ).length) 40)=true:=by rw[BK,cW (by simp;omega)];rfl
 refine(Kg _ _ _ _ _ _ _ ?_).run
 repeat' first
  |exact rfl
  |refine⟨(fZ p,[]),?_,?_,⟨rfl,by first|rfl|trivial⟩⟩
  |refine⟨(fZ p,[]),?_,?_,by first|rfl|trivial⟩
  |refine⟨_,_,hT,?_⟩
  |refine ai hA ?_
  |refine⟨_,hC,?_⟩
  |refine ai hV ?_
theorem uf (p:Pool) (hS:cY p≤4194304):aa C fe [fZ p] (fZ p) []:=by
 have hP:=jS hS
 have hN:=ue hP.1
 have hT:=ud p.t hN.1 hN.2
 have hA:=DN p.ages (by omega)
 have hC:=o6 p.cells (by omega)
 have hV:(bR (p.vols.map dJ)&&fits (Nat.add 0 (p.vols.map dJ).length) 40)=true:=by rw[BK,cW (by simp;omega)];rfl
 refine(HR _ _ _ _ _ _ _ ?_).run
 repeat' first
  |exact rfl
  |refine⟨(fZ p,[]),?_,?_,⟨rfl,by first|rfl|trivial⟩⟩
  |refine⟨(fZ p,[]),?_,?_,by first|rfl|trivial⟩
  |refine⟨_,_,hT,?_⟩
  |refine⟨_,hA,?_⟩
  |refine⟨_,hC,?_⟩
  |refine ai hV ?_
theorem iA (l:List Key) (hl:l.length≤1073741824):aa C aG [cJ l] (fY (cn l)) []:=by
 refine(Km _ _ ?_).run
 unfold cn
 by_cases h:l.length=0
 ·exact ai (by simp[h]) ⟨by rw[if_pos h];rfl,rfl⟩
 ·refine an (by rw[List.length_map,Int.ofNat_eq_natCast,aT];exact decide_eq_false (by omega)) ?_
  rw[show bR (l.map bD)=true from jF _,cW (by simp;omega)]
  exact⟨by rw[if_neg h];rfl,rfl⟩
theorem mL (l:List Key) (hl:l.length≤1073741824):aa C cO [cJ l] (fY (cn l)) []:=by
 refine(Ky _ _ ?_).run
 unfold cn
 by_cases h:l.length=0
 ·exact ai (by simp[h]) ⟨by rw[if_pos h];rfl,rfl⟩
 ·refine an (by rw[List.length_map,Int.ofNat_eq_natCast,aT];exact decide_eq_false (by omega)) ?_
  exact⟨_,mK l (by omega),⟨by rw[if_neg h];rfl,rfl⟩⟩
theorem ug (n:List (List Key)) (k:Key) (hb:n.length≤1073740000) (hl:tot bB n≤1073740000):aa C eI [fY n,Ah k] (cJ (bX n k)) []:=by
 have h1:=cE n
 have h2:=nq (aF n) k
 exact(H8 _ _ _ _ _ _ _ ⟨_,(iG n (by omega) (by omega) _).2 rfl,_,oD (aF n) k (by omega),_,B1 (eO (aF n) k) (by omega),⟨rfl,by first|rfl|trivial⟩⟩).run
theorem Fg (n:List (List Key)) (k:Key) (hb:n.length≤1073740000) (hl:tot bB n≤1073740000):aa C yd [fY n,Ah k] (Sx (bU n k)) []:=by
 have hs: ∀s∈n,s.length≤1073741824:=fun s hm=>by have:=qw (w:=bB) hm;unfold bB at this hl;omega
 have hcp:=pU n (by omega) hs
 have hXl:=Cs n k
 have hXt:=Ct n k
 have tail: ∀(X:List (List Key)) (Q:QV),X=iV n k→Q (Sx (bU n k)) []→ ∃(b18:Bool),aa C bf ([TV.ag [TC.sub 1 (X.map bS)]]) (TV.c (iB b18)) []∧(aA b18 (Q (TV.tu [(1,[TC.sub 1 (X.map bS)]),(0,[iB true])]) ([])) (∃(l19:RR),aa C eI ([TV.ag [TC.sub 1 (n.map bS)],Ah k]) (TV.c (TC.sub 5 l19)) []∧(∃(l20:RR),aa C cO ([TV.c (TC.sub 5 l19)]) (TV.ag [TC.sub 1 l20]) []∧(aA (bI 8 (Int.ofNat (List.length l19))) (∃(l21:RR),aa C aN ([TV.ag [TC.sub 1 (n.map bS)]]) (TV.ag [TC.sub 1 l21]) []∧(Q (TV.tu [(1,[TC.sub 1 l21]),(0,[iB false])]) ([]))) (∃(b22:Bool),aa C bf ([TV.ag [TC.sub 1 l20]]) (TV.c (iB b22)) []∧(aA (!b22) (∃(l23:RR),aa C aN ([TV.ag [TC.sub 1 (n.map bS)]]) (TV.ag [TC.sub 1 l23]) []∧(Q (TV.tu [(1,[TC.sub 1 l23]),(0,[iB false])]) ([]))) (Q (TV.tu [(1,[TC.sub 1 l20]),(0,[iB true])]) ([])))))))):=by
  intro X Q hX hQ
  rw[←hX] at hXl hXt
  have hok:aa C bf [fY X] (vB (eP X)) []:=qR X (by omega) (by omega)
  have hkl:=nF n k
  have hnl:=tO (bX n k)
  have hnt:=tP (bX n k)
  have hok2:aa C bf [fY (cn (bX n k))] (vB (eP (cn (bX n k)))) []:=qR _ (by omega) (by omega)
  refine⟨_,hok,?_⟩
  unfold bU at hQ
  rw[←hX] at hQ
  cases h1:eP X with
  |true=>
   rw[if_pos h1] at hQ
   exact ai rfl hQ
  |false=>
   rw[if_neg (by rw[h1];simp)] at hQ
   refine an rfl ⟨_,ug n k (by omega) (by omega),_,mL (bX n k) (by omega),?_⟩
   by_cases h2:8<(bX n k).length
   ·rw[if_pos h2] at hQ
    exact ai (by simp<;>omega) ⟨_,hcp,hQ⟩
   ·rw[if_neg h2] at hQ
    refine an (by simp<;>omega) ⟨_,hok2,?_⟩
    cases h3:eP (cn (bX n k)) with
    |true=>
     rw[if_pos h3] at hQ
     exact an rfl hQ
    |false=>
     rw[if_neg (by rw[h3];simp)] at hQ
     exact ai rfl ⟨_,hcp,hQ⟩
 refine(Kx _ _ _ _ _ _ _ ⟨_,hcp,?_⟩).run
 rw[List.length_map]
 cases hlast:n[n.length-1]? with
 |none=>
  have h0:n.length=0:=Classical.byContradiction fun h=>by rw[List.getElem?_eq_getElem (by omega)] at hlast;cases hlast
  have hX:n++[[k]]=iV n k:=by unfold iV;rw[hlast]
  refine an (by rw[h0,dN (by simp)];simp) ((ai (cW (by simp<;>omega)) ?_))
  rw[show List.append (n.map bS) [[TC.sub 5 [[iI k.b,iI k.a,iI k.k,iI k.c,iI k.g]]]]=(n++[[k]]).map bS from by simp[bS,bD]]
  exact tail _ (fun r fs=>r=Sx (bU n k)∧fs=[]) hX ⟨rfl,by first|rfl|trivial⟩
 |some s=>
  have hlt:=(List.getElem?_eq_some_iff.1 hlast).1
  have hsub:dm (Int.ofNat n.length) 1=((n.length-1:Nat):Int):=by rw[dN (by simp<;>omega)];simp;omega
  have hrow:rowAt (n.map bS) ((n.length-1:Nat):Int)=some [TC.sub 5 (s.map bD)]:=by rw[bF,aC,hlast];rfl
  have hsl:=hs s (List.mem_of_getElem? hlast)
  have hset:setRow (n.map bS) ((n.length-1:Nat):Int) 0 [TC.sub 5 ((eO s k).map bD)]=(n.set (n.length-1) (eO s k)).map bS:=JM (a:=s) (a':=eO s k) hlast rfl
  have happ:List.append (n.map bS) [[TC.sub 5 [[iI k.b,iI k.a,iI k.k,iI k.c,iI k.g]]]]=(n++[[k]]).map bS:=by simp[bS,bD]
  have hfit:fits (Nat.succ n.length) 24=true:=cW (by simp<;>omega)
  rw[hsub]
  refine ai (by simp) ⟨_,hrow,?_⟩
  have key: ∀Q:QV,Q (Sx (bU n k)) []→ ∃(n8:Int) (n9:Int) (n10:Int) (n11:Int) (n12:Int) (b13:Bool),aa C fG ([TV.c (TC.sub 5 (s.map bD)),TV.c (iI k.b),TV.c (iI k.a)]) (TV.tu [(1,[iI n8,iI n9,iI n10,iI n11,iI n12]),(0,[iB b13])]) []∧(aA b13 (∃(l14:RR),rowAt (n.map bS) ((n.length-1:Nat):Int)=some [TC.sub 5 l14]∧(∃(l15:RR),aa C cG ([TV.c (TC.sub 5 l14),Ah k]) (TV.c (TC.sub 5 l15)) []∧(∃(l16:RR),rowAt (n.map bS) ((n.length-1:Nat):Int)=some [TC.sub 5 l16]∧(∃(l17:RR),rowAt (n.map bS) ((n.length-1:Nat):Int)=some [TC.sub 5 l17]∧(∃(b18:Bool),aa C bf ([TV.ag [TC.sub 1 (setRow (n.map bS) ((n.length-1:Nat):Int) 0 [TC.sub 5 l15])]]) (TV.c (iB b18)) []∧(aA b18 (Q (TV.tu [(1,[TC.sub 1 (setRow (n.map bS) ((n.length-1:Nat):Int) 0 [TC.sub 5 l15])]),(0,[iB true])]) ([])) (∃(l19:RR),aa C eI ([TV.ag [TC.sub 1 (n.map bS)],Ah k]) (TV.c (TC.sub 5 l19)) []∧(∃(l20:RR),aa C cO ([TV.c (TC.sub 5 l19)]) (TV.ag [TC.sub 1 l20]) []∧(aA (bI 8 (Int.ofNat (List.length l19))) (∃(l21:RR),aa C aN ([TV.ag [TC.sub 1 (n.map bS)]]) (TV.ag [TC.sub 1 l21]) []∧(Q (TV.tu [(1,[TC.sub 1 l21]),(0,[iB false])]) ([]))) (∃(b22:Bool),aa C bf ([TV.ag [TC.sub 1 l20]]) (TV.c (iB b22)) []∧(aA (!b22) (∃(l23:RR),aa C aN ([TV.ag [TC.sub 1 (n.map bS)]]) (TV.ag [TC.sub 1 l23]) []∧(Q (TV.tu [(1,[TC.sub 1 l23]),(0,[iB false])]) ([]))) (Q (TV.tu [(1,[TC.sub 1 l20]),(0,[iB true])]) ([])))))))))))))
   (∃(l24:RR),rowAt (n.map bS) ((n.length-1:Nat):Int)=some [TC.sub 5 l24]∧(aA (bI (Int.ofNat (List.length l24)) 4) (∃(l25:RR),rowAt (n.map bS) ((n.length-1:Nat):Int)=some [TC.sub 5 l25]∧(∃(l26:RR),aa C cG ([TV.c (TC.sub 5 l25),Ah k]) (TV.c (TC.sub 5 l26)) []∧(∃(l27:RR),rowAt (n.map bS) ((n.length-1:Nat):Int)=some [TC.sub 5 l27]∧(∃(l28:RR),rowAt (n.map bS) ((n.length-1:Nat):Int)=some [TC.sub 5 l28]∧(∃(b18:Bool),aa C bf ([TV.ag [TC.sub 1 (setRow (n.map bS) ((n.length-1:Nat):Int) 0 [TC.sub 5 l26])]]) (TV.c (iB b18)) []∧(aA b18 (Q (TV.tu [(1,[TC.sub 1 (setRow (n.map bS) ((n.length-1:Nat):Int) 0 [TC.sub 5 l26])]),(0,[iB true])]) ([])) (∃(l19:RR),aa C eI ([TV.ag [TC.sub 1 (n.map bS)],Ah k]) (TV.c (TC.sub 5 l19)) []∧(∃(l20:RR),aa C cO ([TV.c (TC.sub 5 l19)]) (TV.ag [TC.sub 1 l20]) []∧(aA (bI 8 (Int.ofNat (List.length l19))) (∃(l21:RR),aa C aN ([TV.ag [TC.sub 1 (n.map bS)]]) (TV.ag [TC.sub 1 l21]) []∧(Q (TV.tu [(1,[TC.sub 1 l21]),(0,[iB false])]) ([]))) (∃(b22:Bool),aa C bf ([TV.ag [TC.sub 1 l20]]) (TV.c (iB b22)) []∧(aA (!b22) (∃(l23:RR),aa C aN ([TV.ag [TC.sub 1 (n.map bS)]]) (TV.ag [TC.sub 1 l23]) []∧(Q (TV.tu [(1,[TC.sub 1 l23]),(0,[iB false])]) ([]))) (Q (TV.tu [(1,[TC.sub 1 l20]),(0,[iB true])]) ([]))))))))))))) (aA (fits (Nat.succ (List.length n)) 24) (∃(b18:Bool),aa C bf ([TV.ag [TC.sub 1 (List.append (n.map bS) [[TC.sub 5 [[iI k.b,iI k.a,iI k.k,iI k.c,iI k.g]]]])]]) (TV.c (iB b18)) []∧(aA b18 (Q (TV.tu [(1,[TC.sub 1 (List.append (n.map bS) [[TC.sub 5 [[iI k.b,iI k.a,iI k.k,iI k.c,iI k.g]]]])]),(0,[iB true])]) ([])) (∃(l19:RR),aa C eI ([TV.ag [TC.sub 1 (n.map bS)],Ah k]) (TV.c (TC.sub 5 l19)) []∧(∃(l20:RR),aa C cO ([TV.c (TC.sub 5 l19)]) (TV.ag [TC.sub 1 l20]) []∧(aA (bI 8 (Int.ofNat (List.length l19))) (∃(l21:RR),aa C aN ([TV.ag [TC.sub 1 (n.map bS)]]) (TV.ag [TC.sub 1 l21]) []∧(Q (TV.tu [(1,[TC.sub 1 l21]),(0,[iB false])]) ([]))) (∃(b22:Bool),aa C bf ([TV.ag [TC.sub 1 l20]]) (TV.c (iB b22)) []∧(aA (!b22) (∃(l23:RR),aa C aN ([TV.ag [TC.sub 1 (n.map bS)]]) (TV.ag [TC.sub 1 l23]) []∧(Q (TV.tu [(1,[TC.sub 1 l23]),(0,[iB false])]) ([]))) (Q (TV.tu [(1,[TC.sub 1 l20]),(0,[iB true])]) ([]))))))))) (False))))):=by
   intro Q hQ
   refine⟨_,_,_,_,_,_,J9 s k.b k.a hsl,?_⟩
   cases h1:(EZ s k.b k.a).2 with
   |true=>
    have hX:n.set (n.length-1) (eO s k)=iV n k:=by unfold iV Cr;rw[hlast];simp[h1]
    refine ai rfl ⟨_,hrow,_,oD s k hsl,_,hrow,_,hrow,?_⟩
    rw[hset]
    exact tail _ _ hX hQ
   |false=>
    refine an rfl ⟨_,hrow,?_⟩
    by_cases h2:s.length<4
    ·have hX:n.set (n.length-1) (eO s k)=iV n k:=by unfold iV Cr;rw[hlast];simp[h1,h2]
     refine ai (by simp<;>omega) ⟨_,hrow,_,oD s k hsl,_,hrow,_,hrow,?_⟩
     rw[hset]
     exact tail _ _ hX hQ
    ·have hX:n++[[k]]=iV n k:=by unfold iV Cr;rw[hlast];simp[h1,h2]
     refine an (by simp<;>omega) (ai hfit ?_)
     rw[happ]
     exact tail _ _ hX hQ
  exact⟨(Sx (bU n k),[]),key (fun a b=>(a,b)=(Sx (bU n k),([]:List TV))) rfl,key (fun a b=>(a,b)=(Sx (bU n k),([]:List TV))) rfl,⟨rfl,rfl⟩⟩
theorem Fh (n:List (List Key)) (k:Key) (hb:n.length≤1073740000) (hl:tot bB n≤1073740000):aa C yc [fY n,Ah k] (Sx (bU n k)) []:=by
 have hs: ∀s∈n,s.length≤1073741824:=fun s hm=>by have:=qw (w:=bB) hm;unfold bB at this hl;omega
 have hcp:=qV n (by omega) hs
 have hXl:=Cs n k
 have hXt:=Ct n k
 have tail: ∀(X:List (List Key)) (Q:QV),X=iV n k→Q (Sx (bU n k)) []→ ∃(b22:Bool),aa C bu ([TV.ag [TC.sub 1 (X.map bS)]]) (TV.c (iB b22)) []∧(aA b22 (Q (TV.tu [(1,[TC.sub 1 (X.map bS)]),(0,[iB true])]) ([])) (∃(l23:RR),aa C aL ([TV.ag [TC.sub 1 (n.map bS)]]) (TV.c (TC.sub 5 l23)) []∧(∃(l24:RR),aa C bE ([TV.c (TC.sub 5 l23),Ah k]) (TV.c (TC.sub 5 l24)) []∧(∃(l25:RR),aa C cU ([TV.c (TC.sub 5 l24)]) (TV.c (TC.sub 5 l25)) []∧(aA (bI 8 (Int.ofNat (List.length l25))) (∃(l26:RR),aa C aX ([TV.ag [TC.sub 1 (n.map bS)]]) (TV.ag [TC.sub 1 l26]) []∧(Q (TV.tu [(1,[TC.sub 1 l26]),(0,[iB false])]) ([]))) (∃(l27:RR),aa C aG ([TV.c (TC.sub 5 l25)]) (TV.ag [TC.sub 1 l27]) []∧(∃(b28:Bool),aa C bu ([TV.ag [TC.sub 1 l27]]) (TV.c (iB b28)) []∧(aA (!b28) (∃(l29:RR),aa C aX ([TV.ag [TC.sub 1 (n.map bS)]]) (TV.ag [TC.sub 1 l29]) []∧(Q (TV.tu [(1,[TC.sub 1 l29]),(0,[iB false])]) ([]))) (∃(l30:RR),aa C aG ([TV.c (TC.sub 5 l25)]) (TV.ag [TC.sub 1 l30]) []∧(Q (TV.tu [(1,[TC.sub 1 l30]),(0,[iB true])]) ([]))))))))))):=by
  intro X Q hX hQ
  rw[←hX] at hXl hXt
  have hok:aa C bu [fY X] (vB (eP X)) []:=qQ X (by omega) (by omega)
  have hkl:=nF n k
  have hnl:=tO (bX n k)
  have hnt:=tP (bX n k)
  have hok2:aa C bu [fY (cn (bX n k))] (vB (eP (cn (bX n k)))) []:=qQ _ (by omega) (by omega)
  refine⟨_,hok,?_⟩
  unfold bU at hQ
  rw[←hX] at hQ
  cases h1:eP X with
  |true=>
   rw[if_pos h1] at hQ
   exact ai rfl hQ
  |false=>
   rw[if_neg (by rw[h1];simp)] at hQ
   have g1:=cE n
   have g2:=nq (aF n) k
   refine an rfl ⟨_,(dU n (by omega) (by omega) _).2 rfl,_,lQ (aF n) k (by omega),_,vF (eO (aF n) k) (by omega),?_⟩
   change aA (bI 8 (Int.ofNat (List.length ((bX n k).map bD)))) _ _
   by_cases h2:8<(bX n k).length
   ·rw[if_pos h2] at hQ
    exact ai (by simp<;>omega) ⟨_,hcp,hQ⟩
   ·rw[if_neg h2] at hQ
    refine an (by simp<;>omega) ⟨_,iA (bX n k) (by omega),_,hok2,?_⟩
    cases h3:eP (cn (bX n k)) with
    |true=>
     rw[if_pos h3] at hQ
     exact an rfl ⟨_,iA (bX n k) (by omega),hQ⟩
    |false=>
     rw[if_neg (by rw[h3];simp)] at hQ
     exact ai rfl ⟨_,hcp,hQ⟩
 refine(KH _ _ _ _ _ _ _ ⟨_,hcp,?_⟩).run
 rw[List.length_map]
 cases hlast:n[n.length-1]? with
 |none=>
  have h0:n.length=0:=Classical.byContradiction fun h=>by rw[List.getElem?_eq_getElem (by omega)] at hlast;cases hlast
  have hX:n++[[k]]=iV n k:=by unfold iV;rw[hlast]
  refine an (by rw[h0,dN (by simp)];simp) (an (by rw[h0,dN (by simp)];simp) (ai (cW (by simp<;>omega)) ?_))
  rw[show List.append (n.map bS) [[TC.sub 5 [[iI k.b,iI k.a,iI k.k,iI k.c,iI k.g]]]]=(n++[[k]]).map bS from by simp[bS,bD]]
  exact tail _ (fun r fs=>r=Sx (bU n k)∧fs=[]) hX ⟨rfl,by first|rfl|trivial⟩
 |some s=>
  have hlt:=(List.getElem?_eq_some_iff.1 hlast).1
  have hsub:dm (Int.ofNat n.length) 1=((n.length-1:Nat):Int):=by rw[dN (by simp<;>omega)];simp;omega
  have hrow:rowAt (n.map bS) ((n.length-1:Nat):Int)=some [TC.sub 5 (s.map bD)]:=by rw[bF,aC,hlast];rfl
  have hsl:=hs s (List.mem_of_getElem? hlast)
  have hset:setRow (n.map bS) ((n.length-1:Nat):Int) 0 [TC.sub 5 ((eO s k).map bD)]=(n.set (n.length-1) (eO s k)).map bS:=JM (a:=s) (a':=eO s k) hlast rfl
  have happ:List.append (n.map bS) [[TC.sub 5 [[iI k.b,iI k.a,iI k.k,iI k.c,iI k.g]]]]=(n++[[k]]).map bS:=by simp[bS,bD]
  have hfit:fits (Nat.succ n.length) 24=true:=cW (by simp<;>omega)
  rw[hsub]
  refine ai (by simp) ⟨_,hrow,_,hrow,_,_,_,_,_,_,J8 s k.b k.a hsl,ai (by simp) ⟨_,hrow,_,hrow,?_⟩⟩
  by_cases h2:s.length<4
  ·have hX:n.set (n.length-1) (eO s k)=iV n k:=by unfold iV Cr;rw[hlast];simp[h2]
   refine ai (by simp<;>omega) ⟨_,hrow,_,hrow,_,lQ s k hsl,_,hrow,_,hrow,?_⟩
   rw[hset]
   exact tail _ (fun r fs=>r=Sx (bU n k)∧fs=[]) hX ⟨rfl,by first|rfl|trivial⟩
  ·refine an (by simp<;>omega) ?_
   cases h1:(EZ s k.b k.a).2 with
   |true=>
    have hX:n.set (n.length-1) (eO s k)=iV n k:=by unfold iV Cr;rw[hlast];simp[h1]
    refine ai rfl ⟨_,hrow,_,hrow,_,lQ s k hsl,_,hrow,_,hrow,?_⟩
    rw[hset]
    exact tail _ (fun r fs=>r=Sx (bU n k)∧fs=[]) hX ⟨rfl,by first|rfl|trivial⟩
   |false=>
    have hX:n++[[k]]=iV n k:=by unfold iV Cr;rw[hlast];simp[h1,h2]
    refine an rfl (ai hfit ?_)
    rw[happ]
    exact tail _ (fun r fs=>r=Sx (bU n k)∧fs=[]) hX ⟨rfl,by first|rfl|trivial⟩
theorem sC (t:Tree) (i:Nat) (lw:List Int) (nd:List (List (List Key))) (h1:i+1≤t.lows.length) (h2:i+1≤t.nodes.length) (hl:t.lows.length≤1073741824) (hn:t.nodes.length≤1073741824) (hlw:lw.length≤1073741824) (hnd:nd.length≤1073741824):aa C ct [dG t,vI (i:Int),p7 lw,sq nd] (dG (jT t i 1 lw nd)) []:=by
 have e1:ay (t.lows.map bG) 0 (i:Int)=(t.lows.take i).map bG:=by rw[cA];rfl
 have e2:ay (t.lows.map bG) ((i:Int)+1) (Int.ofNat (t.lows.map bG).length)=(t.lows.drop (i+1)).map bG:=by
  rw[cA,List.length_map,show((i:Int)+1).toNat=i+1 from by omega,show(Int.ofNat t.lows.length).toNat=t.lows.length from rfl,List.take_length]
 have e3:ay (t.nodes.map aI) 0 (i:Int)=(t.nodes.take i).map aI:=by rw[cA];rfl
 have ea:av (i:Int) 1=(i:Int)+1:=aB (by omega)
 have k1:(t.lows.take i).length≤t.lows.length:=by rw[List.length_take];omega
 have k2:(t.lows.drop (i+1)).length≤t.lows.length:=by rw[List.length_drop];omega
 have k3:(t.nodes.take i).length≤t.nodes.length:=by rw[List.length_take];omega
 have k4:(t.nodes.drop (i+1)).length≤t.nodes.length:=by rw[List.length_drop];omega
 have e4:ay (t.nodes.map aI) ((i:Int)+1) (Int.ofNat (t.nodes.map aI).length)=(t.nodes.drop (i+1)).map aI:=by
  rw[cA,List.length_map,show((i:Int)+1).toNat=i+1 from by omega,show(Int.ofNat t.nodes.length).toNat=t.nodes.length from rfl,List.take_length]
 refine(Oh _ _ _ _ _ _ ?_).run
 rw[ea,e1,e2,e3,e4,jq,jq,jq,jq]
 refine ai (by simp<;>omega) (ai (by simp<;>omega) (ai (by rw[jE,cW (by simp<;>omega)];rfl) (ai (by rw[jE,cW (by simp only[List.length_map,Nat.add_eq];omega)];rfl) (ai (by rw[jE,cW (by simp only[List.length_map,List.length_append,Nat.add_eq];omega)];rfl)
  (ai (by simp<;>omega) (ai (by simp<;>omega) (ai (cW (by simp<;>omega)) (ai (cW (by simp only[List.length_map,Nat.add_eq];omega)) (ai (cW (by simp only[List.length_map,List.length_append,Nat.add_eq];omega)) ?_)))))))))
 exact⟨rfl,by first|rfl|trivial⟩
attribute [local semireducible] gJ ay in
theorem SF {rows:RR} {i c:Nat} (hk:i+c≤rows.length):ay (gJ 1 rows 0 (i:Int)) ((i:Int)+(c:Int)) (Int.ofNat rows.length)=rows.drop (i+c):=by
 unfold ay gJ
 rw[Int.toNat_natCast,show((i:Int)+(c:Int)).toNat=i+c from by omega,show(0:Int).toNat=0 from rfl,show(Int.ofNat rows.length).toNat=rows.length from rfl,List.take_zero,List.nil_append,Nat.sub_zero]
 rw[List.take_of_length_le (by simp<;>omega),List.drop_append,List.length_replicate,List.drop_of_length_le (by simp),List.nil_append,List.drop_drop]
 congr 1;omega
theorem pV (t:Tree) (i c:Nat) (lw:List Int) (nd:List (List (List Key))) (h1:i+c≤t.lows.length) (h2:i+c≤t.nodes.length) (hl:t.lows.length≤1073741824) (hn:t.nodes.length≤1073741824) (hlw:lw.length≤1073741824) (hnd:nd.length≤1073741824):aa C hJ [dG t,vI (i:Int),vI (c:Int),p7 lw,sq nd] (dG (jT t i c lw nd)) []:=by
 have e1:ay (t.lows.map bG) 0 (i:Int)=(t.lows.take i).map bG:=by rw[cA];rfl
 have e2:ay (t.lows.map bG) ((i:Int)+(c:Int)) (Int.ofNat (t.lows.map bG).length)=(t.lows.drop (i+c)).map bG:=by
  rw[cA,List.length_map,show((i:Int)+(c:Int)).toNat=i+c from by omega,show(Int.ofNat t.lows.length).toNat=t.lows.length from rfl,List.take_length]
 have e3:ay (t.nodes.map aI) 0 (i:Int)=(t.nodes.take i).map aI:=by rw[cA];rfl
 have ea:av (i:Int) (c:Int)=(i:Int)+(c:Int):=aB (by omega)
 have k1:(t.lows.take i).length≤t.lows.length:=by rw[List.length_take];omega
 have k2:(t.lows.drop (i+c)).length≤t.lows.length:=by rw[List.length_drop];omega
 have k3:(t.nodes.take i).length≤t.nodes.length:=by rw[List.length_take];omega
 have k4:(t.nodes.drop (i+c)).length≤t.nodes.length:=by rw[List.length_drop];omega
 have e4:ay (gJ 1 (t.nodes.map aI) 0 (i:Int)) ((i:Int)+(c:Int)) (Int.ofNat (t.nodes.map aI).length)=(t.nodes.drop (i+c)).map aI:=by
  rw[SF (by rw[List.length_map];exact h2),List.map_drop]
 refine(Iz _ _ _ _ _ _ _ ?_).run
 rw[ea,e1,e2,e3,e4]
 refine ai (by simp<;>omega) ⟨_,uc (t.lows.take i) (by omega),?_⟩
 rw[jq,jq,jq,jq]
 refine ai (by simp<;>omega) (ai (by rw[jE,cW (by simp only[List.length_map,Nat.add_eq];omega)];rfl) (ai (by rw[jE,cW (by simp only[List.length_map,List.length_append,Nat.add_eq];omega)];rfl)
  (ai (by simp<;>omega) (ai (by simp<;>omega) (ai (cW (by simp<;>omega)) (ai (cW (by simp only[List.length_map,Nat.add_eq];omega)) (ai (cW (by simp only[List.length_map,List.length_append,Nat.add_eq];omega)) ?_)))))))
 exact⟨rfl,by first|rfl|trivial⟩
def M3:Option Nat→Int
 |some i=>i
 |none=> -1
theorem qW (t:Tree) (hn:t.nodes.length≤1073741824) (hz:tot aH t.nodes≤1073740000):aa C fO [dG t] (vI (M3 (nZ t))) []:=by
 refine(Ml _ _ _ ?_).run
 have key: ∀(d i:Nat),i+d=t.nodes.length→qG t d i=nZ t→ah C fO ak 4 0 (oQ (i:Int) (t.lows.map bG) (t.nodes.map aI)) (fun x st=>ax C fO ak x st fun r fs=>r=vI (M3 (nZ t))∧fs=[]):=by
  intro d
  induction d with
  |zero=>
   intro i h he
   have ea:av (i:Int) 1=(i:Int)+1:=aB (by omega)
   refine Ab _ _ _ _ ?_
   rw[ea]
   exact an (by simp<;>omega) (Ac _ _ _ _ _ ⟨by rw[←he];rfl,rfl⟩)
  |succ d ih=>
   intro i h he
   have ea:av (i:Int) 1=(i:Int)+1:=aB (by omega)
   have ec:(i:Int)+1=((i+1:Nat):Int):=by omega
   unfold qG at he
   refine Ab _ _ _ _ ?_
   rw[ea,ec]
   by_cases h1:i+1<t.nodes.length
   ·rw[if_pos h1] at he
    obtain⟨a,ha⟩: ∃a,t.nodes[i]?=some a:=⟨_,List.getElem?_eq_getElem (by omega)⟩
    obtain⟨b,hb⟩: ∃b,t.nodes[i+1]?=some b:=⟨_,List.getElem?_eq_getElem h1⟩
    have za:a.length+tot bB a≤tot aH t.nodes:=jR (w:=aH) ha
    have zb:b.length+tot bB b≤tot aH t.nodes:=jR (w:=aH) hb
    have ka:ij t i=aF a:=by unfold ij;rw[List.getD_eq_getElem?_getD,ha];rfl
    have kb:ij t (i+1)=aF b:=by unfold ij;rw[List.getD_eq_getElem?_getD,hb];rfl
    have la:=cE a
    have lb:=cE b
    rw[ka,kb] at he
    refine ai (by simp<;>omega) ⟨_,by rw[bF,aC,ha];rfl,_,by rw[bF,aC,hb];rfl,_,(dU a (by omega) (by omega) _).2 rfl,_,(dU b (by omega) (by omega) _).2 rfl,?_⟩
    rw[List.length_map,List.length_map,show av (Int.ofNat (aF a).length) (Int.ofNat (aF b).length)=((aF a).length:Int)+(aF b).length from aB (by simp<;>omega)]
    by_cases h2:(aF a).length+(aF b).length≤6
    ·rw[if_pos h2] at he
     exact ai (by simp<;>omega) (IF _ _ _ _ _ _ ⟨by rw[←he];rfl,rfl⟩)
    ·rw[if_neg h2] at he
     exact an (by simp<;>omega) (ih (i+1) (by omega) he)
   ·rw[if_neg h1] at he
    exact an (by simp<;>omega) (Ac _ _ _ _ _ ⟨by rw[←he];rfl,rfl⟩)
 exact key t.nodes.length 0 (by omega) rfl
theorem GZ (t0:Tree) (hw0:t0.lows.length=t0.nodes.length) (hz0:tot aH t0.nodes+t0.nodes.length≤1073700000):aa C aQ [dG t0] (dG (jU t0.nodes.length t0)) []:=by
 refine(LM _ _ _ ⟨_,qW t0 (by omega) (by omega),?_⟩).run
 have key: ∀(m:Nat) (t:Tree),t.nodes.length=m→t.lows.length=t.nodes.length→tot aH t.nodes+t.nodes.length≤1073700000→jU m t=jU t0.nodes.length t0→ah C aQ ak 4 0 (lV (M3 (nZ t)) (t.lows.map bG) (t.nodes.map aI)) (fun x st=>ax C aQ ak x st fun r fs=>r=dG (jU t0.nodes.length t0)∧fs=[]):=by
  intro m
  induction m with
  |zero=>
   intro t hm hw hz he
   have hp:nZ t=none:=by unfold nZ;rw[hm];rfl
   rw[hp]
   exact qZ _ _ _ _ (an (by simp[M3]) (zI _ _ _ _ _ ⟨by rw[←he];rfl,rfl⟩))
  |succ m ih=>
   intro t hm hw hz he
   rw[qo] at he
   cases hp:nZ t with
   |none=>
    rw[hp] at he
    have he:t=jU t0.nodes.length t0:=he
    exact qZ _ _ _ _ (an (by simp[M3]) (zI _ _ _ _ _ ⟨by rw[←he],rfl⟩))
   |some i=>
   rw[hp] at he
   have he:jU m (cu t i)=jU t0.nodes.length t0:=he
   have hlt:=qn hp
   show ah C aQ ak 4 0 (lV (i:Int) (t.lows.map bG) (t.nodes.map aI)) _
   obtain⟨a,ha⟩: ∃a,t.nodes[i]?=some a:=⟨_,List.getElem?_eq_getElem (by omega)⟩
   obtain⟨b,hb⟩: ∃b,t.nodes[i+1]?=some b:=⟨_,List.getElem?_eq_getElem hlt.1⟩
   have za:a.length+tot bB a≤tot aH t.nodes:=jR (w:=aH) ha
   have zb:b.length+tot bB b≤tot aH t.nodes:=jR (w:=aH) hb
   have la:=cE a
   have lb:=cE b
   have h6:=hlt.2
   rw[gv ha,gv hb] at h6
   have ea:av (i:Int) 1=((i+1:Nat):Int):=by rw[aB (by omega)];omega
   have eb:av (i:Int) 2=((i+2:Nat):Int):=by rw[aB (by omega)];omega
   have ra:rowAt (t.nodes.map aI) (i:Int)=some [TC.sub 1 (a.map bS)]:=by rw[bF,aC,ha];rfl
   have rb:rowAt (t.nodes.map aI) ((i+1:Nat):Int)=some [TC.sub 1 (b.map bS)]:=by rw[bF,aC,hb];rfl
   have c1:ay (t.lows.map bG) 0 ((i+1:Nat):Int)=(t.lows.take (i+1)).map bG:=by rw[cA];rfl
   have c2:ay (t.lows.map bG) ((i+2:Nat):Int) (Int.ofNat (t.lows.map bG).length)=(t.lows.drop (i+2)).map bG:=by
    rw[cA,List.length_map,Int.toNat_natCast,show(Int.ofNat t.lows.length).toNat=t.lows.length from rfl,List.take_length]
   have c3:ay (t.nodes.map aI) 0 (i:Int)=(t.nodes.take i).map aI:=by rw[cA];rfl
   have c4:ay (t.nodes.map aI) ((i+2:Nat):Int) (Int.ofNat (t.nodes.map aI).length)=(t.nodes.drop (i+2)).map aI:=by
    rw[cA,List.length_map,Int.toNat_natCast,show(Int.ofNat t.nodes.length).toNat=t.nodes.length from rfl,List.take_length]
   have hlo:i<t.lows.length:=by omega
   have eL:List.append ((t.lows.take (i+1)).map bG) ((t.lows.drop (i+2)).map bG)=(cu t i).lows.map bG:=by
    rw[jq]
    unfold cu jT
    simp only[]
    rw[List.take_add_one,List.getD_eq_getElem?_getD,List.getElem?_eq_getElem hlo]
    simp
   have eN:List.append (List.append ((t.nodes.take i).map aI) [[TC.sub 1 ((cn (aF a++aF b)).map bS)]]) ((t.nodes.drop (i+2)).map aI)=(cu t i).nodes.map aI:=by
    rw[Dx,jq]
    unfold cu jT
    simp only[]
    rw[gv ha,gv hb]
   have hsz:=tU hlt.1
   have hjl:=rM hlt.1
   have hjw:(cu t i).lows.length+1=t.lows.length:=by
    have:=xY t i 2 [t.lows.getD i 0] [cn (ij t i++ij t (i+1))] (by omega)
    unfold cu
    simp only[List.length_singleton] at this
    omega
   have k1:(t.lows.take (i+1)).length≤t.lows.length:=by rw[List.length_take];omega
   have k2:(t.lows.drop (i+2)).length≤t.lows.length:=by rw[List.length_drop];omega
   have k3:(t.nodes.take i).length≤t.nodes.length:=by rw[List.length_take];omega
   have k4:(t.nodes.drop (i+2)).length≤t.nodes.length:=by rw[List.length_drop];omega
   refine qZ _ _ _ _ (ai (by simp) ?_)
   rw[ea,eb]
   refine⟨_,ra,_,ra,_,rb,_,rb,_,(dU a (by omega) (by omega) _).2 rfl,_,(dU b (by omega) (by omega) _).2 rfl,?_⟩
   rw[jq,c1,c2,c3,c4]
   refine ai (by rw[jF,cW (by simp only[List.length_map,Nat.add_eq];omega)];rfl) (ai (by simp<;>omega) (ai (by simp<;>omega) (ai (by rw[jE,cW (by simp only[List.length_map,Nat.add_eq];omega)];rfl) (ai (by rw[jE,cW (by simp only[List.length_map,Nat.add_eq];omega)];rfl)
    (ai (by simp<;>omega) (ai (by simp<;>omega) (ai (cW (by simp only[List.length_map,Nat.add_eq];omega)) ⟨_,iA (aF a++aF b) (by rw[List.length_append];omega),ai (cW (by simp only[List.length_map,Nat.succ_eq_add_one];omega)) ?_⟩)))))))
   rw[eL,eN]
   refine ai (cW (by rw[Dx];simp only[List.length_map,List.length_append,List.length_singleton,Nat.add_eq];omega)) ⟨_,qW (cu t i) (by omega) (by omega),?_⟩
   exact ih (cu t i) (by omega) (by omega) (by omega) he
 cases hp:nZ t0 with
 |none=>
  have hj:jU t0.nodes.length t0=t0:=by
   cases hm:t0.nodes.length with
   |zero=>rfl
   |succ m=>rw[qo,hp]
  exact zH _ _ _ _ (an (by simp[M3]) (HL _ _ _ _ _ ⟨by rw[hj],rfl⟩))
 |some i=>
  have hlt:=qn hp
  obtain⟨t,ht⟩: ∃t,t=t0:=⟨_,rfl⟩
  rw[←ht] at hlt hw0 hz0 hp ⊢
  show ah C aQ ak 4 0 (qX (i:Int) (t.lows.map bG) (t.nodes.map aI)) _
  obtain⟨a,ha⟩: ∃a,t.nodes[i]?=some a:=⟨_,List.getElem?_eq_getElem (by omega)⟩
  obtain⟨b,hb⟩: ∃b,t.nodes[i+1]?=some b:=⟨_,List.getElem?_eq_getElem hlt.1⟩
  have za:a.length+tot bB a≤tot aH t.nodes:=jR (w:=aH) ha
  have zb:b.length+tot bB b≤tot aH t.nodes:=jR (w:=aH) hb
  have la:=cE a
  have lb:=cE b
  have h6:=hlt.2
  rw[gv ha,gv hb] at h6
  have ea:av (i:Int) 1=((i+1:Nat):Int):=by rw[aB (by omega)];omega
  have eb:av (i:Int) 2=((i+2:Nat):Int):=by rw[aB (by omega)];omega
  have ra:rowAt (t.nodes.map aI) (i:Int)=some [TC.sub 1 (a.map bS)]:=by rw[bF,aC,ha];rfl
  have rb:rowAt (t.nodes.map aI) ((i+1:Nat):Int)=some [TC.sub 1 (b.map bS)]:=by rw[bF,aC,hb];rfl
  have c1:ay (t.lows.map bG) 0 ((i+1:Nat):Int)=(t.lows.take (i+1)).map bG:=by rw[cA];rfl
  have c2:ay (t.lows.map bG) ((i+2:Nat):Int) (Int.ofNat (t.lows.map bG).length)=(t.lows.drop (i+2)).map bG:=by
   rw[cA,List.length_map,Int.toNat_natCast,show(Int.ofNat t.lows.length).toNat=t.lows.length from rfl,List.take_length]
  have c3:ay (t.nodes.map aI) 0 (i:Int)=(t.nodes.take i).map aI:=by rw[cA];rfl
  have c4:ay (t.nodes.map aI) ((i+2:Nat):Int) (Int.ofNat (t.nodes.map aI).length)=(t.nodes.drop (i+2)).map aI:=by
   rw[cA,List.length_map,Int.toNat_natCast,show(Int.ofNat t.nodes.length).toNat=t.nodes.length from rfl,List.take_length]
  have hlo:i<t.lows.length:=by omega
  have eL:List.append ((t.lows.take (i+1)).map bG) ((t.lows.drop (i+2)).map bG)=(cu t i).lows.map bG:=by
   rw[jq]
   unfold cu jT
   simp only[]
   rw[List.take_add_one,List.getD_eq_getElem?_getD,List.getElem?_eq_getElem hlo]
   simp
  have eN:List.append (List.append ((t.nodes.take i).map aI) [[TC.sub 1 ((cn (aF a++aF b)).map bS)]]) ((t.nodes.drop (i+2)).map aI)=(cu t i).nodes.map aI:=by
   rw[Dx,jq]
   unfold cu jT
   simp only[]
   rw[gv ha,gv hb]
  have hsz:=tU hlt.1
  have hjl:=rM hlt.1
  have hjw:(cu t i).lows.length+1=t.lows.length:=by
   have:=xY t i 2 [t.lows.getD i 0] [cn (ij t i++ij t (i+1))] (by omega)
   unfold cu
   simp only[List.length_singleton] at this
   omega
  have k1:(t.lows.take (i+1)).length≤t.lows.length:=by rw[List.length_take];omega
  have k2:(t.lows.drop (i+2)).length≤t.lows.length:=by rw[List.length_drop];omega
  have k3:(t.nodes.take i).length≤t.nodes.length:=by rw[List.length_take];omega
  have k4:(t.nodes.drop (i+2)).length≤t.nodes.length:=by rw[List.length_drop];omega
  refine zH _ _ _ _ (ai (by simp) ?_)
  rw[ea,eb]
  refine⟨_,ra,_,rb,_,(dU a (by omega) (by omega) _).2 rfl,_,(dU b (by omega) (by omega) _).2 rfl,?_⟩
  rw[jq,c1,c2,c3,c4]
  refine ai (by rw[jF,cW (by simp only[List.length_map,Nat.add_eq];omega)];rfl) (ai (by simp<;>omega) (ai (by simp<;>omega) (ai (by rw[jE,cW (by simp only[List.length_map,Nat.add_eq];omega)];rfl) (ai (by rw[jE,cW (by simp only[List.length_map,Nat.add_eq];omega)];rfl)
   (ai (by simp<;>omega) (ai (by simp<;>omega) (ai (cW (by simp only[List.length_map,Nat.add_eq];omega)) ⟨_,iA (aF a++aF b) (by rw[List.length_append];omega),ai (cW (by simp only[List.length_map,Nat.succ_eq_add_one];omega)) ?_⟩)))))))
  rw[eL,eN]
  refine ai (cW (by rw[Dx];simp only[List.length_map,List.length_append,List.length_singleton,Nat.add_eq];omega)) ⟨_,qW (cu t i) (by omega) (by omega),?_⟩
  refine ht▸key (cu t i).nodes.length (cu t i) rfl (by omega) (by omega) ?_
  rw[←ht]
  have:t.nodes.length=(cu t i).nodes.length+1:=by omega
  rw[this]
  rw[qo,hp]
theorem GC (t u:Tree) (hw:t.lows.length=t.nodes.length) (hz:tot aH t.nodes+t.nodes.length≤1073700000) (E:nZ t=none→t=u)
 (N: ∀i,nZ t=some i→ah C cT ak 4 0 (iL ((0:Nat):Int) ((cu t i).lows.map bG) ((cu t i).nodes.map aI)) (fun x st=>ax C cT ak x st fun r fs=>r=dG u∧fs=[])):
 ∀d i,i+d=t.nodes.length→qG t d i=nZ t→ah C cT ak 4 0 (iL (i:Int) (t.lows.map bG) (t.nodes.map aI)) (fun x st=>ax C cT ak x st fun r fs=>r=dG u∧fs=[]):=by
 intro d
 induction d with
 |zero=>
  intro i h he
  have ea:av (i:Int) 1=(i:Int)+1:=aB (by omega)
  refine zO _ _ _ _ ?_
  rw[ea]
  exact an (by simp<;>omega) (zP _ _ _ _ _ ⟨by rw[E (by rw[←he];rfl)],rfl⟩)
 |succ d ih=>
  intro i h he
  have ea:av (i:Int) 1=(i:Int)+1:=aB (by omega)
  have ec:(i:Int)+1=((i+1:Nat):Int):=by omega
  unfold qG at he
  refine zO _ _ _ _ ?_
  rw[ea,ec]
  by_cases h1:i+1<t.nodes.length
  ·rw[if_pos h1] at he
   obtain⟨a,ha⟩: ∃a,t.nodes[i]?=some a:=⟨_,List.getElem?_eq_getElem (by omega)⟩
   obtain⟨b,hb⟩: ∃b,t.nodes[i+1]?=some b:=⟨_,List.getElem?_eq_getElem h1⟩
   have za:a.length+tot bB a≤tot aH t.nodes:=jR (w:=aH) ha
   have zb:b.length+tot bB b≤tot aH t.nodes:=jR (w:=aH) hb
   have la:=cE a
   have lb:=cE b
   rw[gv ha,gv hb] at he
   have ra:rowAt (t.nodes.map aI) (i:Int)=some [TC.sub 1 (a.map bS)]:=by rw[bF,aC,ha];rfl
   have rb:rowAt (t.nodes.map aI) ((i+1:Nat):Int)=some [TC.sub 1 (b.map bS)]:=by rw[bF,aC,hb];rfl
   refine ai (by simp<;>omega) ⟨_,ra,_,ra,_,rb,_,rb,_,(iG a (by omega) (by omega) _).2 rfl,_,(iG b (by omega) (by omega) _).2 rfl,ai (by rw[jF,cW (by simp only[List.length_map,Nat.add_eq];omega)];rfl) ?_⟩
   rw[jq]
   by_cases h2:(aF a).length+(aF b).length≤6
   ·rw[if_pos h2] at he
    have hlo:i<t.lows.length:=by omega
    have hlw:rowAt (t.lows.map bG) (i:Int)=some [iI (t.lows.getD i 0)]:=by
     rw[bF,aC,List.getD_eq_getElem?_getD,List.getElem?_eq_getElem hlo];rfl
    have hnn:=mL (aF a++aF b) (by rw[List.length_append];omega)
    have hrp:=pV t i 2 [t.lows.getD i 0] [cn (aF a++aF b)] (by omega) (by omega) (by omega) (by omega) (by simp) (by simp)
    have ej:jT t i 2 [t.lows.getD i 0] [cn (aF a++aF b)]=cu t i:=by unfold cu;rw[gv ha,gv hb]
    rw[ej] at hrp
    have hN:=N i he.symm
    rw[←show av (-1) 1=((0:Nat):Int) from by rw[aB (by omega)];rfl] at hN
    exact ai (by simp[fX]<;>omega) ⟨_,hlw,_,hlw,_,hnn,_,_,hrp,⟨_,hnn,_,_,hrp,⟨_,_,hrp,rfl⟩,rfl⟩,hN⟩
   ·rw[if_neg h2] at he
    exact an (by simp[fX]<;>omega) (ih (i+1) (by omega) he)
  ·rw[if_neg h1] at he
   exact an (by simp<;>omega) (zP _ _ _ _ _ ⟨by rw[E he.symm],rfl⟩)
theorem G0 (t0:Tree) (hw0:t0.lows.length=t0.nodes.length) (hz0:tot aH t0.nodes+t0.nodes.length≤1073700000):aa C cT [dG t0] (dG (jU t0.nodes.length t0)) []:=by
 refine(L0 _ _ _ ?_).run
 have key: ∀(m:Nat) (t:Tree),t.nodes.length=m→t.lows.length=t.nodes.length→tot aH t.nodes+t.nodes.length≤1073700000→ah C cT ak 4 0 (iL ((0:Nat):Int) (t.lows.map bG) (t.nodes.map aI)) (fun x st=>ax C cT ak x st fun r fs=>r=dG (jU m t)∧fs=[]):=by
  intro m
  induction m with
  |zero=>
   intro t hm hw hz
   exact GC t (jU 0 t) hw hz (fun _=>rfl) (fun i hi=>by have:=(qn hi).1;omega) t.nodes.length 0 (by omega) rfl
  |succ m ih=>
   intro t hm hw hz
   refine GC t (jU (m+1) t) hw hz (fun h=>(QZ h).symm) (fun i hi=> ?_) t.nodes.length 0 (by omega) rfl
   have h1:=rM (qn hi).1
   have h2:=tU (qn hi).1
   have:=ih (cu t i) (by omega) (B0 (qn hi).1 hw) (by omega)
   rw[qo,hi]
   exact this
 exact key t0.nodes.length t0 rfl hw0 hz0
theorem Q5 {t:Tree} {i:Nat} {n:List (List Key)} (h1:i<t.lows.length) (h2:i<t.nodes.length):jT t i 1 [t.lows.getD i 0] [n]=⟨t.lows,t.nodes.set i n⟩:=by
 unfold jT
 rw[List.set_eq_take_append_cons_drop,if_pos h2,List.getD_eq_getElem?_getD,List.getElem?_eq_getElem h1]
 have e:t.lows.take i++[t.lows[i]]++t.lows.drop (i+1)=t.lows:=by
  rw[List.append_assoc,List.singleton_append,←List.drop_eq_getElem_cons h1,List.take_append_drop]
 simp only[Option.getD_some,e,List.append_assoc,List.singleton_append]
theorem YJ {n:Nat} (h:n≤1073741824):e7 .i64 (av (Int.ofNat n) 1) 2=(((n+1)/2:Nat):Int):=by
 rw[aB (by simp;omega)]
 unfold e7
 rw[Int.tdiv_eq_ediv_of_nonneg (by simp;omega),show IntKind.wrap .i64 ((Int.ofNat n+1)/2)=(Int.ofNat n+1)/2 from IntWalk.i64_in _ (by simp;omega)]
 simp
theorem Fi (t:Tree) (k:Key) (hz:dO t≤4194304):aa C ya [dG t,Ah k] (xy (bh t k)) []:=by
 have hN:=ue hz
 have hcp:aa C aW [dG t] (dG t) []:=ud t hN.1 hN.2
 refine(KE _ _ _ _ _ _ _ _ ⟨_,qT t (by omega),?_⟩).run
 cases h1:dQ t with
 |false=>exact ai rfl ⟨_,_,hcp,⟨by unfold bh;rw[if_neg (by rw[h1];simp)],rfl⟩⟩
 |true=>
 refine an rfl ⟨_,(DF _ _ _ _ _ _).2 rfl,?_⟩
 change aA (!ga k) _ _
 cases h2:ga k with
 |false=>exact ai rfl ⟨_,_,hcp,⟨by unfold bh;rw[if_neg (by rw[h2];simp)],rfl⟩⟩
 |true=>
 obtain⟨i,hi,hil⟩:=JX h1 h2
 have hlen:=o5 h1
 have hw:aa C fq [dG t,vI k.b,vI k.a] (vI (i:Int)) []:=by rw[←hi];exact Ff t k.b k.a (by omega)
 have hrow:rowAt (t.nodes.map aI) (i:Int)=some [TC.sub 1 (t.nodes[i].map bS)]:=by rw[bF,aC,List.getElem?_eq_getElem hil];rfl
 have hlow:rowAt (t.lows.map bG) (i:Int)=some [iI (t.lows.getD i 0)]:=by
  rw[bF,aC,List.getD_eq_getElem?_getD,List.getElem?_eq_getElem (by omega)];rfl
 have hg:t.nodes.getD i []=t.nodes[i]:=by rw[List.getD_eq_getElem?_getD,List.getElem?_eq_getElem hil];rfl
 have hok:=tQ h1 (List.getElem_mem hil)
 have hsz:=BN hok
 have hps:=AP t.nodes[i] k
 have hpt:=AQ t.nodes[i] k
 have hkl:=nF t.nodes[i] k
 have hnk:=cE t.nodes[i]
 obtain⟨hp1,hp2,hp3⟩:=PF (k:=k) h1 hil
 have hR:bh t k=if dQ (jU (jD t i k).nodes.length (jD t i k))=true then(jU (jD t i k).nodes.length (jD t i k),true) else(t,false):=by
  unfold bh;rw[if_pos ⟨h1,h2⟩,hi,Int.toNat_natCast]
 have fin: ∀Q:QV,Q (xy (bh t k)) []→ ∃(l39 l40:RR),aa C cT [dG (jD t i k)] (.ag [.sub 1 l39,.sub 1 l40]) []∧(∃b:Bool,aa C bP [.ag [.sub 1 l39,.sub 1 l40]] (vB b) []∧(aA (!b) (∃(l42 l43:RR),aa C aW [dG t] (.ag [.sub 1 l42,.sub 1 l43]) []∧Q (.tu [(1,[.sub 1 l42,.sub 1 l43]),(0,[iB false])]) []) (Q (.tu [(1,[.sub 1 l39,.sub 1 l40]),(0,[iB true])]) []))):=by
  intro Q hQ
  refine⟨_,_,G0 (jD t i k) hp2 (by omega),_,qT _ (by omega),?_⟩
  rw[hR] at hQ
  cases h3:dQ (jU (jD t i k).nodes.length (jD t i k)) with
  |true=>rw[if_pos h3] at hQ;exact an rfl hQ
  |false=>rw[if_neg (by rw[h3];simp)] at hQ;exact ai rfl ⟨_,_,hcp,hQ⟩
 have np:=Fg t.nodes[i] k (by omega) (by omega)
 refine an rfl ⟨_,hw,_,_,hcp,_,hrow,_,hrow,?_⟩
 cases hp:(bU t.nodes[i] k).2 with
 |false=>
  have hno:=(JT hok h2 hp).1
  have cno:(!(bU t.nodes[i] k).2)=true:=by rw[hp];rfl
  obtain⟨ks,hks⟩: ∃ks,ks=bX t.nodes[i] k:=⟨_,rfl⟩
  rw[←hks] at hno hkl
  have hh:=RU hno
  obtain⟨h,hhe⟩: ∃h,h=(ks.length+1)/2:=⟨_,rfl⟩
  have hq:e7 .i64 (av (Int.ofNat (List.length (ks.map bD))) 1) 2=(h:Int):=by rw[List.length_map,YJ (by omega),hhe]
  have hkk:rowAt (ks.map bD) (h:Int)=some [iI (ks.getD h gf).b,iI (ks.getD h gf).a,iI (ks.getD h gf).k,iI (ks.getD h gf).c,iI (ks.getD h gf).g]:=by
   rw[bF,aC,List.getD_eq_getElem?_getD,List.getElem?_eq_getElem (by omega)];rfl
  have ep:jD t i k=jT t i 1 [t.lows.getD i 0,gh (ks.getD h gf).b (ks.getD h gf).a] [cn (ks.take h),cn (ks.drop h)]:=by
   unfold jD;rw[hg,if_neg (by rw[hp];simp),←hks,←hhe]
  have rp:=pV t i 1 [t.lows.getD i 0,gh (ks.getD h gf).b (ks.getD h gf).a] [cn (ks.take h),cn (ks.drop h)] (by omega) (by omega) (by omega) (by omega) (by simp) (by simp)
  rw[←ep] at rp
  have e1:ay (ks.map bD) 0 (h:Int)=(ks.take h).map bD:=by rw[cA];rfl
  have e2:ay (ks.map bD) (h:Int) (Int.ofNat (List.length (ks.map bD)))=(ks.drop h).map bD:=by
   rw[cA,List.length_map,Int.toNat_natCast,show(Int.ofNat ks.length).toNat=ks.length from rfl,List.take_length]
  have nn1:aa C cO [.c (.sub 5 (ay (ks.map bD) 0 (h:Int)))] (fY (cn (ks.take h))) []:=by rw[e1];exact mL _ (by rw[List.length_take];omega)
  have nn2:aa C cO [.c (.sub 5 (ay (ks.map bD) (h:Int) (Int.ofNat (List.length (ks.map bD)))))] (fY (cn (ks.drop h))) []:=by rw[e2];exact mL _ (by rw[List.length_drop];omega)
  have c1:ew 0 (h:Int) (Int.ofNat (List.length (ks.map bD)))=true:=by rw[AK];simp;omega
  have c2:ew (h:Int) (Int.ofNat (List.length (ks.map bD))) (Int.ofNat (List.length (ks.map bD)))=true:=by rw[AK];simp;omega
  have kw:aa C eI [fY t.nodes[i],Ah k] (cJ ks) []:=by
   rw[hks];exact ug t.nodes[i] k (by omega) (by omega)
  clear hks hhe hR
  repeat' first
   |refine⟨_,hrow,?_⟩
   |refine⟨_,hlow,?_⟩
   |refine⟨_,_,np,?_⟩
   |refine ai cno ?_
   |refine⟨_,kw,?_⟩
   |refine an (by rw[aT];rfl) ?_
   |rw[hq]
   |refine⟨_,_,_,_,_,hkk,?_⟩
   |refine ai c1 ?_
   |refine ai c2 ?_
   |refine⟨_,(vG _ _ _).2 rfl,?_⟩
   |refine⟨_,nn1,?_⟩
   |refine⟨_,nn2,?_⟩
   |refine⟨_,_,rp,?_⟩
   |refine⟨(xy (bh t k),([]:List TV)),?_,?_,rfl⟩
   |refine⟨(xy (bh t k),([]:List TV)),?_,?_,⟨rfl,by first|rfl|trivial⟩⟩
   |exact fin (fun a b=>(a,b)=(xy (bh t k),([]:List TV))) rfl
   |exact fin (fun r fs=>r=xy (bh t k)∧fs=[]) ⟨rfl,by first|rfl|trivial⟩
 |true=>
  have cno:(!(bU t.nodes[i] k).2)=false:=by rw[hp];rfl
  by_cases hc:0<i∧(aF (bU t.nodes[i] k).1).length=0
  ·have ci:bI 0 (i:Int)=true:=by rw[dh];simp;omega
   have nk:=(iG (bU t.nodes[i] k).1 (by omega) (by omega) _).2 rfl
   have cl:ee (Int.ofNat (List.length ((aF (bU t.nodes[i] k).1).map bD))) 0=true:=by rw[aT,List.length_map,hc.2];rfl
   have ep:jD t i k=jT t i 1 [] []:=by unfold jD;rw[hg,if_pos hp,if_pos hc]
   have rp:=pV t i 1 [] [] (by omega) (by omega) (by omega) (by omega) (by simp) (by simp)
   rw[←ep] at rp
   clear hR
   repeat' first
   |refine⟨_,hrow,?_⟩
   |refine⟨_,hlow,?_⟩
   |refine⟨_,_,np,?_⟩
   |refine an cno ?_
   |refine ai ci ?_
   |refine⟨_,nk,?_⟩
   |refine ai cl ?_
   |refine⟨_,_,rp,?_⟩
   |refine⟨(xy (bh t k),([]:List TV)),?_,?_,rfl⟩
   |refine⟨(xy (bh t k),([]:List TV)),?_,?_,⟨rfl,by first|rfl|trivial⟩⟩
   |exact fin (fun a b=>(a,b)=(xy (bh t k),([]:List TV))) rfl
   |exact fin (fun r fs=>r=xy (bh t k)∧fs=[]) ⟨rfl,by first|rfl|trivial⟩
  ·have eset:jD t i k=⟨t.lows,t.nodes.set i (bU t.nodes[i] k).1⟩:=by
    unfold jD;rw[hg,if_pos hp,if_neg hc,Q5 (by omega) hil]
   have es:setRow (t.nodes.map aI) (i:Int) 0 [TC.sub 1 ((bU t.nodes[i] k).1.map bS)]=(t.nodes.set i (bU t.nodes[i] k).1).map aI:=Pg (a:=t.nodes[i]) (by rw[aC,List.getElem?_eq_getElem hil]) rfl
   clear hR
   by_cases hi0:0<i
   ·have ci:bI 0 (i:Int)=true:=by rw[dh];simp;omega
    have nk:=(iG (bU t.nodes[i] k).1 (by omega) (by omega) _).2 rfl
    have cl:ee (Int.ofNat (List.length ((aF (bU t.nodes[i] k).1).map bD))) 0=false:=by
     rw[aT,List.length_map];exact decide_eq_false fun e=>hc ⟨hi0,by have e:((aF (bU t.nodes[i] k).1).length:Int)=0:=e;omega⟩
    repeat' first
   |refine⟨_,hrow,?_⟩
   |refine⟨_,hlow,?_⟩
   |refine⟨_,_,np,?_⟩
   |refine an cno ?_
   |refine ai ci ?_
   |refine⟨_,nk,?_⟩
   |refine an cl ?_
   |refine⟨(xy (bh t k),([]:List TV)),?_,?_,rfl⟩
   |refine⟨(xy (bh t k),([]:List TV)),?_,?_,⟨rfl,by first|rfl|trivial⟩⟩
   |exact fin (fun a b=>(a,b)=(xy (bh t k),([]:List TV))) rfl
   |exact fin (fun r fs=>r=xy (bh t k)∧fs=[]) ⟨rfl,by first|rfl|trivial⟩
   |(rw[es];rw[eset] at fin;exact fin (fun a b=>(a,b)=(xy (bh t k),([]:List TV))) rfl)
   |(rw[es];rw[eset] at fin;exact fin (fun r fs=>r=xy (bh t k)∧fs=[]) ⟨rfl,by first|rfl|trivial⟩)
   ·have ci:bI 0 (i:Int)=false:=by rw[dh];simp;omega
    repeat' first
   |refine⟨_,hrow,?_⟩
   |refine⟨_,hlow,?_⟩
   |refine⟨_,_,np,?_⟩
   |refine an cno ?_
   |refine an ci ?_
   |refine⟨(xy (bh t k),([]:List TV)),?_,?_,rfl⟩
   |refine⟨(xy (bh t k),([]:List TV)),?_,?_,⟨rfl,by first|rfl|trivial⟩⟩
   |exact fin (fun a b=>(a,b)=(xy (bh t k),([]:List TV))) rfl
   |exact fin (fun r fs=>r=xy (bh t k)∧fs=[]) ⟨rfl,by first|rfl|trivial⟩
   |(rw[es];rw[eset] at fin;exact fin (fun a b=>(a,b)=(xy (bh t k),([]:List TV))) rfl)
   |(rw[es];rw[eset] at fin;exact fin (fun r fs=>r=xy (bh t k)∧fs=[]) ⟨rfl,by first|rfl|trivial⟩)
theorem Fj (t:Tree) (k:Key) (hz:dO t≤4194304):aa C x9 [dG t,Ah k] (xy (bh t k)) []:=by
 have hN:=ue hz
 have hcp:aa C cq [dG t] (dG t) []:=yw t hN.1 hN.2
 refine(Ki _ _ _ _ _ _ _ _ ⟨_,_,hcp,_,qS t (by omega),?_⟩).run
 cases h1:dQ t with
 |false=>exact ai rfl ⟨by unfold bh;rw[if_neg (by rw[h1];simp)],rfl⟩
 |true=>
 refine an rfl ⟨_,(DG _ _ _ _ _ _).2 rfl,?_⟩
 change aA (!ga k) _ _
 cases h2:ga k with
 |false=>exact ai rfl ⟨by unfold bh;rw[if_neg (by rw[h2];simp)],rfl⟩
 |true=>
 obtain⟨i,hi,hil⟩:=JX h1 h2
 have hlen:=o5 h1
 have hw:aa C eu [dG t,vI k.b,vI k.a] (vI (i:Int)) []:=by rw[←hi];exact Fe t k.b k.a (by omega)
 have hrow:rowAt (t.nodes.map aI) (i:Int)=some [TC.sub 1 (t.nodes[i].map bS)]:=by rw[bF,aC,List.getElem?_eq_getElem hil];rfl
 have hlow:rowAt (t.lows.map bG) (i:Int)=some [iI (t.lows.getD i 0)]:=by
  rw[bF,aC,List.getD_eq_getElem?_getD,List.getElem?_eq_getElem (by omega)];rfl
 have hg:t.nodes.getD i []=t.nodes[i]:=by rw[List.getD_eq_getElem?_getD,List.getElem?_eq_getElem hil];rfl
 have hok:=tQ h1 (List.getElem_mem hil)
 have hsz:=BN hok
 have hps:=AP t.nodes[i] k
 have hpt:=AQ t.nodes[i] k
 have hkl:=nF t.nodes[i] k
 have hnk:=cE t.nodes[i]
 obtain⟨hp1,hp2,hp3⟩:=PF (k:=k) h1 hil
 have hR:bh t k=if dQ (jU (jD t i k).nodes.length (jD t i k))=true then(jU (jD t i k).nodes.length (jD t i k),true) else(t,false):=by
  unfold bh;rw[if_pos ⟨h1,h2⟩,hi,Int.toNat_natCast]
 have fin: ∀Q:QV,Q (xy (bh t k)) []→ ∃(l39 l40:RR),aa C aQ [dG (jD t i k)] (.ag [.sub 1 l39,.sub 1 l40]) []∧(∃b:Bool,aa C aJ [.ag [.sub 1 l39,.sub 1 l40]] (vB b) []∧(aA (!b) (Q (.tu [(1,RN t),(0,[iB false])]) []) (Q (.tu [(1,[.sub 1 l39,.sub 1 l40]),(0,[iB true])]) []))):=by
  intro Q hQ
  refine⟨_,_,GZ (jD t i k) hp2 (by omega),_,qS _ (by omega),?_⟩
  rw[hR] at hQ
  cases h3:dQ (jU (jD t i k).nodes.length (jD t i k)) with
  |true=>rw[if_pos h3] at hQ;exact an rfl hQ
  |false=>rw[if_neg (by rw[h3];simp)] at hQ;exact ai rfl hQ
 have np:=Fh t.nodes[i] k (by omega) (by omega)
 have hx:=sC t i [t.lows.getD i 0] [(bU t.nodes[i] k).1] (by omega) (by omega) (by omega) (by omega) (by simp) (by simp)
 refine an rfl ⟨_,hw,_,hrow,?_⟩
 cases hp:(bU t.nodes[i] k).2 with
 |false=>
  have hno:=(JT hok h2 hp).1
  have cno:(!(bU t.nodes[i] k).2)=true:=by rw[hp];rfl
  obtain⟨ks,hks⟩: ∃ks,ks=bX t.nodes[i] k:=⟨_,rfl⟩
  rw[←hks] at hno hkl
  have hh:=RU hno
  obtain⟨h,hhe⟩: ∃h,h=(ks.length+1)/2:=⟨_,rfl⟩
  have hq:e7 .i64 (av (Int.ofNat (List.length (ks.map bD))) 1) 2=(h:Int):=by rw[List.length_map,YJ (by omega),hhe]
  have hkk:rowAt (ks.map bD) (h:Int)=some [iI (ks.getD h gf).b,iI (ks.getD h gf).a,iI (ks.getD h gf).k,iI (ks.getD h gf).c,iI (ks.getD h gf).g]:=by
   rw[bF,aC,List.getD_eq_getElem?_getD,List.getElem?_eq_getElem (by omega)];rfl
  have ep:jD t i k=jT t i 1 [t.lows.getD i 0,gh (ks.getD h gf).b (ks.getD h gf).a] [cn (ks.take h),cn (ks.drop h)]:=by
   unfold jD;rw[hg,if_neg (by rw[hp];simp),←hks,←hhe]
  have rp:=sC t i [t.lows.getD i 0,gh (ks.getD h gf).b (ks.getD h gf).a] [cn (ks.take h),cn (ks.drop h)] (by omega) (by omega) (by omega) (by omega) (by simp) (by simp)
  rw[←ep] at rp
  have e1:ay (ks.map bD) 0 (h:Int)=(ks.take h).map bD:=by rw[cA];rfl
  have e2:ay (ks.map bD) (h:Int) (Int.ofNat (List.length (ks.map bD)))=(ks.drop h).map bD:=by
   rw[cA,List.length_map,Int.toNat_natCast,show(Int.ofNat ks.length).toNat=ks.length from rfl,List.take_length]
  have nn1:aa C aG [.c (.sub 5 (ay (ks.map bD) 0 (h:Int)))] (fY (cn (ks.take h))) []:=by rw[e1];exact iA _ (by rw[List.length_take];omega)
  have nn2:aa C aG [.c (.sub 5 (ay (ks.map bD) (h:Int) (Int.ofNat (List.length (ks.map bD)))))] (fY (cn (ks.drop h))) []:=by rw[e2];exact iA _ (by rw[List.length_drop];omega)
  have c1:ew 0 (h:Int) (Int.ofNat (List.length (ks.map bD)))=true:=by rw[AK];simp;omega
  have c2:ew (h:Int) (Int.ofNat (List.length (ks.map bD))) (Int.ofNat (List.length (ks.map bD)))=true:=by rw[AK];simp;omega
  have kw:aa C cU [cJ (eO (aF t.nodes[i]) k)] (cJ ks) []:=by
   rw[hks];exact vF (eO (aF t.nodes[i]) k) (by have:=nq (aF t.nodes[i]) k;omega)
  clear hks hhe hR
  repeat' first
   |refine⟨_,hrow,?_⟩
   |refine⟨_,hlow,?_⟩
   |refine⟨_,_,np,?_⟩
   |refine⟨_,_,hx,?_⟩
   |refine ai cno ?_
   |refine⟨_,kw,?_⟩
   |refine⟨_,(dU t.nodes[i] (by omega) (by omega) _).2 rfl,?_⟩
   |refine⟨_,lQ (aF t.nodes[i]) k (by omega),?_⟩
   |refine an (by rw[aT];rfl) ?_
   |rw[hq]
   |refine⟨_,_,_,_,_,hkk,?_⟩
   |refine ai c1 ?_
   |refine ai c2 ?_
   |refine⟨_,(B5 _ _ _ _ _ _).2 rfl,?_⟩
   |refine⟨_,nn1,?_⟩
   |refine⟨_,nn2,?_⟩
   |refine⟨_,_,rp,?_⟩
   |refine⟨(xy (bh t k),([]:List TV)),?_,?_,rfl⟩
   |refine⟨(xy (bh t k),([]:List TV)),?_,?_,⟨rfl,by first|rfl|trivial⟩⟩
   |exact fin (fun a b=>(a,b)=(xy (bh t k),([]:List TV))) rfl
   |exact fin (fun r fs=>r=xy (bh t k)∧fs=[]) ⟨rfl,by first|rfl|trivial⟩
 |true=>
  have cno:(!(bU t.nodes[i] k).2)=false:=by rw[hp];rfl
  by_cases hc:0<i∧(aF (bU t.nodes[i] k).1).length=0
  ·have ci:bI 0 (i:Int)=true:=by rw[dh];simp;omega
   have nk:=(dU (bU t.nodes[i] k).1 (by omega) (by omega) _).2 rfl
   have cl:ee (Int.ofNat (List.length ((aF (bU t.nodes[i] k).1).map bD))) 0=true:=by rw[aT,List.length_map,hc.2];rfl
   have ep:jD t i k=jT t i 1 [] []:=by unfold jD;rw[hg,if_pos hp,if_pos hc]
   have rp:=sC t i [] [] (by omega) (by omega) (by omega) (by omega) (by simp) (by simp)
   rw[←ep] at rp
   clear hR
   repeat' first
   |refine⟨_,hrow,?_⟩
   |refine⟨_,hlow,?_⟩
   |refine⟨_,_,np,?_⟩
   |refine⟨_,_,hx,?_⟩
   |refine an cno ?_
   |refine ai ci ?_
   |refine⟨_,nk,?_⟩
   |refine ai cl ?_
   |refine⟨_,_,rp,?_⟩
   |refine⟨(xy (bh t k),([]:List TV)),?_,?_,rfl⟩
   |refine⟨(xy (bh t k),([]:List TV)),?_,?_,⟨rfl,by first|rfl|trivial⟩⟩
   |exact fin (fun a b=>(a,b)=(xy (bh t k),([]:List TV))) rfl
   |exact fin (fun r fs=>r=xy (bh t k)∧fs=[]) ⟨rfl,by first|rfl|trivial⟩
  ·have ep:jT t i 1 [t.lows.getD i 0] [(bU t.nodes[i] k).1]=jD t i k:=by
    unfold jD;rw[hg,if_pos hp,if_neg hc]
   rw[ep] at hx
   clear hR
   by_cases hi0:0<i
   ·have ci:bI 0 (i:Int)=true:=by rw[dh];simp;omega
    have nk:=(dU (bU t.nodes[i] k).1 (by omega) (by omega) _).2 rfl
    have cl:ee (Int.ofNat (List.length ((aF (bU t.nodes[i] k).1).map bD))) 0=false:=by
     rw[aT,List.length_map];exact decide_eq_false fun e=>hc ⟨hi0,by have e:((aF (bU t.nodes[i] k).1).length:Int)=0:=e;omega⟩
    repeat' first
   |refine⟨_,hrow,?_⟩
   |refine⟨_,hlow,?_⟩
   |refine⟨_,_,np,?_⟩
   |refine⟨_,_,hx,?_⟩
   |refine an cno ?_
   |refine ai ci ?_
   |refine⟨_,nk,?_⟩
   |refine an cl ?_
   |refine⟨(xy (bh t k),([]:List TV)),?_,?_,rfl⟩
   |refine⟨(xy (bh t k),([]:List TV)),?_,?_,⟨rfl,by first|rfl|trivial⟩⟩
   |exact fin (fun a b=>(a,b)=(xy (bh t k),([]:List TV))) rfl
   |exact fin (fun r fs=>r=xy (bh t k)∧fs=[]) ⟨rfl,by first|rfl|trivial⟩
   ·have ci:bI 0 (i:Int)=false:=by rw[dh];simp;omega
    repeat' first
   |refine⟨_,hrow,?_⟩
   |refine⟨_,hlow,?_⟩
   |refine⟨_,_,np,?_⟩
   |refine⟨_,_,hx,?_⟩
   |refine an cno ?_
   |refine an ci ?_
   |refine⟨(xy (bh t k),([]:List TV)),?_,?_,rfl⟩
   |refine⟨(xy (bh t k),([]:List TV)),?_,?_,⟨rfl,by first|rfl|trivial⟩⟩
   |exact fin (fun a b=>(a,b)=(xy (bh t k),([]:List TV))) rfl
   |exact fin (fun r fs=>r=xy (bh t k)∧fs=[]) ⟨rfl,by first|rfl|trivial⟩
theorem DO {l:List Cell} {n i:Int} {cs:List Cell} (h:nr l n=(cs,i,true)): ∃c,fE cs i=some c∧UM cs i=c.g:=by
 have h0:cK l=true∧mH n=true∧0≤cX l:=Classical.byContradiction fun hn=>by
  rw[lq hn] at h;cases h
 rw[pO h0] at h
 obtain⟨rfl,h2⟩:=Prod.mk.inj h
 obtain⟨rfl,_⟩:=Prod.mk.inj h2
 have hl: -1≤cX l∧cX l<l.length:=VY su l
 obtain⟨c,hc⟩:=qm (l:=l.modify (cX l).toNat fun c=>⟨c.g,true,n⟩) h0.2.2 (by rw[List.length_modify];exact hl.2)
 exact⟨c,hc,by unfold UM;rw[hc]⟩
theorem yx (p:Pool) (hS:cY p≤4194304) (i:Int):aa C eX [fZ p,vI i] (Ah (fW p i)) []:=by
 have hP:=jS hS
 have htl:=lD p.t
 refine(LW _ _ _ _ _ _ _ _ ⟨_,pT p.t (by omega),?_⟩).run
 have key:((aK p.t).drop 0).find? (ku i)=(aK p.t).find? (ku i)→ah C eX aj 4 0 (jG i ((0:Nat):Int) ((aK p.t).map bD)) (fun x st=>ax C eX aj x st fun r fs=>r=Ah (fW p i)∧fs=[]):=by
  refine bk (aK p.t) (fun j=>((aK p.t).drop j).find? (ku i)=(aK p.t).find? (ku i)→ah C eX aj 4 0 (jG i (j:Int) ((aK p.t).map bD)) (fun x st=>ax C eX aj x st fun r fs=>r=Ah (fW p i)∧fs=[])) ?_ ?_
  ·intro h0
   rw[List.drop_length] at h0
   exact zK _ _ _ _ (an (by simp) (HT _ _ _ _ _ ⟨by unfold fW;rw[←h0];rfl,rfl⟩))
  ·intro j a hj ha hd ht hn h0
   rw[hd,List.find?_cons] at h0
   have hr:rowAt ((aK p.t).map bD) (j:Int)=some [iI a.b,iI a.a,iI a.k,iI a.c,iI a.g]:=by rw[bF,aC,ha];rfl
   have hadd:av (j:Int) 1=(j:Int)+1:=aB (by omega)
   refine zK _ _ _ _ (ai (by simp<;>omega) ⟨_,_,_,_,_,hr,_,_,_,_,_,hr,?_⟩)
   rw[hadd]
   by_cases h1:a.k=1
   ·refine ai (by rw[aT];exact decide_eq_true h1) ⟨_,_,_,_,_,hr,_,_,_,_,_,hr,?_⟩
    by_cases h2:a.c=i
    ·have ho:ku i a=true:=by unfold ku;simp[h1,h2]
     rw[ho] at h0
     exact ai (by rw[aT];exact decide_eq_true h2) ⟨_,_,_,_,_,hr,_,_,_,_,_,hr,HS _ _ _ _ _ _ _ ⟨by unfold fW;rw[←h0],rfl⟩⟩
    ·have ho:ku i a=false:=by unfold ku;simp[h2]
     rw[ho] at h0
     exact an (by rw[aT];exact decide_eq_false h2) (hn h0)
   ·have ho:ku i a=false:=by unfold ku;simp[h1]
    rw[ho] at h0
    exact an (by rw[aT];exact decide_eq_false h1) (hn h0)
 exact key rfl
theorem wg (p:Pool) (hS:cY p≤4194304):aa C dw [fZ p] (vI (eR p.cells p.cells.length)) []:=by
 have hP:=jS hS
 have hl:p.cells.length≤1073741824:=by omega
 obtain⟨Z,hZ⟩: ∃Z,eR p.cells p.cells.length=Z:=⟨_,rfl⟩
 rw[hZ]
 refine(Kj _ _ _ _ _ _ _ ?_).run
 have key: ∀k:Nat,k≤p.cells.length→ ∀z:Int,z=(k:Int)-1→eR p.cells k=Z→ah C dw GF 4 0 (nI z (p.t.lows.map bG) (p.t.nodes.map aI) (p.ages.map di) (p.cells.map bJ) (p.vols.map dJ) p.next) (fun x st=>ax C dw GF x st fun r fs=>r=vI Z∧fs=[]):=by
  intro k
  induction k with
  |zero=>
   intro hk z hz hZ
   exact wY _ _ _ _ _ _ _ _ (an (by subst hz;rw[fX];exact decide_eq_false (by omega)) (Fy _ _ _ _ _ _ _ _ ⟨by subst hz;rw[←hZ];rfl,rfl⟩))
  |succ k ih=>
   intro hk z hz hZ
   have hz:z=(k:Int):=by omega
   subst hz
   unfold eR at hZ
   obtain⟨c,hc⟩: ∃c,p.cells[k]?=some c:=⟨_,List.getElem?_eq_getElem (by omega)⟩
   rw[hc] at hZ
   simp only[] at hZ
   have hr:rowAt (p.cells.map bJ) (k:Int)=some [iI c.g,iB c.u,iI c.n]:=by rw[bF,aC,hc];rfl
   ·refine wY _ _ _ _ _ _ _ _ (ai (by rw[fX];exact decide_eq_true (by omega)) ⟨_,_,_,hr,?_⟩)
    cases hu:c.u with
    |true=>
     rw[if_pos hu] at hZ
     exact an rfl (Fx _ _ _ _ _ _ _ _ _ ⟨by rw[←hZ],rfl⟩)
    |false=>
     rw[if_neg (by rw[hu];simp)] at hZ
     refine ai rfl ?_
     exact ih (by omega) (dm (k:Int) 1) (dN (by omega)) hZ
 exact key p.cells.length (Nat.le_refl _) (dm (Int.ofNat (List.length (p.cells.map bJ))) 1) (by rw[List.length_map];exact dN (by simp<;>omega)) hZ
theorem DP (l:List Cell) (hl:l.length≤1073741824):aa C dY [e9 l] (vI (eR l l.length)) []:=by
 skip
 obtain⟨Z,hZ⟩: ∃Z,eR l l.length=Z:=⟨_,rfl⟩
 rw[hZ]
 refine(HD _ _ ?_).run
 have key: ∀k:Nat,k≤l.length→ ∀z:Int,z=(k:Int)-1→eR l k=Z→ah C dY ak 4 0 (mS (l.map bJ) z) (fun x st=>ax C dY ak x st fun r fs=>r=vI Z∧fs=[]):=by
  intro k
  induction k with
  |zero=>
   intro hk z hz hZ
   exact uX _ _ _ (an (by subst hz;rw[fX];exact decide_eq_false (by omega)) (D7 _ _ _ _ ⟨by rw[←hZ];rfl,rfl⟩))
  |succ k ih=>
   intro hk z hz hZ
   have hz:z=(k:Int):=by omega
   subst hz
   unfold eR at hZ
   obtain⟨c,hc⟩: ∃c,l[k]?=some c:=⟨_,List.getElem?_eq_getElem (by omega)⟩
   rw[hc] at hZ
   simp only[] at hZ
   have hr:rowAt (l.map bJ) (k:Int)=some [iI c.g,iB c.u,iI c.n]:=by rw[bF,aC,hc];rfl
   ·refine uX _ _ _ (ai (by rw[fX];exact decide_eq_true (by omega)) ⟨_,_,_,hr,?_⟩)
    cases hu:c.u with
    |true=>
     rw[if_pos hu] at hZ
     exact ai rfl (D6 _ _ ⟨by rw[←hZ],rfl⟩)
    |false=>
     rw[if_neg (by rw[hu];simp)] at hZ
     refine an rfl ?_
     exact ih (by omega) (dm (k:Int) 1) (dN (by omega)) hZ
 exact key l.length (Nat.le_refl _) (dm (Int.ofNat (List.length (l.map bJ))) 1) (by rw[List.length_map];exact dN (by simp<;>omega)) hZ
theorem pE {p:Pool} {i:Int} {c:Cell} (hc:fE p.cells i=some c) (h: ¬(c.u=true∧0≤cX p.cells∧cX p.cells≤i)):gi p i=(p,false):=by
 unfold gi
 split
 ·rw[hc];exact if_neg h
 ·rfl
theorem DQ {p:Pool} {i:Int} {c:Cell} (hp:ig p=true) (hc:fE p.cells i=some c) (h:c.u=true∧0≤cX p.cells∧cX p.cells≤i):gi p i=BZ p (yp p i c.n):=by
 unfold gi
 rw[if_pos hp,hc];exact if_pos h
theorem DR {p:Pool} {i:Int} (hc:fE p.cells i=none):gi p i=(p,false):=by
 unfold gi
 split
 ·rw[hc]
 ·rfl
theorem DS {p:Pool} {i:Int} (hp:ig p=false):gi p i=(p,false):=by
 unfold gi
 rw[if_neg (by rw[hp];simp)]
theorem PK {p:Pool} {x:Pool×Bool} (h:x.2=false):BZ p x=(p,false):=by
 unfold BZ;rw[if_neg fun e=>by rw[h] at e;cases e.1]
theorem M4 {p:Pool} {x:Pool×Bool} (h:ig x.1=false):BZ p x=(p,false):=by
 unfold BZ;rw[if_neg fun e=>by rw[h] at e;cases e.2]
theorem M5 {p:Pool} {x:Pool×Bool} (h1:x.2=true) (h2:ig x.1=true):BZ p x=(x.1,true):=by
 unfold BZ;rw[if_pos ⟨h1,h2⟩]
theorem Ka {p:Pool} {i:Int} {c:Cell} (hp:ig p=true) (hc:fE p.cells i=some c):mH c.n=true:=by
 have h:=pR hp
 simp only[cK,Bool.and_eq_true] at h
 have:=List.all_eq_true.1 h.1 c (Ut hc)
 simp only[gH,Bool.and_eq_true] at this
 exact this.2.1
theorem SG {p:Pool} (hp:ig p=true):p.cells.length=24:=by
 have h:=pR hp
 simp only[cK,Bool.and_eq_true,decide_eq_true_eq] at h
 exact h.2
theorem uh (p:Pool) (i:Int) (hS:cY p≤1048576):aa C eG [fZ p,vI i] (YA (gi p i)) []:=by
 have hS2:cY p≤4194304:=by omega
 have hP:=jS hS2
 have htl:=lD p.t
 have hcp:=we p hS2
 have hok:=yq p hS2
 have hin:=Bb i 0 ((p.cells.length:Int)-1)
 have hsl:dm (Int.ofNat (p.cells.map bJ).length) 1=(p.cells.length:Int)-1:=by rw[List.length_map];exact dN (by simp<;>omega)
 rw[←hsl] at hin
 refine(G6 _ _ _ _ _ _ _ _ ?_).run
 cases hg:ig p with
 |false=>
  rw[hg] at hok
  rw[DS hg]
  repeat' first
   |refine⟨_,_,_,_,_,_,hcp,?_⟩
   |refine⟨_,hok,?_⟩
   |refine⟨_,hin,?_⟩
   |exact rfl
   |exact⟨rfl,by first|rfl|trivial⟩
   |refine ai (by first|rfl|(rw[aT];rfl)) ?_
   |refine an (by first|rfl|(rw[aT];rfl)) ?_
 |true=>
 rw[hg] at hok
 cases hc:fE p.cells i with
 |none=>
  have h1:iQ i 0 (dm (Int.ofNat (p.cells.map bJ).length) 1)=false:=by
   rw[hsl];unfold iQ;refine decide_eq_false fun h=> ?_
   obtain⟨a,ha⟩:=qm (l:=p.cells) h.1 (by omega)
   rw[hc] at ha;cases ha
  rw[h1] at hin
  rw[DR hc]
  repeat' first
   |refine⟨_,_,_,_,_,_,hcp,?_⟩
   |refine⟨_,hok,?_⟩
   |refine⟨_,hin,?_⟩
   |exact rfl
   |exact⟨rfl,by first|rfl|trivial⟩
   |refine ai (by first|rfl|(rw[aT];rfl)) ?_
   |refine an (by first|rfl|(rw[aT];rfl)) ?_
 |some c=>
  have hi:0≤i∧i<p.cells.length:=Classical.byContradiction fun hn=>by rw[nD hn] at hc;cases hc
  have h1:iQ i 0 (dm (Int.ofNat (p.cells.map bJ).length) 1)=true:=by rw[hsl];unfold iQ;exact decide_eq_true (by omega)
  rw[h1] at hin
  have hrc:rowAt (p.cells.map bJ) i=some [iI c.g,iB c.u,iI c.n]:=by rw[bF,hc];rfl
  cases hu:c.u with
  |false=>
   rw[hu] at hrc
   rw[pE hc fun h=>by rw[hu] at h;cases h.1]
   repeat' first
    |refine⟨_,_,_,_,_,_,hcp,?_⟩
    |refine⟨_,hok,?_⟩
    |refine⟨_,hin,?_⟩
    |refine⟨_,_,_,hrc,?_⟩
    |exact rfl
    |exact⟨rfl,by first|rfl|trivial⟩
    |refine ai (by first|rfl|(rw[aT];rfl)) ?_
    |refine an (by first|rfl|(rw[aT];rfl)) ?_
  |true=>
  rw[hu] at hrc
  have tk:=DM p.cells c.n (by omega)
  have hk:=yx p hS2 i
  by_cases hf:0≤cX p.cells
  ·have htk:=pO ⟨pR hg,Ka hg hc,hf⟩
   obtain⟨cs,hcs⟩: ∃cs,cs=p.cells.modify (cX p.cells).toNat (fun d=>⟨d.g,true,c.n⟩):=⟨_,rfl⟩
   rw[←hcs] at htk
   have hcl:cs.length=p.cells.length:=by rw[hcs,List.length_modify]
   obtain⟨d,hd,hgen⟩:=DO htk
   have hrd:rowAt (cs.map bJ) (cX p.cells)=some [iI d.g,iB d.u,iI d.n]:=by rw[bF,hd];rfl
   clear hcs
   rw[htk] at tk
   by_cases hle:cX p.cells≤i
   ·have cl:bI i (cX p.cells)=false:=by rw[dh];exact decide_eq_false (by omega)
    rw[DQ hg hc ⟨hu,hf,hle⟩]
    have tp:=Fj p.t (mJ p i c.n) (by omega)
    have fc:=DJ cs i (by omega)
    have hk:=yx p hS2 i
    have hmk:mJ p i c.n=⟨(fW p i).b,(fW p i).a,(fW p i).k,cX p.cells,d.g⟩:=by unfold mJ;rw[htk];simp only[];rw[hgen]
    have hX:yp p i c.n=(⟨(bh p.t (mJ p i c.n)).1,p.ages,jr cs i,p.vols,p.next⟩,(bh p.t (mJ p i c.n)).2):=by unfold yp;rw[htk]
    have hsz:=JV p.t (mJ p i c.n)
    have hXs:cY (yp p i c.n).1≤4194304:=by
     have h1:=DA cs i
     rw[hX];unfold cY at hS ⊢;simp only[];omega
    have pk2:=yq (yp p i c.n).1 hXs
    rw[hmk] at tp hX
    obtain⟨T,b,hT⟩: ∃T b,bh p.t ⟨(fW p i).b,(fW p i).a,(fW p i).k,cX p.cells,d.g⟩=(T,b):=⟨_,_,rfl⟩
    rw[hT] at tp hX
    cases b with
    |false=>
     rw[PK (by rw[hX])]
     repeat' first
      |refine⟨_,_,_,_,_,_,hcp,?_⟩
      |refine⟨_,hok,?_⟩
      |refine⟨_,hin,?_⟩
      |refine⟨_,_,_,hrc,?_⟩
      |refine⟨_,_,_,tk,?_⟩
      |refine⟨_,_,_,_,_,hk,?_⟩
      |refine an cl ?_
      |refine⟨_,_,_,hrd,?_⟩
      |refine⟨_,_,_,tp,?_⟩
      |refine⟨_,fc,?_⟩
      |exact rfl
      |exact⟨rfl,by first|rfl|trivial⟩
      |refine ai (by first|rfl|(rw[aT];rfl)) ?_
      |refine an (by first|rfl|(rw[aT];rfl)) ?_
    |true=>
     cases hg:ig (yp p i c.n).1 with
     |false=>
      rw[M4 hg]
      rw[hg,hX] at pk2
      repeat' first
       |refine⟨_,_,_,_,_,_,hcp,?_⟩
       |refine⟨_,hok,?_⟩
       |refine⟨_,hin,?_⟩
       |refine⟨_,_,_,hrc,?_⟩
       |refine⟨_,_,_,tk,?_⟩
       |refine⟨_,_,_,_,_,hk,?_⟩
       |refine an cl ?_
       |refine⟨_,_,_,hrd,?_⟩
       |refine⟨_,_,_,tp,?_⟩
       |refine⟨_,fc,?_⟩
       |refine⟨_,pk2,?_⟩
       |exact rfl
       |exact⟨rfl,by first|rfl|trivial⟩
       |refine ai (by first|rfl|(rw[aT];rfl)) ?_
       |refine an (by first|rfl|(rw[aT];rfl)) ?_
     |true=>
      rw[M5 (by rw[hX]) hg,hX]
      rw[hg,hX] at pk2
      repeat' first
       |refine⟨_,_,_,_,_,_,hcp,?_⟩
       |refine⟨_,hok,?_⟩
       |refine⟨_,hin,?_⟩
       |refine⟨_,_,_,hrc,?_⟩
       |refine⟨_,_,_,tk,?_⟩
       |refine⟨_,_,_,_,_,hk,?_⟩
       |refine an cl ?_
       |refine⟨_,_,_,hrd,?_⟩
       |refine⟨_,_,_,tp,?_⟩
       |refine⟨_,fc,?_⟩
       |refine⟨_,pk2,?_⟩
       |exact rfl
       |exact⟨rfl,by first|rfl|trivial⟩
       |refine ai (by first|rfl|(rw[aT];rfl)) ?_
       |refine an (by first|rfl|(rw[aT];rfl)) ?_
   ·have cl:bI i (cX p.cells)=true:=by rw[dh];exact decide_eq_true (by omega)
    rw[pE hc fun h=>hle h.2.2]
    repeat' first
     |refine⟨_,_,_,_,_,_,hcp,?_⟩
     |refine⟨_,hok,?_⟩
     |refine⟨_,hin,?_⟩
     |refine⟨_,_,_,hrc,?_⟩
     |refine⟨_,_,_,tk,?_⟩
     |refine⟨_,_,_,_,_,hk,?_⟩
     |refine ai cl ?_
     |exact rfl
     |exact⟨rfl,by first|rfl|trivial⟩
     |refine ai (by first|rfl|(rw[aT];rfl)) ?_
     |refine an (by first|rfl|(rw[aT];rfl)) ?_
  ·rw[lq fun h=>hf h.2.2] at tk
   rw[pE hc fun h=>hf h.2.1]
   repeat' first
    |refine⟨_,_,_,_,_,_,hcp,?_⟩
    |refine⟨_,hok,?_⟩
    |refine⟨_,hin,?_⟩
    |refine⟨_,_,_,hrc,?_⟩
    |refine⟨_,_,_,tk,?_⟩
    |refine⟨_,_,_,_,_,hk,?_⟩
    |exact rfl
    |exact⟨rfl,by first|rfl|trivial⟩
    |refine ai (by first|rfl|(rw[aT];rfl)) ?_
    |refine an (by first|rfl|(rw[aT];rfl)) ?_
end Go.T.R
