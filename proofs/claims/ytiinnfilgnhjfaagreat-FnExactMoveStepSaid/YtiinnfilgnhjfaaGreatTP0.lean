/- What the functions answer. -/
import Derived.Test.YtiinnfilgnhjfaaGreatTR1
set_option linter.unusedVariables false
set_option linter.unusedSimpArgs false
set_option maxRecDepth 100000
set_option maxHeartbeats 4000000
namespace Go.T.R
open Go Go.T
theorem toKey (v0:Int) (v1:Int) (v2:Int) (v3:Int) (v4:Int):aa C BV [.ag [iI v0,iI v1,iI v2,iI v3,iI v4]] (.ag [iI v0,iI v1,iI v2,iI v3,iI v4]) []:=(M4 _ _ _ _ _ _ ⟨rfl,by first|rfl|trivial⟩).run
theorem WX (v0:Int) (v1:Int) (v2:Int) (v3:Int) (v4:Int):aa C BW [.ag [iI v0,iI v1,iI v2,iI v3,iI v4],.ag [iI v0,iI v1,iI v2,iI v3,iI v4]] (vB true) []:=by
 refine(Nb _ _ _ _ _ _ _ _ _ _ _ ?_).run
 simp
theorem V0 (l:List (Key)) (hl:l.length≤1099511627776):aa C jR [cO l] (cO l) []:=by
 refine(KX _ _ ?_).run
 simp only[List.length_map]
 refine ai (by simp;omega) ?_
 simp only[fz,xj,Int.toNat_natCast]
 refine xo (e:=bK) (z:=[iI 0,iI 0,iI 0,iI 0,iI 0]) l (fun i rows=>ah C jR aj 4 0 (oy (l.map bK) i rows) _) (fun a=>rfl) ?_ ?_
 ·exact zd _ _ _ _ (ay (by simp) (G3 _ _ _ _ _ ⟨rfl,by first|rfl|trivial⟩))
 ·intro i rows a hi ha hr hn
  refine zd _ _ _ _ (ai (by simp;omega) ⟨_,_,_,_,_,cG ha,_,_,_,_,_,toKey _ _ _ _ _,_,_,_,_,_,hr,_,_,_,_,_,hr,?_⟩)
  rw[aJ (by omega)]
  exact hn
theorem V2 (l:List (Key)) (hl:l.length≤1099511627776):aa C jS [cO l,cO l] (vB true) []:=by
 refine(Lf _ _ _ ?_).run
 refine ay (by simp) ?_
 refine bE l (fun i=>ah C jS aj 4 0 (oD (l.map bK) (l.map bK) i) _) ?_ ?_
 ·exact zz _ _ _ _ (ay (by simp) (HE _ _ _ _ _ ⟨rfl,by first|rfl|trivial⟩))
 ·intro i a hi ha _ _ hn
  refine zz _ _ _ _ (ai (by simp;omega) ⟨_,_,_,_,_,cG ha,_,_,_,_,_,cG ha,_,WX _ _ _ _ _,ay (by simp) ?_⟩)
  rw[aJ (by omega)]
  exact hn
theorem WY (v0:Int) (v1:Int):aa C BR [.ag [iI v0,iI v1]] (.ag [iI v0,iI v1]) []:=(Nc _ _ _ ⟨rfl,by first|rfl|trivial⟩).run
theorem WZ (v0:Int) (v1:Int):aa C BT [.ag [iI v0,iI v1],.ag [iI v0,iI v1]] (vB true) []:=by
 refine(MY _ _ _ _ _ ?_).run
 simp
theorem V3 (l:List (Age)) (hl:l.length≤1099511627776):aa C jL [jG l] (jG l) []:=by
 refine(KO _ _ ?_).run
 simp only[List.length_map]
 refine ai (by simp;omega) ?_
 simp only[fz,xj,Int.toNat_natCast]
 refine xo (e:=dK) (z:=[iI 0,iI 0]) l (fun i rows=>ah C jL aj 4 0 (ou (l.map dK) i rows) _) (fun a=>rfl) ?_ ?_
 ·exact yY _ _ _ _ (ay (by simp) (GL _ _ _ _ _ ⟨rfl,by first|rfl|trivial⟩))
 ·intro i rows a hi ha hr hn
  refine yY _ _ _ _ (ai (by simp;omega) ⟨_,_,cG ha,_,_,WY _ _,_,_,hr,_,_,hr,?_⟩)
  rw[aJ (by omega)]
  exact hn
theorem V4 (l:List (Age)) (hl:l.length≤1099511627776):aa C jN [jG l,jG l] (vB true) []:=by
 refine(K1 _ _ _ ?_).run
 refine ay (by simp) ?_
 refine bE l (fun i=>ah C jN aj 4 0 (oz (l.map dK) (l.map dK) i) _) ?_ ?_
 ·exact zf _ _ _ _ (ay (by simp) (G6 _ _ _ _ _ ⟨rfl,by first|rfl|trivial⟩))
 ·intro i a hi ha _ _ hn
  refine zf _ _ _ _ (ai (by simp;omega) ⟨_,_,cG ha,_,_,cG ha,_,WZ _ _,ay (by simp) ?_⟩)
  rw[aJ (by omega)]
  exact hn
theorem toCell (v0:Int) (v1:Bool) (v2:Int):aa C Ao [.ag [iI v0,iB v1,iI v2]] (.ag [iI v0,iB v1,iI v2]) []:=(Kq _ _ _ _ ⟨rfl,by first|rfl|trivial⟩).run
theorem V5 (v0:Int) (v1:Bool) (v2:Int):aa C Ap [.ag [iI v0,iB v1,iI v2],.ag [iI v0,iB v1,iI v2]] (vB true) []:=by
 refine(KD _ _ _ _ _ _ _ ?_).run
 simp
theorem UN (l:List (Cell)) (hl:l.length≤1099511627776):aa C iP [fy l] (fy l) []:=by
 refine(JO _ _ ?_).run
 simp only[List.length_map]
 refine ai (by simp;omega) ?_
 simp only[fz,xj,Int.toNat_natCast]
 refine xo (e:=bX) (z:=[iI 0,iB false,iI 0]) l (fun i rows=>ah C iP aj 4 0 (nE (l.map bX) i rows) _) (fun a=>rfl) ?_ ?_
 ·exact wM _ _ _ _ (ay (by simp) (Ff _ _ _ _ _ ⟨rfl,by first|rfl|trivial⟩))
 ·intro i rows a hi ha hr hn
  refine wM _ _ _ _ (ai (by simp;omega) ⟨_,_,_,cG ha,_,_,_,toCell _ _ _,_,_,_,hr,_,_,_,hr,?_⟩)
  rw[aJ (by omega)]
  exact hn
theorem UO (l:List (Cell)) (hl:l.length≤1099511627776):aa C iQ [fy l,fy l] (vB true) []:=by
 refine(Jj _ _ _ ?_).run
 refine ay (by simp) ?_
 refine bE l (fun i=>ah C iQ aj 4 0 (nt (l.map bX) (l.map bX) i) _) ?_ ?_
 ·exact wo _ _ _ _ (ay (by simp) (EE _ _ _ _ _ ⟨rfl,by first|rfl|trivial⟩))
 ·intro i a hi ha _ _ hn
  refine wo _ _ _ _ (ai (by simp;omega) ⟨_,_,_,cG ha,_,_,_,cG ha,_,V5 _ _ _,ay (by simp) ?_⟩)
  rw[aJ (by omega)]
  exact hn
theorem W0 (v0:ByteArray) (v1:Int) (v2:Int) (v3:Bool):aa C BS [.ag [iS v0,iI v1,iI v2,iB v3]] (.ag [iS v0,iI v1,iI v2,iB v3]) []:=(M3 _ _ _ _ _ ⟨rfl,by first|rfl|trivial⟩).run
theorem W1 (v0:ByteArray) (v1:Int) (v2:Int) (v3:Bool):aa C BU [.ag [iS v0,iI v1,iI v2,iB v3],.ag [iS v0,iI v1,iI v2,iB v3]] (vB true) []:=by
 refine(M6 _ _ _ _ _ _ _ _ _ ?_).run
 simp
theorem V6 (l:List (Vol)) (hl:l.length≤1099511627776):aa C jM [z6 l] (z6 l) []:=by
 refine(Kl _ _ ?_).run
 simp only[List.length_map]
 refine ai (by simp;omega) ?_
 simp only[fz,xj,Int.toNat_natCast]
 refine xo (e:=ek) (z:=[iS WL,iI 0,iI 0,iB false]) l (fun i rows=>ah C jM aj 4 0 (oe (l.map ek) i rows) _) (fun a=>rfl) ?_ ?_
 ·exact yL _ _ _ _ (ay (by simp) (Gb _ _ _ _ _ ⟨rfl,by first|rfl|trivial⟩))
 ·intro i rows a hi ha hr hn
  refine yL _ _ _ _ (ai (by simp;omega) ⟨_,_,_,_,cG ha,_,_,_,_,W0 _ _ _ _,_,_,_,_,hr,_,_,_,_,hr,?_⟩)
  rw[aJ (by omega)]
  exact hn
theorem V7 (l:List (Vol)) (hl:l.length≤1099511627776):aa C jO [z6 l,z6 l] (vB true) []:=by
 refine(KA _ _ _ ?_).run
 refine ay (by simp) ?_
 refine bE l (fun i=>ah C jO aj 4 0 (oq (l.map ek) (l.map ek) i) _) ?_ ?_
 ·exact yQ _ _ _ _ (ay (by simp) (Gt _ _ _ _ _ ⟨rfl,by first|rfl|trivial⟩))
 ·intro i a hi ha _ _ hn
  refine yQ _ _ _ _ (ai (by simp;omega) ⟨_,_,_,_,cG ha,_,_,_,_,cG ha,_,W1 _ _ _ _,ay (by simp) ?_⟩)
  rw[aJ (by omega)]
  exact hn
theorem V8 (l:List (Int)) (hl:l.length≤1099511627776):aa C jP [pQ l] (pQ l) []:=by
 refine(KC _ _ ?_).run
 simp only[List.length_map]
 refine ai (by simp;omega) ?_
 simp only[fz,xj,Int.toNat_natCast]
 refine xo (e:=bM) (z:=[iI 0]) l (fun i rows=>ah C jP aj 4 0 (ot (l.map bM) i rows) _) (fun a=>rfl) ?_ ?_
 ·exact yS _ _ _ _ (ay (by simp) (GA _ _ _ _ _ ⟨rfl,by first|rfl|trivial⟩))
 ·intro i rows a hi ha hr hn
  refine yS _ _ _ _ (ai (by simp;omega) ⟨_,cG ha,_,hr,_,hr,?_⟩)
  rw[aJ (by omega)]
  exact hn
theorem V9 (l:List (Int)) (hl:l.length≤1099511627776):aa C jQ [pQ l,pQ l] (vB true) []:=by
 refine(KS _ _ _ ?_).run
 refine ay (by simp) ?_
 refine bE l (fun i=>ah C jQ aj 4 0 (ov (l.map bM) (l.map bM) i) _) ?_ ?_
 ·exact y6 _ _ _ _ (ay (by simp) (GV _ _ _ _ _ ⟨rfl,by first|rfl|trivial⟩))
 ·intro i a hi ha _ _ hn
  refine y6 _ _ _ _ (ai (by simp;omega) ⟨_,cG ha,_,cG ha,ay (by simp) ?_⟩)
  rw[aJ (by omega)]
  exact hn
theorem UP (l:List (List Key)) (hl:l.length≤1099511627776) (hs: ∀s∈l,s.length≤1099511627776):aa C iU [CP l] (CP l) []:=by
 refine(Jz _ _ ?_).run
 simp only[List.length_map]
 refine ai (by simp;omega) ?_
 simp only[fz,xj,Int.toNat_natCast]
 refine xo (e:=bZ) (z:=[TC.sub 5 []]) l (fun i rows=>ah C iU aj 4 0 (nw (l.map bZ) i rows) _) (fun a=>rfl) ?_ ?_
 ·exact wH _ _ _ _ (ay (by simp) (E3 _ _ _ _ _ ⟨rfl,by first|rfl|trivial⟩))
 ·intro i rows a hi ha hr hn
  refine wH _ _ _ _ (ai (by simp;omega) ⟨_,cG ha,_,V0 _ (hs _ (List.mem_of_getElem? ha)),_,hr,_,hr,?_⟩)
  rw[aJ (by omega)]
  exact hn
def CY (n:List (List Key)):Prop:=n.length≤1099511627776∧ ∀s∈n,s.length≤1099511627776
def Wa (l:List (List (List Key))):Prop:=l.length≤1099511627776∧ ∀n∈l,CY n
def LX (t:Tree):Prop:=t.lows.length≤1099511627776∧Wa t.nodes
theorem Wb (n:List (List Key)) (h:CY n):aa C Ar [fP n] (fP n) []:=(Ku _ _ ⟨_,UP n h.1 h.2,rfl,rfl⟩).run
theorem UQ (l:List (List (List Key))) (hl:l.length≤1099511627776) (hs: ∀n∈l,CY n):aa C iR [rW l] (rW l) []:=by
 refine(JE _ _ ?_).run
 simp only[List.length_map]
 refine ai (by simp;omega) ?_
 simp only[fz,xj,Int.toNat_natCast]
 refine xo (e:=aV) (z:=[TC.sub 1 []]) l (fun i rows=>ah C iR aj 4 0 (nB (l.map aV) i rows) _) (fun a=>rfl) ?_ ?_
 ·exact wJ _ _ _ _ (ay (by simp) (E5 _ _ _ _ _ ⟨rfl,by first|rfl|trivial⟩))
 ·intro i rows a hi ha hr hn
  refine wJ _ _ _ _ (ai (by simp;omega) ⟨_,cG ha,_,Wb _ (hs _ (List.mem_of_getElem? ha)),_,hr,_,hr,?_⟩)
  rw[aJ (by omega)]
  exact hn
theorem toTree (t:Tree) (h:LX t):aa C Ak [dH t] (dH t) []:=(Kz _ _ _ ⟨_,V8 _ h.1,_,UQ _ h.2.1 h.2.2,rfl,rfl⟩).run
theorem UR (l:List (List Key)) (hl:l.length≤1099511627776) (hs: ∀s∈l,s.length≤1099511627776):aa C iV [CP l,CP l] (vB true) []:=by
 refine(JL _ _ _ ?_).run
 refine ay (by simp) ?_
 refine bE l (fun i=>ah C iV aj 4 0 (nD (l.map bZ) (l.map bZ) i) _) ?_ ?_
 ·exact wL _ _ _ _ (ay (by simp) (Fe _ _ _ _ _ ⟨rfl,by first|rfl|trivial⟩))
 ·intro i a hi ha _ _ hn
  refine wL _ _ _ _ (ai (by simp;omega) ⟨_,cG ha,_,cG ha,_,V2 _ (hs _ (List.mem_of_getElem? ha)),ay (by simp) ?_⟩)
  rw[aJ (by omega)]
  exact hn
theorem Wc (n:List (List Key)) (h:CY n):aa C As [fP n,fP n] (vB true) []:=(KI _ _ _ ⟨_,UR n h.1 h.2,by simp⟩).run
theorem US (l:List (List (List Key))) (hl:l.length≤1099511627776) (hs: ∀n∈l,CY n):aa C iT [rW l,rW l] (vB true) []:=by
 refine(JP _ _ _ ?_).run
 refine ay (by simp) ?_
 refine bE l (fun i=>ah C iT aj 4 0 (nF (l.map aV) (l.map aV) i) _) ?_ ?_
 ·exact wN _ _ _ _ (ay (by simp) (Fg _ _ _ _ _ ⟨rfl,by first|rfl|trivial⟩))
 ·intro i a hi ha _ _ hn
  refine wN _ _ _ _ (ai (by simp;omega) ⟨_,cG ha,_,cG ha,_,Wc _ (hs _ (List.mem_of_getElem? ha)),ay (by simp) ?_⟩)
  rw[aJ (by omega)]
  exact hn
theorem Wd (t:Tree) (h:LX t):aa C Al [dH t,dH t] (vB true) []:=(KP _ _ _ _ _ ⟨_,V9 _ h.1,ay rfl ⟨_,US _ h.2.1 h.2.2,by simp⟩⟩).run
structure OA (p:Pool):Prop where
 t:LX p.t
 ages:p.ages.length≤1099511627776
 cells:p.cells.length≤1099511627776
 vols:p.vols.length≤1099511627776
theorem MQ (p:Pool) (h:OA p):aa C oS [ki p] (ki p) []:=(Kx _ _ _ _ _ _ _ ⟨_,_,toTree p.t h.t,_,V3 _ h.ages,_,UN _ h.cells,_,V6 _ h.vols,rfl,rfl⟩).run
theorem MR (p:Pool) (h:OA p):aa C oT [ki p,ki p] (vB true) []:=(KZ _ _ _ _ _ _ _ _ _ _ _ _ _ ⟨_,Wd p.t h.t,ay rfl ⟨_,V4 _ h.ages,ay rfl ⟨_,UO _ h.cells,ay rfl ⟨_,V7 _ h.vols,ay rfl (by simp)⟩⟩⟩⟩).run
theorem We (l:List (Int)) (left:Int) (h0:0≤left∧left≤1048576) (hl:l.length≤140737488355328):aa C Am [pQ l,vI left] (vI (kX left l.length)) []:=by
 refine(Kn _ _ _ ?_).run
 simp only[List.length_map,fz]
 rw[eE (by omega)]
 unfold kX
 simp only[dS,bL]
 by_cases h:left<(l.length:Int)
 ·rw[if_pos (by omega),if_pos h];exact⟨rfl,by first|rfl|trivial⟩
 ·rw[if_neg (by omega),if_neg h];exact⟨rfl,by first|rfl|trivial⟩
theorem Wf (l:List (Key)) (left:Int) (h0:0≤left∧left≤1048576) (hl:l.length≤140737488355328):aa C At [cO l,vI left] (vI (kX left l.length)) []:=by
 refine(KN _ _ _ ?_).run
 simp only[List.length_map,fz]
 rw[eE (by omega)]
 unfold kX
 simp only[dS,bL]
 by_cases h:left<(l.length:Int)
 ·rw[if_pos (by omega),if_pos h];exact⟨rfl,by first|rfl|trivial⟩
 ·rw[if_neg (by omega),if_neg h];exact⟨rfl,by first|rfl|trivial⟩
theorem Wg (l:List (Age)) (left:Int) (h0:0≤left∧left≤1048576) (hl:l.length≤140737488355328):aa C Aj [jG l,vI left] (vI (kX left l.length)) []:=by
 refine(Ky _ _ _ ?_).run
 simp only[List.length_map,fz]
 rw[eE (by omega)]
 unfold kX
 simp only[dS,bL]
 by_cases h:left<(l.length:Int)
 ·rw[if_pos (by omega),if_pos h];exact⟨rfl,by first|rfl|trivial⟩
 ·rw[if_neg (by omega),if_neg h];exact⟨rfl,by first|rfl|trivial⟩
theorem UT (l:List (Cell)) (left:Int) (h0:0≤left∧left≤1048576) (hl:l.length≤140737488355328):aa C xq [fy l,vI left] (vI (kX left l.length)) []:=by
 refine(JC _ _ _ ?_).run
 simp only[List.length_map,fz]
 rw[eE (by omega)]
 unfold kX
 simp only[dS,bL]
 by_cases h:left<(l.length:Int)
 ·rw[if_pos (by omega),if_pos h];exact⟨rfl,by first|rfl|trivial⟩
 ·rw[if_neg (by omega),if_neg h];exact⟨rfl,by first|rfl|trivial⟩
theorem UU (l:List (List Key)) (left:Int) (h0:0≤left∧left≤1048576) (hl:l.length≤140737488355328) (hs: ∀s∈l,s.length≤140737488355328):aa C fh [CP l,vI left] (vI (kX left (l.length+tot bJ l))) []:=by
 refine(Js _ _ _ ?_).run
 simp only[List.length_map,fz]
 rw[eE (by omega)]
 simp only[dS,bL]
 by_cases h:left<(l.length:Int)
 ·rw[if_pos (by omega)]
  refine⟨?_,by first|rfl|trivial⟩
  unfold kX
  rw[if_pos (by omega)]
 ·rw[if_neg (by omega)]
  have key: ∀cur:Int,0≤cur∧cur≤1048576→kX cur (tot bJ (l.drop 0))=kX left (l.length+tot bJ l)→ah C fh aH 4 0 (kH (l.map bZ) cur ((0:Nat):Int)) (fun x st=>aG C fh aH x st fun r fs=>r=vI (kX left (l.length+tot bJ l))∧fs=[]):=by
   refine bE l (fun i=> ∀cur:Int,0≤cur∧cur≤1048576→kX cur (tot bJ (l.drop i))=kX left (l.length+tot bJ l)→ah C fh aH 4 0 (kH (l.map bZ) cur i) _) ?_ ?_
   ·intro cur hc he
    refine wB _ _ _ _ (ay (by simp) (EU _ _ _ _ _ ⟨?_,by first|rfl|trivial⟩))
    rw[←he,List.drop_length]
    unfold kX tot
    rw[if_neg (by omega)]
    simp
   ·intro i a hi ha hd _ hn cur hc he
    rw[hd] at he
    simp only[tot] at he
    refine wB _ _ _ _ (ai (by simp;omega) ⟨_,cG ha,_,Wf a cur hc (hs a (List.mem_of_getElem? ha)),?_⟩)
    by_cases hw:cur<(bJ a:Int)
    ·refine ai (by simp[kX,bJ] at hw ⊢;omega) (ET _ ⟨?_,by first|rfl|trivial⟩)
     rw[←he]
     unfold kX
     rw[if_pos (by omega)]
    ·have hl2:kX cur (bJ a)=cur-bJ a:=if_neg hw
     refine ay (by simp[kX,bJ] at hw ⊢;omega) ?_
     rw[aJ (by omega)]
     have:=hn (cur-bJ a) (by omega) (by rw[←he];unfold kX;split<;>split<;>omega)
     rw[←hl2] at this
     exact this
  refine key (left-l.length) (by omega) ?_
  simp only[List.drop_zero]
  unfold kX
  split<;>split<;>omega
theorem PN (n:List (List Key)) (left:Int) (h0:0≤left∧left≤1048576) (hl:n.length≤140737488355328) (hs: ∀s∈n,s.length≤140737488355328):aa C Aq [fP n,vI left] (vI (kX left (aR n))) []:=by
 refine(KW _ _ _ ⟨_,UU n left h0 hl hs,?_⟩).run
 show aE _ _ _
 unfold aR
 simp only[dS,bL]
 split
 ·refine⟨?_,by first|rfl|trivial⟩
  unfold kX at*
  split<;>simp_all<;>omega
 ·simp
theorem UW (l:List (List (List Key))) (left:Int) (h0:0≤left∧left≤1048576) (hl:l.length≤140737488355328) (hs: ∀n∈l,n.length≤140737488355328∧ ∀s∈n,s.length≤140737488355328):aa C fe [rW l,vI left] (vI (kX left (l.length+tot aR l))) []:=by
 refine(Ju _ _ _ ?_).run
 simp only[List.length_map,fz]
 rw[eE (by omega)]
 simp only[dS,bL]
 by_cases h:left<(l.length:Int)
 ·rw[if_pos (by omega)]
  refine⟨?_,by first|rfl|trivial⟩
  unfold kX
  rw[if_pos (by omega)]
 ·rw[if_neg (by omega)]
  have key: ∀cur:Int,0≤cur∧cur≤1048576→kX cur (tot aR (l.drop 0))=kX left (l.length+tot aR l)→ah C fe aH 4 0 (kK (l.map aV) cur ((0:Nat):Int)) (fun x st=>aG C fe aH x st fun r fs=>r=vI (kX left (l.length+tot aR l))∧fs=[]):=by
   refine bE l (fun i=> ∀cur:Int,0≤cur∧cur≤1048576→kX cur (tot aR (l.drop i))=kX left (l.length+tot aR l)→ah C fe aH 4 0 (kK (l.map aV) cur i) _) ?_ ?_
   ·intro cur hc he
    refine wD _ _ _ _ (ay (by simp) (EX _ _ _ _ _ ⟨?_,by first|rfl|trivial⟩))
    rw[←he,List.drop_length]
    unfold kX tot
    rw[if_neg (by omega)]
    simp
   ·intro i a hi ha hd _ hn cur hc he
    rw[hd] at he
    simp only[tot] at he
    refine wD _ _ _ _ (ai (by simp;omega) ⟨_,cG ha,_,PN a cur hc (hs a (List.mem_of_getElem? ha)).1 (hs a (List.mem_of_getElem? ha)).2,?_⟩)
    by_cases hw:cur<(aR a:Int)
    ·refine ai (by simp[kX,aR] at hw ⊢;omega) (EW _ ⟨?_,by first|rfl|trivial⟩)
     rw[←he]
     unfold kX
     rw[if_pos (by omega)]
    ·have hl2:kX cur (aR a)=cur-aR a:=if_neg hw
     refine ay (by simp[kX,aR] at hw ⊢;omega) ?_
     rw[aJ (by omega)]
     have:=hn (cur-aR a) (by omega) (by rw[←he];unfold kX;split<;>split<;>omega)
     rw[←hl2] at this
     exact this
  refine key (left-l.length) (by omega) ?_
  simp only[List.drop_zero]
  unfold kX
  split<;>split<;>omega
theorem HS {a:Int} {n m:Nat} (h: ¬kX a n<0) (h0:0≤a):kX (kX a n) m=kX a (n+m):=by unfold kX at*;split<;>split<;>split<;>simp_all<;>omega
theorem MS {a:Int} {n:Nat} (h: ¬kX a n<0) (h0:0≤a∧a≤1048576):0≤kX a n∧kX a n≤1048576:=by unfold kX at*;split<;>simp_all<;>omega
theorem HT {a:Int} {n m:Nat} (h:kX a n<0) (h0:0≤a):kX a (n+m)= -1:=by unfold kX at*;split<;>simp_all<;>omega
structure Tu (t:Tree):Prop where
 lows:t.lows.length≤140737488355328
 nodes:t.nodes.length≤140737488355328
 node: ∀n∈t.nodes,n.length≤140737488355328∧ ∀s∈n,s.length≤140737488355328
theorem PO (t:Tree) (left:Int) (h0:0≤left∧left≤1048576) (h:Tu t):aa C Ai [dH t,vI left] (vI (kX left (dO t))) []:=by
 refine(Kk _ _ _ _ ⟨_,We _ left h0 h.lows,?_⟩).run
 unfold dO o9
 refine o8 (fun hb=> ?_) fun hb=>⟨_,UW _ _ (MS (by simpa using hb) h0) h.nodes h.node,?_⟩
 ·rw[HT (by simpa using hb) h0.1];exact⟨rfl,by first|rfl|trivial⟩
 ·have hb: ¬kX left t.lows.length<0:=by simpa using hb
  rw[HS hb h0.1]
  refine o8 (fun hc=> ?_) fun hc=>⟨rfl,by first|rfl|trivial⟩
  refine⟨?_,by first|rfl|trivial⟩
  have hc:kX left (t.lows.length+(t.nodes.length+tot aR t.nodes))<0:=by simpa using hc
  unfold kX at*
  split<;>simp_all<;>omega
theorem Rw (s:ByteArray) (a z:Int) (f:Bool) (left:Int) (h0:0≤left∧left≤1048576) (hl:s.size≤140737488355328):aa C BQ [.ag [iS s,iI a,iI z,iB f],vI left] (vI (kX left s.size)) []:=by
 refine(M5 _ _ _ _ _ _ ?_).run
 simp only[D5,fz]
 rw[eE (by omega)]
 unfold kX
 simp only[dS,bL]
 by_cases h:left<(s.size:Int)
 ·rw[if_pos (by omega),if_pos h];exact⟨rfl,by first|rfl|trivial⟩
 ·rw[if_neg (by omega),if_neg h];exact⟨rfl,by first|rfl|trivial⟩
theorem Wh (l:List (Vol)) (left:Int) (h0:0≤left∧left≤1048576) (hl:l.length≤140737488355328) (hs: ∀v∈l,v.name.size≤140737488355328):aa C gm [z6 l,vI left] (vI (kX left (l.length+tot oR l))) []:=by
 refine(K0 _ _ _ ?_).run
 simp only[List.length_map,fz]
 rw[eE (by omega)]
 simp only[dS,bL]
 by_cases h:left<(l.length:Int)
 ·rw[if_pos (by omega)]
  refine⟨?_,by first|rfl|trivial⟩
  unfold kX
  rw[if_pos (by omega)]
 ·rw[if_neg (by omega)]
  have key: ∀cur:Int,0≤cur∧cur≤1048576→kX cur (tot oR (l.drop 0))=kX left (l.length+tot oR l)→ah C gm aH 4 0 (lO (l.map ek) cur ((0:Nat):Int)) (fun x st=>aG C gm aH x st fun r fs=>r=vI (kX left (l.length+tot oR l))∧fs=[]):=by
   refine bE l (fun i=> ∀cur:Int,0≤cur∧cur≤1048576→kX cur (tot oR (l.drop i))=kX left (l.length+tot oR l)→ah C gm aH 4 0 (lO (l.map ek) cur i) _) ?_ ?_
   ·intro cur hc he
    refine ze _ _ _ _ (ay (by simp) (G5 _ _ _ _ _ ⟨?_,by first|rfl|trivial⟩))
    rw[←he,List.drop_length]
    unfold kX tot
    rw[if_neg (by omega)]
    simp
   ·intro i a hi ha hd _ hn cur hc he
    rw[hd] at he
    simp only[tot] at he
    refine ze _ _ _ _ (ai (by simp;omega) ⟨_,_,_,_,cG ha,_,Rw _ _ _ _ cur hc (hs a (List.mem_of_getElem? ha)),?_⟩)
    by_cases hw:cur<(oR a:Int)
    ·refine ai (by simp[kX,oR] at hw ⊢;omega) (G4 _ ⟨?_,by first|rfl|trivial⟩)
     rw[←he]
     unfold kX
     rw[if_pos (by omega)]
    ·have hl2:kX cur (oR a)=cur-oR a:=if_neg hw
     refine ay (by simp[kX,oR] at hw ⊢;omega) ?_
     rw[aJ (by omega)]
     have:=hn (cur-oR a) (by omega) (by rw[←he];unfold kX;split<;>split<;>omega)
     rw[←hl2] at this
     exact this
  refine key (left-l.length) (by omega) ?_
  simp only[List.drop_zero]
  unfold kX
  split<;>split<;>omega
structure QM (p:Pool):Prop where
 t:Tu p.t
 ages:p.ages.length≤140737488355328
 cells:p.cells.length≤140737488355328
 vols:p.vols.length≤140737488355328
 vol: ∀v∈p.vols,v.name.size≤140737488355328
 siz: ∀v∈p.vols,v.size≤9223372036854775807
theorem PR (p:Pool) (left:Int) (h0:0≤left∧left≤1048576) (h:QM p):aa C Ah [ki p,vI left] (vI (kX left (eF p))) []:=by
 refine(KY _ _ _ _ _ _ _ _ ⟨_,PO p.t left h0 h.t,?_⟩).run
 unfold eF Eb
 refine o8 (fun hb=> ?_) fun hb=>⟨_,Wg _ _ (MS (by simpa using hb) h0) h.ages,?_⟩
 ·rw[Nat.add_assoc,Nat.add_assoc,HT (by simpa using hb) h0.1];exact⟨rfl,by first|rfl|trivial⟩
 rw[HS (by simpa using hb) h0.1]
 refine o8 (fun hb=> ?_) fun hb=>⟨_,UT _ _ (MS (by simpa using hb) h0) h.cells,?_⟩
 ·rw[Nat.add_assoc,HT (by simpa using hb) h0.1];exact⟨rfl,by first|rfl|trivial⟩
 rw[HS (by simpa using hb) h0.1]
 refine o8 (fun hb=> ?_) fun hb=>⟨_,Wh _ _ (MS (by simpa using hb) h0) h.vols h.vol,?_⟩
 ·rw[HT (by simpa using hb) h0.1];exact⟨rfl,by first|rfl|trivial⟩
 rw[HS (by simpa using hb) h0.1]
 refine o8 (fun hc=> ?_) fun hc=>⟨rfl,by first|rfl|trivial⟩
 refine⟨?_,by first|rfl|trivial⟩
 have hc:kX left (dO p.t+p.ages.length+p.cells.length+(p.vols.length+tot oR p.vols))<0:=by simpa using hc
 unfold kX at*
 split<;>simp_all<;>omega
theorem r6 (a b c:Int):aa C cV [vI a,vI b,vI c] (vB (iJ a b c)) []:=by
 refine(K3 _ _ _ _ ?_).run
 simp only[g7,bL,iJ]
 split<;>simp_all<;>omega
theorem Au (a b c:Int):aa C en [vI a,vI b,vI c] (vB (iJ a b c)) []:=by
 refine(OI _ _ _ _ ?_).run
 simp only[g7,bL,iJ]
 split<;>simp_all<;>omega
@[simp] theorem qw (a b c:Int) (q:Bool):aa C cV [vI a,vI b,vI c] (vB q) []↔q=iJ a b c:=rj (r6 a b c)
@[simp] theorem Av (a b c:Int) (q:Bool):aa C en [vI a,vI b,vI c] (vB q) []↔q=iJ a b c:=rj (Au a b c)
theorem I7 (b a k c g:Int):aa C r5 [.ag [iI b,iI a,iI k,iI c,iI g]] (vB (fR ⟨b,a,k,c,g⟩)) []:=by
 refine(Nf _ _ _ _ _ _ ?_).run
 simp only[qw,exists_eq_left,fR,bw,bO,bL]
 cases iJ b 0 15<;>cases iJ a 1 60<;>cases iJ k 0 2<;>by_cases h:k=1<;>by_cases h1:c=0<;>by_cases h2:g=0<;>cases iJ c 0 23<;>simp_all
theorem I8 (b a k c g:Int):aa C rZ [.ag [iI b,iI a,iI k,iI c,iI g]] (vB (fR ⟨b,a,k,c,g⟩)) []:=by
 refine(MZ _ _ _ _ _ _ ?_).run
 simp only[Av,exists_eq_left,fR,bw,bO,bL]
 cases iJ b 0 15<;>cases iJ a 1 60<;>cases iJ k 0 2<;>by_cases h:k=1<;>by_cases h1:c=0<;>by_cases h2:g=0<;>cases iJ c 0 23<;>simp_all
@[simp] theorem CZ (b a k c g:Int) (q:Bool):aa C r5 [.ag [iI b,iI a,iI k,iI c,iI g]] (vB q) []↔q=fR ⟨b,a,k,c,g⟩:=rj (I7 b a k c g)
@[simp] theorem C0 (b a k c g:Int) (q:Bool):aa C rZ [.ag [iI b,iI a,iI k,iI c,iI g]] (vB q) []↔q=fR ⟨b,a,k,c,g⟩:=rj (I8 b a k c g)
@[simp] theorem Aw (b a k c g b' a' k' c' g':Int) (q:Bool):aa C rB [.ag [iI b,iI a,iI k,iI c,iI g],.ag [iI b',iI a',iI k',iI c',iI g']] (vB q) []↔q=dr ⟨b,a,k,c,g⟩ ⟨b',a',k',c',g'⟩:=rj (by
  refine(JA _ _ _ _ _ _ _ _ _ _ _ ?_).run
  simp only[dS,bw,bL,dr]
  by_cases h1:b<b'<;>by_cases h2:b=b'<;>simp_all)
@[simp] theorem Ax (b a k c g b' a' k' c' g':Int) (q:Bool):aa C rz [.ag [iI b,iI a,iI k,iI c,iI g],.ag [iI b',iI a',iI k',iI c',iI g']] (vB q) []↔q=dr ⟨b,a,k,c,g⟩ ⟨b',a',k',c',g'⟩:=rj (by
  refine(Jr _ _ _ _ _ _ _ _ _ _ _ ?_).run
  simp only[dS,bw,bO,bL,dr]
  by_cases h2:b=b'<;>simp_all)
@[simp] theorem FN (b a k c g b' a' k' c' g':Int) (q:Bool):aa C nV [.ag [iI b,iI a,iI k,iI c,iI g],.ag [iI b',iI a',iI k',iI c',iI g']] (vB q) []↔q=kE ⟨b,a,k,c,g⟩ ⟨b',a',k',c',g'⟩:=rj (by
  refine(G2 _ _ _ _ _ _ _ _ _ _ _ ?_).run
  simp only[dS,bw,bO,bL,kE]
  by_cases h2:b=b'<;>simp_all)
@[simp] theorem FO (b a k c g b' a' k' c' g':Int) (q:Bool):aa C nU [.ag [iI b,iI a,iI k,iI c,iI g],.ag [iI b',iI a',iI k',iI c',iI g']] (vB q) []↔q=kE ⟨b,a,k,c,g⟩ ⟨b',a',k',c',g'⟩:=rj (by
  refine(GK _ _ _ _ _ _ _ _ _ _ _ ?_).run
  simp only[dS,bw,bO,bL,kE]
  by_cases h2:b=b'<;>simp_all)
theorem lF (l:List Key) (x:Key) (hl:l.length≤1073741824):aa C aY [cO l,zB x] (cO (eH l x)) []:=by
 refine(KG _ _ _ _ _ _ _ ?_).run
 have key: ∀(put:Bool) (acc:List Key),acc.length+(l.drop 0).length≤l.length+(if put then 1 else 0)→acc++eG x put (l.drop 0)=eH l x→ah C aY aH 4 0 (eC (l.map bK) put ((0:Nat):Int) x.b x.a x.k x.c x.g (acc.map bK)) (fun u st=>aG C aY aH u st fun r fs=>r=cO (eH l x)∧fs=[]):=by
  refine bE l (fun i=> ∀(put:Bool) (acc:List Key),acc.length+(l.drop i).length≤l.length+(if put then 1 else 0)→acc++eG x put (l.drop i)=eH l x→ah C aY aH 4 0 (eC (l.map bK) put i x.b x.a x.k x.c x.g (acc.map bK)) _) ?_ ?_
  ·intro put acc hb he
   refine yV _ _ _ _ _ _ _ _ _ _ (ay (by simp) (GH _ _ _ _ _ _ _ _ _ _ _ ?_))
   simp only[A7,dV,oK,Bool.true_and,bO,dw,List.length_map]
   have hb2:acc.length≤l.length+1:=by simp at hb;split at hb<;>omega
   rw[cX (by omega)]
   rw[List.drop_length] at he
   cases put<;>simp[eG] at he ⊢ <;>rw[←he]<;>simp
  ·intro i a hi ha hd _ hn put acc hb he
   rw[hd] at hb he
   simp only[List.length_cons] at hb
   have hb':acc.length+(List.drop (i+1) l).length+1≤l.length+1:=by split at hb<;>omega
   refine yV _ _ _ _ _ _ _ _ _ _ (ai (by simp;omega) ?_)
   simp only[mo,aK,ha,Option.some.injEq,exists_eq_left',Ax,FO,exists_eq_left,bO,dV,A7,oK,Bool.true_and,dw,List.length_map,List.length_append,List.length_singleton]
   simp (disch:=omega) only[cX,aJ,lB]
   simp only[eG] at he
   cases put<;>cases hk:dr a x<;>cases hs:kE a x<;>simp only[lB,lC]<;>simp[hk,hs] at he hb<;>exact hn _ _ (by simp at hb ⊢;omega) (by simpa using he)
 exact key false [] (by simp) rfl
@[simp] theorem J8 (l:List Key) (hl:l.length≤1073741824) (b a k c g:Int) (q:RR):aa C aY [.c (.sub 5 (l.map bK)),.ag [iI b,iI a,iI k,iI c,iI g]] (.c (.sub 5 q)) []↔q=(eH l ⟨b,a,k,c,g⟩).map bK:=Oc (lF l ⟨b,a,k,c,g⟩ hl)
theorem oc (l:List Key) (x:Key) (hl:l.length≤1073741824):aa C cA [cO l,zB x] (cO (eH l x)) []:=by
 refine(Le _ _ _ _ _ _ _ ?_).run
 have key: ∀(put:Bool) (acc:List Key),acc.length+(l.drop 0).length≤l.length+(if put then 1 else 0)→acc++eG x put (l.drop 0)=eH l x→ah C cA aH 4 0 (eD put (l.map bK) ((0:Nat):Int) x.b x.a x.k x.c x.g (acc.map bK)) (fun u st=>aG C cA aH u st fun r fs=>r=cO (eH l x)∧fs=[]):=by
  refine bE l (fun i=> ∀(put:Bool) (acc:List Key),acc.length+(l.drop i).length≤l.length+(if put then 1 else 0)→acc++eG x put (l.drop i)=eH l x→ah C cA aH 4 0 (eD put (l.map bK) i x.b x.a x.k x.c x.g (acc.map bK)) _) ?_ ?_
  ·intro put acc hb he
   refine zy _ _ _ _ _ _ _ _ _ _ (ay (by simp) (HC _ _ _ _ _ _ _ _ _ _ _ _ ?_))
   simp only[A7,dV,oK,Bool.true_and,bO,dw,List.length_map]
   have hb2:acc.length≤l.length+1:=by simp at hb;split at hb<;>omega
   rw[cX (by omega)]
   rw[List.drop_length] at he
   cases put<;>simp[eG] at he ⊢ <;>rw[←he]<;>simp
  ·intro i a hi ha hd _ hn put acc hb he
   rw[hd] at hb he
   simp only[List.length_cons] at hb
   have hb':acc.length+(List.drop (i+1) l).length+1≤l.length+1:=by split at hb<;>omega
   refine zy _ _ _ _ _ _ _ _ _ _ (ai (by simp;omega) ?_)
   simp only[mo,aK,ha,Option.some.injEq,exists_eq_left',Aw,FN,exists_eq_left,bO,dV,A7,oK,Bool.true_and,dw,List.length_map,List.length_append,List.length_singleton]
   simp (disch:=omega) only[cX,aJ,lB]
   simp only[eG] at he
   cases put<;>cases hk:dr a x<;>cases hs:kE a x<;>simp only[lB,lC]<;>simp[hk,hs] at he hb<;>exact hn _ _ (by simp at hb ⊢;omega) (by simpa using he)
 exact key false [] (by simp) rfl
@[simp] theorem J9 (l:List Key) (hl:l.length≤1073741824) (b a k c g:Int) (q:RR):aa C cA [.c (.sub 5 (l.map bK)),.ag [iI b,iI a,iI k,iI c,iI g]] (.c (.sub 5 q)) []↔q=(eH l ⟨b,a,k,c,g⟩).map bK:=Oc (oc l ⟨b,a,k,c,g⟩ hl)
theorem BX (old new:List Key) (hl:old.length+new.length≤1073741824):aa C dF [cO old,cO new] (cO (cC old new)) []:=by
 refine(Fc _ _ _ ?_).run
 rw[jw,cX (by simp;omega)]
 refine ai rfl ?_
 have key: ∀(acc:List Key),acc.length+(new.drop 0).length≤old.length+new.length→cC acc (new.drop 0)=cC old new→ah C dF aj 4 0 (jm (new.map bK) ((0:Nat):Int) (acc.map bK)) (fun u st=>aG C dF aj u st fun r fs=>r=(cO (cC old new))∧fs=[]):=by
  refine bE new (fun i=> ∀(acc:List Key),acc.length+(new.drop i).length≤old.length+new.length→cC acc (new.drop i)=cC old new→ah C dF aj 4 0 (jm (new.map bK) i (acc.map bK)) (fun u st=>aG C dF aj u st fun r fs=>r=(cO (cC old new))∧fs=[])) ?_ ?_
  ·intro acc h0 h1
   refine sK _ _ _ _ (ay (by simp) (Ck _ _ _ _ _ ?_))
   rw[List.drop_length] at h1
   rw[←h1]
   exact⟨rfl,by first|rfl|trivial⟩
  ·intro i a hi ha hd ht hn acc h0 h1
   refine sK _ _ _ _ (ai (by simp;omega) ?_)
   rw[hd] at h0 h1
   simp only[List.length_cons] at h0
   simp only[mo,J8 acc (by omega),aK,ha,Option.some.injEq,exists_eq_left',exists_eq_left,bO,fI,iL,dV,fJ,ef,fK,fM,iN,dw,natAdd,List.length_map,List.length_append,List.length_singleton,Bool.true_and,Bool.and_true]
   rw[aJ (by omega)]
   have h2:=m4 acc a
   exact hn _ (by omega) (by rw[←h1];rfl)
 exact key old (by simp) rfl
theorem Ee (old new:List Key) (hl:old.length+new.length≤1073741824) (q:RR):aa C dF [cO old,cO new] (.c (.sub 5 q)) []↔q=(cC old new).map bK:=Oc (BX old new hl)
theorem vj (l:List Key) (hl:l.length≤1073741824):aa C bT [cO l] (cO (mw l)) []:=by
 refine(OH _ _ ?_).run
 have key: ∀(acc:List Key),acc.length+(l.drop 0).length≤l.length→acc++mw (l.drop 0)=mw l→ah C bT aj 4 0 (lZ (l.map bK) ((0:Nat):Int) (acc.map bK)) (fun u st=>aG C bT aj u st fun r fs=>r=(cO (mw l))∧fs=[]):=by
  refine bE l (fun i=> ∀(acc:List Key),acc.length+(l.drop i).length≤l.length→acc++mw (l.drop i)=mw l→ah C bT aj 4 0 (lZ (l.map bK) i (acc.map bK)) (fun u st=>aG C bT aj u st fun r fs=>r=(cO (mw l))∧fs=[])) ?_ ?_
  ·intro acc h0 h1
   refine Bu _ _ _ _ (ay (by simp) (Ks _ _ _ _ _ ?_))
   rw[List.drop_length] at h1
   simp[mw] at h1
   simp[mw,h1]
  ·intro i a hi ha hd ht hn acc h0 h1
   refine Bu _ _ _ _ (ai (by simp;omega) ?_)
   rw[hd] at h0 h1
   simp only[List.length_cons] at h0
   simp only[mo,A7,oK,bw,bL,aK,ha,Option.some.injEq,exists_eq_left',exists_eq_left,bO,fI,iL,dV,fJ,ef,fK,fM,iN,dw,natAdd,List.length_map,List.length_append,List.length_singleton,Bool.true_and,Bool.and_true]
   simp (disch:=omega) only[cX,aJ,lB]
   by_cases hk:a.k=0
   ·rw[if_pos hk]
    exact hn _ (by omega) (by rw[←h1];simp[mw,hk])
   ·rw[if_neg hk]
    exact hn (acc++[a]) (by simp only[List.length_append,List.length_singleton];omega) (by rw[←h1];simp[mw,hk])
 exact key [] (by simp) rfl
theorem tI (n:List (List Key)) (hb:n.length≤1073741824) (hl:tot bJ n≤1073741824):aa C aI [fP n] (cO (aO n)) []:=by
 refine(GY _ _ ?_).run
 have key: ∀(acc:List Key),acc.length+tot bJ (n.drop 0)≤tot bJ n→(n.drop 0).foldl cC acc=rI n→ah C aI aj 4 0 (jY ((0:Nat):Int) (n.map bZ) (acc.map bK)) (fun u st=>aG C aI aj u st fun r fs=>r=(cO (aO n))∧fs=[]):=by
  refine bE n (fun i=> ∀(acc:List Key),acc.length+tot bJ (n.drop i)≤tot bJ n→(n.drop i).foldl cC acc=rI n→ah C aI aj 4 0 (jY i (n.map bZ) (acc.map bK)) (fun u st=>aG C aI aj u st fun r fs=>r=(cO (aO n))∧fs=[])) ?_ ?_
  ·intro acc h0 h1
   refine uL _ _ _ _ (ay (by simp) (Dx _ _ _ _ _ ?_))
   rw[List.drop_length] at h0 h1
   simp only[List.foldl_nil] at h1
   refine⟨_,vj acc (by omega),?_⟩
   rw[h1]
   exact⟨rfl,by first|rfl|trivial⟩
  ·intro i a hi ha hd ht hn acc h0 h1
   refine uL _ _ _ _ (ai (by simp;omega) ?_)
   rw[hd] at h0 h1
   simp only[tot,bJ] at h0
   simp only[rX,Ee acc a (by omega),aK,ha,Option.some.injEq,exists_eq_left',exists_eq_left,bO,fI,iL,dV,fJ,ef,fK,fM,iN,dw,natAdd,List.length_map,List.length_append,List.length_singleton,Bool.true_and,Bool.and_true]
   rw[aJ (by omega)]
   have h2:=qh a acc
   exact hn _ (by omega) (by rw[←h1];rfl)
 exact key [] (by simp) rfl
theorem dU (n:List (List Key)) (hb:n.length≤1073741824) (hl:tot bJ n≤1073741824) (q:RR):aa C aI [.ag [.sub 1 (n.map bZ)]] (.c (.sub 5 q)) []↔q=(aO n).map bK:=Oc (tI n hb hl)
theorem pF (t:Tree) (hl:dO t≤1073741824):aa C dJ [dH t] (cO (aW t)) []:=by
 refine(GU _ _ _ ?_).run
 have key: ∀(acc:List Key),acc.length+tot aR (t.nodes.drop 0)≤tot aR t.nodes→acc++(t.nodes.drop 0).flatMap aO=aW t→ah C dJ aj 4 0 (jX ((0:Nat):Int) (t.lows.map bM) (t.nodes.map aV) (acc.map bK)) (fun u st=>aG C dJ aj u st fun r fs=>r=(cO (aW t))∧fs=[]):=by
  refine bE t.nodes (fun i=> ∀(acc:List Key),acc.length+tot aR (t.nodes.drop i)≤tot aR t.nodes→acc++(t.nodes.drop i).flatMap aO=aW t→ah C dJ aj 4 0 (jX i (t.lows.map bM) (t.nodes.map aV) (acc.map bK)) (fun u st=>aG C dJ aj u st fun r fs=>r=(cO (aW t))∧fs=[])) ?_ ?_
  ·intro acc h0 h1
   refine uK _ _ _ _ _ (ay (by simp) (Dw _ _ _ _ _ _ ?_))
   rw[List.drop_length] at h1
   simp at h1
   simp[h1]
  ·intro i a hi ha hd ht hn acc h0 h1
   refine uK _ _ _ _ _ (ai (by have:=hi;unfold dO o9 at hl;simp;omega) ?_)
   have hz:a.length+tot bJ a≤tot aR t.nodes:=jI (w:=aR) ha
   rw[hd] at h0 h1
   simp only[tot,aR] at h0
   unfold dO o9 at hl
   have h2:=cL a
   simp only[QD,q9,dU a (by omega) (by omega),jw,aK,ha,Option.some.injEq,exists_eq_left',exists_eq_left,bO,fI,iL,dV,fJ,ef,fK,fM,iN,dw,natAdd,List.length_map,List.length_append,List.length_singleton,Bool.true_and,Bool.and_true]
   rw[cX (by omega),aJ (by omega)]
   refine ai rfl ?_
   rw[←List.map_append]
   exact hn _ (by simp;omega) (by rw[←h1];simp)
 exact key [] (by simp) rfl
theorem mA (l:List Key) (hl:l.length≤2147483648):aa C lY [cO l] (cO l) []:=by
 refine(Gp _ _ ?_).run
 rw[jw,cX (by simp;omega)]
 exact⟨rfl,by first|rfl|trivial⟩
theorem BY (old new:List Key) (hl:old.length+new.length≤1073741824):aa C dG [cO old,cO new] (cO (cC old new)) []:=by
 refine(ES _ _ _ ?_).run
 refine⟨_,mA old (by omega),?_⟩
 have key: ∀(acc:List Key),acc.length+(new.drop 0).length≤old.length+new.length→cC acc (new.drop 0)=cC old new→ah C dG aj 4 0 (jl (new.map bK) ((0:Nat):Int) (acc.map bK)) (fun u st=>aG C dG aj u st fun r fs=>r=(cO (cC old new))∧fs=[]):=by
  refine bE new (fun i=> ∀(acc:List Key),acc.length+(new.drop i).length≤old.length+new.length→cC acc (new.drop i)=cC old new→ah C dG aj 4 0 (jl (new.map bK) i (acc.map bK)) (fun u st=>aG C dG aj u st fun r fs=>r=(cO (cC old new))∧fs=[])) ?_ ?_
  ·intro acc h0 h1
   refine sE _ _ _ _ (ay (by simp) (Ce _ _ _ _ _ _ ?_))
   rw[List.drop_length] at h1
   rw[←h1]
   exact⟨rfl,by first|rfl|trivial⟩
  ·intro i a hi ha hd ht hn acc h0 h1
   refine sE _ _ _ _ (ai (by simp;omega) ?_)
   rw[hd] at h0 h1
   simp only[List.length_cons] at h0
   simp only[mo,J9 acc (by omega),aK,ha,Option.some.injEq,exists_eq_left',exists_eq_left,bO,fI,iL,dV,fJ,ef,fK,fM,iN,dw,natAdd,List.length_map,List.length_append,List.length_singleton,Bool.true_and,Bool.and_true]
   rw[aJ (by omega)]
   have h2:=m4 acc a
   exact hn _ (by omega) (by rw[←h1];rfl)
 exact key old (by simp) rfl
theorem Ef (old new:List Key) (hl:old.length+new.length≤1073741824) (q:RR):aa C dG [cO old,cO new] (.c (.sub 5 q)) []↔q=(cC old new).map bK:=Oc (BY old new hl)
theorem Bm (l:List Key) (hl:l.length≤1073741824):aa C ie [cO l] (cO (mw l)) []:=by
 refine(OJ _ _ ?_).run
 have key: ∀(acc:List Key),acc.length+(l.drop 0).length≤l.length→acc++mw (l.drop 0)=mw l→ah C ie aj 4 0 (me (l.map bK) ((0:Nat):Int) (acc.map bK)) (fun u st=>aG C ie aj u st fun r fs=>r=(cO (mw l))∧fs=[]):=by
  refine bE l (fun i=> ∀(acc:List Key),acc.length+(l.drop i).length≤l.length→acc++mw (l.drop i)=mw l→ah C ie aj 4 0 (me (l.map bK) i (acc.map bK)) (fun u st=>aG C ie aj u st fun r fs=>r=(cO (mw l))∧fs=[])) ?_ ?_
  ·intro acc h0 h1
   refine Bv _ _ _ _ (ay (by simp) (KM _ _ _ _ _ _ ?_))
   rw[List.drop_length] at h1
   simp[mw] at h1
   simp[mw,h1]
  ·intro i a hi ha hd ht hn acc h0 h1
   refine Bv _ _ _ _ (ai (by simp;omega) ?_)
   rw[hd] at h0 h1
   simp only[List.length_cons] at h0
   simp only[mo,A7,oK,bw,bL,aK,ha,Option.some.injEq,exists_eq_left',exists_eq_left,bO,fI,iL,dV,fJ,ef,fK,fM,iN,dw,natAdd,List.length_map,List.length_append,List.length_singleton,Bool.true_and,Bool.and_true]
   simp (disch:=omega) only[cX,aJ,lB]
   by_cases hk:a.k=0
   ·rw[if_pos hk]
    exact hn _ (by omega) (by rw[←h1];simp[mw,hk])
   ·rw[if_neg hk]
    exact hn (acc++[a]) (by simp only[List.length_append,List.length_singleton];omega) (by rw[←h1];simp[mw,hk])
 exact key [] (by simp) rfl
theorem C1 (n:List (List Key)) (hb:n.length≤1073741824) (hl:tot bJ n≤1073741824):aa C cm [fP n] (cO (aO n)) []:=by
 refine(GZ _ _ ?_).run
 have key: ∀(acc:List Key),acc.length+tot bJ (n.drop 0)≤tot bJ n→(n.drop 0).foldl cC acc=rI n→ah C cm aj 4 0 (jZ (n.map bZ) ((0:Nat):Int) (acc.map bK)) (fun u st=>aG C cm aj u st fun r fs=>r=(cO (aO n))∧fs=[]):=by
  refine bE n (fun i=> ∀(acc:List Key),acc.length+tot bJ (n.drop i)≤tot bJ n→(n.drop i).foldl cC acc=rI n→ah C cm aj 4 0 (jZ (n.map bZ) i (acc.map bK)) (fun u st=>aG C cm aj u st fun r fs=>r=(cO (aO n))∧fs=[])) ?_ ?_
  ·intro acc h0 h1
   refine uM _ _ _ _ (ay (by simp) (Dy _ _ _ _ _ _ ?_))
   rw[List.drop_length] at h0 h1
   simp only[List.foldl_nil] at h1
   refine⟨_,Bm acc (by omega),?_⟩
   rw[h1]
   exact⟨rfl,by first|rfl|trivial⟩
  ·intro i a hi ha hd ht hn acc h0 h1
   refine uM _ _ _ _ (ai (by simp;omega) ?_)
   rw[hd] at h0 h1
   simp only[tot,bJ] at h0
   simp only[rX,Ef acc a (by omega),aK,ha,Option.some.injEq,exists_eq_left',exists_eq_left,bO,fI,iL,dV,fJ,ef,fK,fM,iN,dw,natAdd,List.length_map,List.length_append,List.length_singleton,Bool.true_and,Bool.and_true]
   rw[aJ (by omega)]
   have h2:=qh a acc
   exact hn _ (by omega) (by rw[←h1];rfl)
 exact key [] (by simp) rfl
theorem iw (n:List (List Key)) (hb:n.length≤1073741824) (hl:tot bJ n≤1073741824) (q:RR):aa C cm [.ag [.sub 1 (n.map bZ)]] (.c (.sub 5 q)) []↔q=(aO n).map bK:=Oc (C1 n hb hl)
theorem tJ (t:Tree) (hl:dO t≤1073741824):aa C dX [dH t] (cO (aW t)) []:=by
 refine(Gz _ _ _ ?_).run
 have key: ∀(acc:List Key),acc.length+tot aR (t.nodes.drop 0)≤tot aR t.nodes→acc++(t.nodes.drop 0).flatMap aO=aW t→ah C dX aj 4 0 (jV (t.nodes.map aV) ((0:Nat):Int) (acc.map bK)) (fun u st=>aG C dX aj u st fun r fs=>r=(cO (aW t))∧fs=[]):=by
  refine bE t.nodes (fun i=> ∀(acc:List Key),acc.length+tot aR (t.nodes.drop i)≤tot aR t.nodes→acc++(t.nodes.drop i).flatMap aO=aW t→ah C dX aj 4 0 (jV (t.nodes.map aV) i (acc.map bK)) (fun u st=>aG C dX aj u st fun r fs=>r=(cO (aW t))∧fs=[])) ?_ ?_
  ·intro acc h0 h1
   refine uE _ _ _ _ (ay (by simp) (Dn _ _ _ _ _ _ ?_))
   rw[List.drop_length] at h1
   simp at h1
   simp[h1]
  ·intro i a hi ha hd ht hn acc h0 h1
   refine uE _ _ _ _ (ai (by have:=hi;unfold dO o9 at hl;simp;omega) ?_)
   have hz:a.length+tot bJ a≤tot aR t.nodes:=jI (w:=aR) ha
   rw[hd] at h0 h1
   simp only[tot,aR] at h0
   unfold dO o9 at hl
   have h2:=cL a
   simp only[QD,q9,iw a (by omega) (by omega),jw,aK,ha,Option.some.injEq,exists_eq_left',exists_eq_left,bO,fI,iL,dV,fJ,ef,fK,fM,iN,dw,natAdd,List.length_map,List.length_append,List.length_singleton,Bool.true_and,Bool.and_true]
   rw[cX (by omega),aJ (by omega)]
   refine ai rfl ?_
   rw[←List.map_append]
   exact hn _ (by simp;omega) (by rw[←h1];simp)
 exact key [] (by simp) rfl
theorem I9 (l:List Age) (id:Int) (hl:l.length≤1073741824):aa C dR [jG l,vI id] (vI (iX l id)) []:=by
 refine(M0 _ _ _ ?_).run
 have key:jt (fun a:Age=>decide (a.id=id)) (l.drop 0) ((0:Nat):Int)=jt (fun a:Age=>decide (a.id=id)) l 0→ah C dR an 4 0 (m7 (l.map dK) id ((0:Nat):Int)) (fun u st=>aG C dR an u st fun r fs=>r=vI (iX l id)∧fs=[]):=by
  refine bE l (fun i=>jt (fun a:Age=>decide (a.id=id)) (l.drop i) (i:Int)=jt (fun a:Age=>decide (a.id=id)) l 0→ah C dR an 4 0 (m7 (l.map dK) id i) _) ?_ ?_
  ·intro h0
   refine AI _ _ _ _ (ay (by simp) (Jq _ _ _ _ _ ?_))
   rw[List.drop_length] at h0
   simp only[jt] at h0
   change _=vI (jt (fun a:Age=>decide (a.id=id)) l 0)∧_
   rw[←h0]
   exact⟨rfl,by first|rfl|trivial⟩
  ·intro i a hi ha hd htk hn h0
   refine AI _ _ _ _ (ai (by simp;omega) ?_)
   rw[hd] at h0
   simp only[jt] at h0
   simp only[u9,bw,bL,aK,ha,Option.some.injEq,exists_eq_left',exists_eq_left,bO,fI,iL,dV,fJ,ef,fK,fM,iN,dw,natAdd,List.length_map,List.length_append,List.length_singleton,Bool.true_and,Bool.and_true]
   rw[aJ (by omega)]
   split at h0
   ·rename_i hp
    have hp:=of_decide_eq_true hp
    first|rw[if_pos hp]|rw[if_pos hp.symm]
    refine Jp _ _ ?_
    rw[h0]
    exact⟨rfl,by first|rfl|trivial⟩
   ·rename_i hp
    have hp: ¬_:=fun h=>hp (decide_eq_true h)
    first|rw[if_neg hp]|rw[if_neg (fun h=>hp h.symm)]
    exact hn h0
 exact key rfl
@[simp] theorem Ja (a b id:Int) (q:Bool):aa C rA [.ag [iI a,iI b],.bx [iI id]] (vB q) []↔q=decide (a=id):=rj (by
  refine(JN _ _ _ _ ?_).run
  simp)
theorem Ka (l:List Age) (id:Int) (hl:l.length≤1073741824):aa C cu [jG l,.fn rA [[iI id]]] (vI (iX l id)) []:=by
 refine(nW _ _ _ ?_).run
 have key:jt (fun a:Age=>decide (a.id=id)) (l.drop 0) ((0:Nat):Int)=jt (fun a:Age=>decide (a.id=id)) l 0→ah C cu an 4 0 (cM (l.map dK) ((0:Nat):Int) id) (fun u st=>aG C cu an u st fun r fs=>r=vI (iX l id)∧fs=[]):=by
  refine bE l (fun i=>jt (fun a:Age=>decide (a.id=id)) (l.drop i) (i:Int)=jt (fun a:Age=>decide (a.id=id)) l 0→ah C cu an 4 0 (cM (l.map dK) i id) _) ?_ ?_
  ·intro h0
   refine iu _ _ _ _ (ay (by simp) (nI _ _ _ _ _ _ ?_))
   rw[List.drop_length] at h0
   simp only[jt] at h0
   change _=vI (jt (fun a:Age=>decide (a.id=id)) l 0)∧_
   rw[←h0]
   exact⟨rfl,by first|rfl|trivial⟩
  ·intro i a hi ha hd htk hn h0
   refine iu _ _ _ _ (ai (by simp;omega) ?_)
   rw[hd] at h0
   simp only[jt] at h0
   simp only[u9,bw,Ja,bL,aK,ha,Option.some.injEq,exists_eq_left',exists_eq_left,bO,fI,iL,dV,fJ,ef,fK,fM,iN,dw,natAdd,List.length_map,List.length_append,List.length_singleton,Bool.true_and,Bool.and_true]
   rw[aJ (by omega)]
   split at h0
   ·rename_i hp
    have hp:=of_decide_eq_true hp
    first|rw[if_pos hp]|rw[if_pos hp.symm]
    refine nH _ _ _ ?_
    rw[h0]
    exact⟨rfl,by first|rfl|trivial⟩
   ·rename_i hp
    have hp: ¬_:=fun h=>hp (decide_eq_true h)
    first|rw[if_neg hp]|rw[if_neg (fun h=>hp h.symm)]
    exact hn h0
 exact key rfl
theorem Jb (l:List Age) (id:Int) (hl:l.length≤1073741824):aa C jj [jG l,vI id] (vI (iX l id)) []:=(M7 _ _ _ ⟨_,Ka l id hl,rfl,by first|rfl|trivial⟩).run
theorem xy (l:List Age) (id:Int) (hl:l.length≤1073741824) (q:Int):aa C dR [jG l,vI id] (vI q) []↔q=iX l id:=Te (I9 l id hl)
theorem xz (l:List Age) (id:Int) (hl:l.length≤1073741824) (q:Int):aa C jj [jG l,vI id] (vI q) []↔q=iX l id:=Te (Jb l id hl)
@[simp] theorem Bn (a:Int) (q:Bool):aa C tF [vI a] (vB q) []↔q=mu a:=rj ((K4 _ _ ⟨_,Au _ _ _,rfl,by first|rfl|trivial⟩).run)
theorem FP (l:List Cell) (i gen:Int) (hl:l.length≤1073741824):aa C qt [fy l,vI i,vI gen] (XH (cellAt l i gen)) []:=by
 refine(KJ _ _ _ _ ?_).run
 simp only[Av,exists_eq_left,List.length_map,Int.ofNat_eq_natCast,bO,kk]
 rw[eE (by omega)]
 by_cases h:0≤i∧i<l.length
 ·obtain⟨a,ha⟩:=qa h.1 h.2
  have e:iJ i 0 ((l.length:Int)-1)=true:=decide_eq_true (by omega)
  simp only[e,lB,ha,Option.some.injEq,exists_eq_left',bw,bL,cellAt]
  cases h1:a.u<;>by_cases h2:a.g=gen<;>simp[h1,h2]
 ·have e:iJ i 0 ((l.length:Int)-1)=false:=decide_eq_false (by omega)
  have hn:fu l i=none:=nj h
  simp[e,cellAt,hn]
theorem Kb (l:List Cell) (hl:l.length≤1073741824) (i gen:Int) (n:Int) (q:Bool):aa C qt [fy l,vI i,vI gen] (.tu [(0,[iI n]),(0,[iB q])]) []↔n=(cellAt l i gen).1∧q=(cellAt l i gen).2:=Vf (FP l i gen hl)
theorem BZ (l:List Cell) (hl:l.length≤1073741824):aa C dB [fy l] (vI (bF l)) []:=by
 refine(Fa _ _ ?_).run
 have key: ∀(n:Nat),n+(l.drop 0).length≤l.length→n+bF (l.drop 0)=bF l→ah C dB aj 4 0 (gJ (l.map bX) n ((0:Nat):Int)) (fun u st=>aG C dB aj u st fun r fs=>r=(vI (bF l))∧fs=[]):=by
  refine bE l (fun i=> ∀(n:Nat),n+(l.drop i).length≤l.length→n+bF (l.drop i)=bF l→ah C dB aj 4 0 (gJ (l.map bX) n i) (fun u st=>aG C dB aj u st fun r fs=>r=(vI (bF l))∧fs=[])) ?_ ?_
  ·intro n h0 h1
   refine sH _ _ _ _ (ay (by simp) (Ci _ _ _ _ _ ?_))
   rw[List.drop_length] at h1
   simp[bF] at h1
   simp[h1,bF]
  ·intro i a hi ha hd ht hn n h0 h1
   refine sH _ _ _ _ (ai (by simp;omega) ?_)
   rw[hd] at h0 h1
   simp only[List.length_cons] at h0
   simp only[kk,aK,ha,Option.some.injEq,exists_eq_left',exists_eq_left,bO,fI,iL,dV,fJ,ef,fK,fM,iN,dw,natAdd,List.length_map,List.length_append,List.length_singleton,Bool.true_and,Bool.and_true]
   rw[aJ (by omega),aJ (by omega)]
   cases hu:a.u
   ·exact hn n (by omega) (by rw[←h1];simp[bF,hu])
   ·exact hn (n+1) (by omega) (by rw[←h1];simp[bF,hu];omega)
 exact key 0 (by simp) (by simp)
theorem Eg (l:List Cell) (hl:l.length≤1073741824):aa C cQ [fy l] (vB ((l.all gu&&decide (l.length=24)))) []:=by
 refine(JQ _ _ ?_).run
 have key:((l.drop 0).all gu&&decide (l.length=24))=(l.all gu&&decide (l.length=24))→ah C cQ an 4 0 (gL (l.map bX) ((0:Nat):Int)) (fun u st=>aG C cQ an u st fun r fs=>r=vB ((l.all gu&&decide (l.length=24)))∧fs=[]):=by
  refine bE l (fun i=>((l.drop i).all gu&&decide (l.length=24))=(l.all gu&&decide (l.length=24))→ah C cQ an 4 0 (gL (l.map bX) i) (fun u st=>aG C cQ an u st fun r fs=>r=vB ((l.all gu&&decide (l.length=24)))∧fs=[])) ?_ ?_
  ·intro h0
   refine wO _ _ _ (ay (by simp) (Fi _ _ _ _ ?_))
   rw[List.drop_length] at h0
   simp only[List.all_nil,Bool.true_and] at h0
   rw[←h0]
   simp[bw]
   try omega
  ·intro i a hi ha hd htk hn h0
   have gO:gu a=false→(l.all gu&&decide (l.length=24))=false:=fun e=>by rw[←h0,hd];simp[e]
   have gN:gu a=true→ah C cQ an 4 0 (gL (l.map bX) ((i:Int)+1)) (fun u st=>aG C cQ an u st fun r fs=>r=vB ((l.all gu&&decide (l.length=24)))∧fs=[]):=fun e=>hn (by rw[←h0,hd];simp[e])
   refine wO _ _ _ (ai (by simp;omega) ?_)
   simp only[kk,Av,Bn,bw,aK,ha,Option.some.injEq,exists_eq_left',exists_eq_left,bO,fI,iL,dV,fJ,ef,fK,fM,iN,dw,natAdd,List.length_map,List.length_append,List.length_singleton,Bool.true_and,Bool.and_true]
   rw[aJ (by omega)]
   cases h1:iJ a.g 0 999<;>cases h2:mu a.n<;>cases h3:a.u<;>by_cases h4:a.n=0<;>simp only[h1,h2,h3,h4,lB,lC,decide_true,decide_false,not_true_eq_false,not_false_eq_true,Bool.not_true,Bool.not_false]<;>first|exact gN (by unfold gu;rw[h1,h2,h3];simp[h4])|exact Fh _ (by rw[gO (by unfold gu;rw[h1,h2,h3];simp[h4])];exact⟨rfl,by first|rfl|trivial⟩)
 exact key rfl
theorem r7 (l:List Cell) (hl:l.length≤1073741824) (q:Bool):aa C cQ [fy l] (vB q) []↔q=cP l:=rj (Eg l hl)
@[simp] theorem Bo (a:Int) (q:Bool):aa C tG [vI a] (vB q) []↔q=mu a:=rj ((Km _ _ ⟨_,r6 _ _ _,rfl,by first|rfl|trivial⟩).run)
theorem FQ (l:List Cell) (i gen:Int) (hl:l.length≤1073741824):aa C qu [fy l,vI i,vI gen] (XH (cellAt l i gen)) []:=by
 refine(KK _ _ _ _ ?_).run
 simp only[qw,exists_eq_left,List.length_map,Int.ofNat_eq_natCast,bO,kk]
 rw[eE (by omega)]
 by_cases h:0≤i∧i<l.length
 ·obtain⟨a,ha⟩:=qa h.1 h.2
  have e:iJ i 0 ((l.length:Int)-1)=true:=decide_eq_true (by omega)
  simp only[e,lB,ha,Option.some.injEq,exists_eq_left',bw,bL,cellAt]
  cases h1:a.u<;>by_cases h2:a.g=gen<;>simp[h1,h2]
 ·have e:iJ i 0 ((l.length:Int)-1)=false:=decide_eq_false (by omega)
  have hn:fu l i=none:=nj h
  simp[e,cellAt,hn]
theorem Kd (l:List Cell) (hl:l.length≤1073741824) (i gen:Int) (n:Int) (q:Bool):aa C qu [fy l,vI i,vI gen] (.tu [(0,[iI n]),(0,[iB q])]) []↔n=(cellAt l i gen).1∧q=(cellAt l i gen).2:=Vf (FQ l i gen hl)
theorem B0 (l:List Cell) (hl:l.length≤1073741824):aa C dD [fy l] (vI (bF l)) []:=by
 refine(Fb _ _ ?_).run
 have key: ∀(n:Nat),n+(l.drop 0).length≤l.length→n+bF (l.drop 0)=bF l→ah C dD aj 4 0 (gK n (l.map bX) ((0:Nat):Int)) (fun u st=>aG C dD aj u st fun r fs=>r=(vI (bF l))∧fs=[]):=by
  refine bE l (fun i=> ∀(n:Nat),n+(l.drop i).length≤l.length→n+bF (l.drop i)=bF l→ah C dD aj 4 0 (gK n (l.map bX) i) (fun u st=>aG C dD aj u st fun r fs=>r=(vI (bF l))∧fs=[])) ?_ ?_
  ·intro n h0 h1
   refine sJ _ _ _ _ (ay (by simp) (Cj _ _ _ _ _ _ ?_))
   rw[List.drop_length] at h1
   simp[bF] at h1
   simp[h1,bF]
  ·intro i a hi ha hd ht hn n h0 h1
   refine sJ _ _ _ _ (ai (by simp;omega) ?_)
   rw[hd] at h0 h1
   simp only[List.length_cons] at h0
   simp only[kk,aK,ha,Option.some.injEq,exists_eq_left',exists_eq_left,bO,fI,iL,dV,fJ,ef,fK,fM,iN,dw,natAdd,List.length_map,List.length_append,List.length_singleton,Bool.true_and,Bool.and_true]
   rw[aJ (by omega),aJ (by omega)]
   cases hu:a.u
   ·exact hn n (by omega) (by rw[←h1];simp[bF,hu])
   ·exact hn (n+1) (by omega) (by rw[←h1];simp[bF,hu];omega)
 exact key 0 (by simp) (by simp)
theorem Eh (l:List Cell) (hl:l.length≤1073741824):aa C cR [fy l] (vB ((l.all gu&&decide (l.length=24)))) []:=by
 refine(JF _ _ ?_).run
 have key:((l.drop 0).all gu&&decide (l.length=24))=(l.all gu&&decide (l.length=24))→ah C cR an 4 0 (gH (l.map bX) ((0:Nat):Int)) (fun u st=>aG C cR an u st fun r fs=>r=vB ((l.all gu&&decide (l.length=24)))∧fs=[]):=by
  refine bE l (fun i=>((l.drop i).all gu&&decide (l.length=24))=(l.all gu&&decide (l.length=24))→ah C cR an 4 0 (gH (l.map bX) i) (fun u st=>aG C cR an u st fun r fs=>r=vB ((l.all gu&&decide (l.length=24)))∧fs=[])) ?_ ?_
  ·intro h0
   refine wK _ _ _ (ay (by simp) (E8 _ _ _ _ _ ?_))
   rw[List.drop_length] at h0
   simp only[List.all_nil,Bool.true_and] at h0
   rw[←h0]
   simp[bw]
   try omega
  ·intro i a hi ha hd htk hn h0
   have gO:gu a=false→(l.all gu&&decide (l.length=24))=false:=fun e=>by rw[←h0,hd];simp[e]
   have gN:gu a=true→ah C cR an 4 0 (gH (l.map bX) ((i:Int)+1)) (fun u st=>aG C cR an u st fun r fs=>r=vB ((l.all gu&&decide (l.length=24)))∧fs=[]):=fun e=>hn (by rw[←h0,hd];simp[e])
   refine wK _ _ _ (ai (by simp;omega) ?_)
   simp only[kk,qw,Bo,bw,aK,ha,Option.some.injEq,exists_eq_left',exists_eq_left,bO,fI,iL,dV,fJ,ef,fK,fM,iN,dw,natAdd,List.length_map,List.length_append,List.length_singleton,Bool.true_and,Bool.and_true]
   rw[aJ (by omega)]
   cases h1:iJ a.g 0 999<;>cases h2:mu a.n<;>cases h3:a.u<;>by_cases h4:a.n=0<;>simp only[h1,h2,h3,h4,lB,lC,decide_true,decide_false,not_true_eq_false,not_false_eq_true,Bool.not_true,Bool.not_false]<;>first|exact gN (by unfold gu;rw[h1,h2,h3];simp[h4])|exact E7 _ _ _ _ (by rw[gO (by unfold gu;rw[h1,h2,h3];simp[h4])];exact⟨rfl,by first|rfl|trivial⟩)
 exact key rfl
theorem r8 (l:List Cell) (hl:l.length≤1073741824) (q:Bool):aa C cR [fy l] (vB q) []↔q=cP l:=rj (Eh l hl)
theorem FR (s:ByteArray) (hl:s.size≤140737488355328):aa C dM [vS s] (vB ((cE s.size (dA s)&&iJ s.size 1 6))) []:=by
 refine(K6 _ _ ?_).run
 have key:((List.range' 0 (s.size-0)).all (dA s)&&iJ s.size 1 6)=(cE s.size (dA s)&&iJ s.size 1 6)→ah C dM an 4 0 (iE s ((0:Nat):Int)) (fun u st=>aG C dM an u st fun r fs=>r=vB ((cE s.size (dA s)&&iJ s.size 1 6))∧fs=[]):=by
  refine m0 (s.size) (fun i=>((List.range' i (s.size-i)).all (dA s)&&iJ s.size 1 6)=(cE s.size (dA s)&&iJ s.size 1 6)→ah C dM an 4 0 (iE s i) (fun u st=>aG C dM an u st fun r fs=>r=vB ((cE s.size (dA s)&&iJ s.size 1 6))∧fs=[])) ?_ ?_
  ·intro h0
   refine zj _ _ _ (ay (by simp) (Ho _ _ _ _ ?_))
   rw[Nat.sub_self] at h0
   simp only[List.range'_zero,List.all_nil,Bool.true_and] at h0
   rw[←h0]
   simp only[Av,exists_eq_left,D5,Int.ofNat_eq_natCast]
   simp
  ·intro i hi hn h0
   rw[jg hi,List.all_cons] at h0
   have gO:(dA s) i=false→(cE s.size (dA s)&&iJ s.size 1 6)=false:=fun e=>by rw[←h0,e];rfl
   have gN:(dA s) i=true→ah C dM an 4 0 (iE s ((i:Int)+1)) (fun u st=>aG C dM an u st fun r fs=>r=vB ((cE s.size (dA s)&&iJ s.size 1 6))∧fs=[]):=fun e=>hn (by rw[←h0,e];rfl)
   refine zj _ _ _ (ai (by simp;omega) ?_)
   obtain⟨n,hb,hn0,hn1⟩:=LP hi
   have hw:qL .i64 n=n:=Od (by omega)
   simp only[hb,Option.some.injEq,exists_eq_left',Av,exists_eq_left,hw,bO]
   rw[aJ (by omega)]
   have e:dA s i=(iJ n 97 122||iJ n 48 57):=by unfold dA;rw[hb];rfl
   rw[e] at gO gN
   cases h1:iJ n 97 122<;>cases h2:iJ n 48 57<;>simp only[lB,lC]<;>first|exact gN (by rw[h1,h2];rfl)|exact Hl _ (by rw[gO (by rw[h1,h2];rfl)];exact⟨rfl,by first|rfl|trivial⟩)
 exact key rfl
theorem Ke (s:ByteArray) (hl:s.size≤140737488355328) (q:Bool):aa C dM [vS s] (vB q) []↔q=z8 s:=rj (FR s hl)
theorem Vi (l:List Age): ∀(id:Int),id=0→iM l id=[]:=fun id h=>if_pos h
theorem FT (l:List Age) (id:Int) (hl:l.length≤1073741824):aa C ez [jG l,vI id] (pQ (iM l id)) []:=by
 refine(KV _ _ _ ?_).run
 have key: ∀(acc:List Int),acc.length+(l.drop 0).length≤l.length→acc++iM (l.drop 0) id=iM l id→ah C ez aj 4 0 (iD (l.map dK) id ((0:Nat):Int) (acc.map bM)) (fun u st=>aG C ez aj u st fun r fs=>r=(pQ (iM l id))∧fs=[]):=by
  refine bE l (fun i=> ∀(acc:List Int),acc.length+(l.drop i).length≤l.length→acc++iM (l.drop i) id=iM l id→ah C ez aj 4 0 (iD (l.map dK) id i (acc.map bM)) (fun u st=>aG C ez aj u st fun r fs=>r=(pQ (iM l id))∧fs=[])) ?_ ?_
  ·intro acc h0 h1
   refine zc _ _ _ _ _ (ay (by simp) (G1 _ _ _ _ _ _ ?_))
   rw[List.drop_length] at h1
   simp[iM] at h1
   simp[iM,h1]
  ·intro i a hi ha hd ht hn acc h0 h1
   refine zc _ _ _ _ _ (ai (by simp;omega) ?_)
   rw[hd] at h0 h1
   simp only[List.length_cons] at h0
   simp only[u9,QG,S8,bw,bL,aK,ha,Option.some.injEq,exists_eq_left',exists_eq_left,bO,fI,iL,dV,fJ,ef,fK,fM,iN,dw,natAdd,List.length_map,List.length_append,List.length_singleton,Bool.true_and,Bool.and_true]
   simp (disch:=omega) only[cX,aJ,lB]
   by_cases hz:id=0
   ·rw[Vi _ _ hz] at h1
    have e: ∀(A B:Prop),(if a.fr=id then(if id=0 then A else B) else A)=if a.fr=id then A else A:=fun A B=>by rw[if_pos hz]
    rw[e,ite_self]
    exact hn _ (by omega) (by rw[Vi _ _ hz,←h1])
   by_cases hk:a.fr=id
   ·rw[if_pos hk,if_neg hz]
    exact hn (acc++[a.id]) (by simp only[List.length_append,List.length_singleton];omega) (by rw[←h1];simp[iM,hk,hz])
   ·rw[if_neg hk]
    exact hn _ (by omega) (by rw[←h1];simp[iM,hk,hz])
 exact key [] (by simp) rfl
theorem Ei (l:List Key) (hl:l.length≤1073741824):aa C fZ [cO l] (vB (cE l.length (gl l dr))) []:=by
 refine(JB _ _ ?_).run
 have key: ∀(k i:Nat),i+k=l.length→1≤i→(List.range' i k).all (gl l dr)=cE l.length (gl l dr)→ah C fZ an 4 0 (ny (l.map bK) i) (fun u st=>aG C fZ an u st fun r fs=>r=vB (cE l.length (gl l dr))∧fs=[]):=by
  intro k
  induction k with
  |zero=>
   intro i h h1 h0
   refine qd _ _ _ (ay (by simp;omega) (wI _ _ _ _ ?_))
   simp only[List.range'_zero,List.all_nil] at h0
   rw[←h0];exact⟨rfl,by first|rfl|trivial⟩
  |succ k ih=>
   intro i h h1 h0
   obtain⟨j,rfl⟩: ∃j,i=j+1:=⟨i-1,by omega⟩
   have hj:l[j]?=some l[j]:=List.getElem?_eq_getElem (by omega)
   have hj1:l[j+1]?=some l[j+1]:=List.getElem?_eq_getElem (by omega)
   have e:gl l dr (j+1)=dr l[j] l[j+1]:=by simp only[gl,hj,hj1]
   rw[List.range'_succ,List.all_cons,e] at h0
   refine qd _ _ _ (ai (by simp;omega) ?_)
   rw[eE (by omega),show((j+1:Nat):Int)-1=(j:Int) by omega]
   simp only[mo,aK,hj,hj1,Option.some.injEq,exists_eq_left',Ax,exists_eq_left,dV,bO]
   rw[aJ (by omega)]
   cases hb:dr l[j] l[j+1] with
   |true=>
    rw[hb,Bool.true_and] at h0
    exact ai rfl (ih (j+1+1) (by omega) (by omega) h0)
   |false=>
    rw[hb,Bool.false_and] at h0
    refine ay rfl (E4 _ ?_)
    rw[←h0];exact⟨rfl,by first|rfl|trivial⟩
 cases hz:l.length with
 |zero=>
  have:l=[]:=List.eq_nil_of_length_eq_zero hz
  subst this
  exact qd _ _ _ (ay (by simp) (wI _ _ _ _ ⟨rfl,by first|rfl|trivial⟩))
 |succ n=>
  rw[hz] at key
  exact key n 1 (by omega) (by omega) (by unfold cE;rw[List.range'_succ,List.all_cons];rfl)
theorem Jc (l:List Key) (hl:l.length≤1073741824):aa C dZ [cO l] (vB ((l.all fR&&(cE l.length (gl l dr)&&decide (l.length≤60))))) []:=by
 refine(Ng _ _ ?_).run
 have key:((l.drop 0).all fR&&(cE l.length (gl l dr)&&decide (l.length≤60)))=(l.all fR&&(cE l.length (gl l dr)&&decide (l.length≤60)))→ah C dZ an 4 0 (kO (l.map bK) ((0:Nat):Int)) (fun u st=>aG C dZ an u st fun r fs=>r=vB ((l.all fR&&(cE l.length (gl l dr)&&decide (l.length≤60))))∧fs=[]):=by
  refine bE l (fun i=>((l.drop i).all fR&&(cE l.length (gl l dr)&&decide (l.length≤60)))=(l.all fR&&(cE l.length (gl l dr)&&decide (l.length≤60)))→ah C dZ an 4 0 (kO (l.map bK) i) (fun u st=>aG C dZ an u st fun r fs=>r=vB ((l.all fR&&(cE l.length (gl l dr)&&decide (l.length≤60))))∧fs=[])) ?_ ?_
  ·intro h0
   refine AN _ _ _ (ay (by simp) (JS _ _ _ _ ?_))
   rw[List.drop_length] at h0
   simp only[List.all_nil,Bool.true_and] at h0
   rw[←h0]
   refine⟨_,Ei l hl,?_⟩
   simp only[g7,List.length_map,Int.ofNat_eq_natCast]
   cases cE l.length (gl l dr)<;>simp
   omega
  ·intro i a hi ha hd htk hn h0
   have gO:fR a=false→(l.all fR&&(cE l.length (gl l dr)&&decide (l.length≤60)))=false:=fun e=>by rw[←h0,hd];simp[e]
   have gN:fR a=true→ah C dZ an 4 0 (kO (l.map bK) ((i:Int)+1)) (fun u st=>aG C dZ an u st fun r fs=>r=vB ((l.all fR&&(cE l.length (gl l dr)&&decide (l.length≤60))))∧fs=[]):=fun e=>hn (by rw[←h0,hd];simp[e])
   refine AN _ _ _ (ai (by simp;omega) ?_)
   simp only[mo,C0,aK,ha,Option.some.injEq,exists_eq_left',exists_eq_left,bO,fI,iL,dV,fJ,ef,fK,fM,iN,dw,natAdd,List.length_map,List.length_append,List.length_singleton,Bool.true_and,Bool.and_true]
   rw[aJ (by omega)]
   cases h1:fR a<;>simp only[lB,lC]<;>first|exact gN (by assumption)|exact JR _ (by rw[gO (by assumption)];exact⟨rfl,by first|rfl|trivial⟩)
 exact key rfl
theorem FU (l:List Key) (hl:l.length≤1073741824):aa C dZ [cO l] (vB (z7 l)) []:=by
 have:=Jc l hl
 rw[IQ]
 exact this
theorem MT (l:List Key) (hl:l.length≤1073741824) (q:Bool):aa C dZ [cO l] (vB q) []↔q=z7 l:=rj (FU l hl)
theorem FV (s:ByteArray) (hl:s.size≤140737488355328):aa C dN [vS s] (vB ((cE s.size (dA s)&&iJ s.size 1 6))) []:=by
 refine(K7 _ _ ?_).run
 have key:((List.range' 0 (s.size-0)).all (dA s)&&iJ s.size 1 6)=(cE s.size (dA s)&&iJ s.size 1 6)→ah C dN an 4 0 (iF s ((0:Nat):Int)) (fun u st=>aG C dN an u st fun r fs=>r=vB ((cE s.size (dA s)&&iJ s.size 1 6))∧fs=[]):=by
  refine m0 (s.size) (fun i=>((List.range' i (s.size-i)).all (dA s)&&iJ s.size 1 6)=(cE s.size (dA s)&&iJ s.size 1 6)→ah C dN an 4 0 (iF s i) (fun u st=>aG C dN an u st fun r fs=>r=vB ((cE s.size (dA s)&&iJ s.size 1 6))∧fs=[])) ?_ ?_
  ·intro h0
   refine zk _ _ _ (ay (by simp) (Hq _ _ _ _ ?_))
   rw[Nat.sub_self] at h0
   simp only[List.range'_zero,List.all_nil,Bool.true_and] at h0
   rw[←h0]
   simp only[qw,exists_eq_left,D5,Int.ofNat_eq_natCast]
   simp
  ·intro i hi hn h0
   rw[jg hi,List.all_cons] at h0
   have gO:(dA s) i=false→(cE s.size (dA s)&&iJ s.size 1 6)=false:=fun e=>by rw[←h0,e];rfl
   have gN:(dA s) i=true→ah C dN an 4 0 (iF s ((i:Int)+1)) (fun u st=>aG C dN an u st fun r fs=>r=vB ((cE s.size (dA s)&&iJ s.size 1 6))∧fs=[]):=fun e=>hn (by rw[←h0,e];rfl)
   refine zk _ _ _ (ai (by simp;omega) ?_)
   obtain⟨n,hb,hn0,hn1⟩:=LP hi
   have hw:qL .i64 n=n:=Od (by omega)
   simp only[hb,Option.some.injEq,exists_eq_left',qw,exists_eq_left,hw,bO]
   rw[aJ (by omega)]
   have e:dA s i=(iJ n 97 122||iJ n 48 57):=by unfold dA;rw[hb];rfl
   rw[e] at gO gN
   cases h1:iJ n 97 122<;>cases h2:iJ n 48 57<;>simp only[lB,lC]<;>first|exact gN (by rw[h1,h2];rfl)|exact Hp _ (by rw[gO (by rw[h1,h2];rfl)];exact⟨rfl,by first|rfl|trivial⟩)
 exact key rfl
theorem Kf (s:ByteArray) (hl:s.size≤140737488355328) (q:Bool):aa C dN [vS s] (vB q) []↔q=z8 s:=rj (FV s hl)
theorem FW (l:List Age) (id:Int) (hl:l.length≤1073741824):aa C eA [jG l,vI id] (pQ (iM l id)) []:=by
 refine(La _ _ _ ?_).run
 unfold iM
 by_cases hz:id=0
 ·refine ai (by simp[hz]) ?_
  rw[if_pos hz]
  exact⟨rfl,by first|rfl|trivial⟩
 refine ay (by simp[hz]) ?_
 rw[if_neg hz]
 have key: ∀(acc:List Int),acc.length+(l.drop 0).length≤l.length→acc++((l.drop 0).filter fun a=>decide (a.fr=id)).map (·.id)=(l.filter fun a=>decide (a.fr=id)).map (·.id)→ah C eA aH 4 0 (jA id (l.map dK) ((0:Nat):Int) (acc.map bM)) (fun u st=>aG C eA aH u st fun r fs=>r=pQ ((l.filter fun a=>decide (a.fr=id)).map (·.id))∧fs=[]):=by
  refine bE l (fun i=> ∀(acc:List Int),acc.length+(l.drop i).length≤l.length→acc++((l.drop i).filter fun a=>decide (a.fr=id)).map (·.id)=(l.filter fun a=>decide (a.fr=id)).map (·.id)→ah C eA aH 4 0 (jA id (l.map dK) i (acc.map bM)) (fun u st=>aG C eA aH u st fun r fs=>r=pQ ((l.filter fun a=>decide (a.fr=id)).map (·.id))∧fs=[])) ?_ ?_
  ·intro acc h0 h1
   refine zm _ _ _ _ _ (ay (by simp) (Hv _ _ _ _ _ _ _ ?_))
   rw[List.drop_length] at h1
   simp only[List.filter_nil,List.map_nil,List.append_nil] at h1
   rw[h1]
   exact⟨rfl,by first|rfl|trivial⟩
  ·intro i a hi ha hd ht hn acc h0 h1
   refine zm _ _ _ _ _ (ai (by simp;omega) ?_)
   rw[hd] at h0 h1
   simp only[List.length_cons] at h0
   simp only[u9,QG,S8,bw,bL,aK,ha,Option.some.injEq,exists_eq_left',exists_eq_left,bO,fI,iL,dV,fJ,ef,fK,fM,iN,dw,natAdd,List.length_map,List.length_append,List.length_singleton,Bool.true_and,Bool.and_true]
   simp (disch:=omega) only[cX,aJ,lB]
   by_cases hk:a.fr=id
   ·rw[if_pos hk]
    exact hn (acc++[a.id]) (by simp only[List.length_append,List.length_singleton];omega) (by rw[←h1];simp[hk])
   ·rw[if_neg hk]
    exact hn _ (by omega) (by rw[←h1];simp[hk])
 exact key [] (by simp) rfl
theorem FX (l:List Key) (hl:l.length≤1073741824):aa C dY [cO l] (vB ((cE l.length (ko l)&&decide (l.length≤60)))) []:=by
 refine(Na _ _ ?_).run
 have key:((List.range' 0 (l.length-0)).all (ko l)&&decide (l.length≤60))=(cE l.length (ko l)&&decide (l.length≤60))→ah C dY an 4 0 (jn (l.map bK) ((0:Nat):Int)) (fun u st=>aG C dY an u st fun r fs=>r=vB ((cE l.length (ko l)&&decide (l.length≤60)))∧fs=[]):=by
  refine m0 (l.length) (fun i=>((List.range' i (l.length-i)).all (ko l)&&decide (l.length≤60))=(cE l.length (ko l)&&decide (l.length≤60))→ah C dY an 4 0 (jn (l.map bK) i) (fun u st=>aG C dY an u st fun r fs=>r=vB ((cE l.length (ko l)&&decide (l.length≤60)))∧fs=[])) ?_ ?_
  ·intro h0
   refine AL _ _ _ (ay (by simp) (JM _ _ _ _ _ ?_))
   rw[Nat.sub_self] at h0
   simp only[List.range'_zero,List.all_nil,Bool.true_and] at h0
   rw[←h0]
   simp[g7]
   omega
  ·intro i hi hn h0
   rw[jg hi,List.all_cons] at h0
   have gO:(ko l) i=false→(cE l.length (ko l)&&decide (l.length≤60))=false:=fun e=>by rw[←h0,e];rfl
   have gN:(ko l) i=true→ah C dY an 4 0 (jn (l.map bK) ((i:Int)+1)) (fun u st=>aG C dY an u st fun r fs=>r=vB ((cE l.length (ko l)&&decide (l.length≤60)))∧fs=[]):=fun e=>hn (by rw[←h0,e];rfl)
   refine AL _ _ _ (ai (by simp;omega) ?_)
   have ha:l[i]?=some l[i]:=List.getElem?_eq_getElem hi
   simp only[mo,CZ,Aw,aK,ha,Option.some.injEq,exists_eq_left',exists_eq_left,bO,fI,iL,dV,fJ,ef,fK,fM,iN,dw,natAdd,List.length_map,List.length_append,List.length_singleton,Bool.true_and,Bool.and_true]
   rw[aJ (by omega)]
   cases i with
   |zero=>
    have e:ko l 0=fR l[0]:=by simp[ko,RP,gl,hi]
    simp only[e] at gO gN
    cases h1:fR l[0]<;>simp only[h1,lB,lC,dS,bL,Int.natCast_zero,Int.lt_irrefl,if_false]<;>first|exact gN h1|exact AM _ _ _ _ _ _ (by rw[gO h1];exact⟨rfl,by first|rfl|trivial⟩)
   |succ k=>
    have hk:l[k]?=some l[k]:=List.getElem?_eq_getElem (by omega)
    have e:ko l (k+1)=(fR l[k+1]&&dr l[k] l[k+1]):=by simp only[ko,RP,gl,hk,ha]
    simp only[e] at gO gN
    rw[eE (by omega),show((k+1:Nat):Int)-1=(k:Int) by omega]
    simp only[aK,hk,Option.some.injEq,exists_eq_left',dV,dS,bL]
    rw[if_pos (by omega)]
    cases h1:fR l[k+1]<;>cases h2:dr l[k] l[k+1]<;>simp only[lB,lC]<;>first|exact gN (by rw[h1,h2];rfl)|exact AM _ _ _ _ _ _ (by rw[gO (by rw[h1,h2];rfl)];exact⟨rfl,by first|rfl|trivial⟩)
 exact key rfl
theorem MU (l:List Key) (hl:l.length≤1073741824) (q:Bool):aa C dY [cO l] (vB q) []↔q=z7 l:=rj (FX l hl)
@[simp] theorem FY (n:ByteArray) (a z:Int) (f:Bool) (s:ByteArray) (a' z':Int) (f':Bool) (q:Bool):aa C lX [.ag [iS n,iI a,iI z,iB f],.bx [iS s,iI a',iI z',iB f']] (vB q) []↔q=decide (a=a'):=rj (by
  refine(HF _ _ _ _ _ _ _ _ _ ?_).run
  simp)
theorem zC (l:List Vol) (s:ByteArray) (a' z':Int) (f':Bool) (hl:l.length≤1073741824):aa C ct [z6 l,.fn lX [[iS s,iI a',iI z',iB f']]] (vI (jt (fun v:Vol=>decide (v.age=a')) l 0)) []:=by
 refine(nO _ _ _ _ _ _ ?_).run
 have key:jt (fun v:Vol=>decide (v.age=a')) (l.drop 0) ((0:Nat):Int)=jt (fun v:Vol=>decide (v.age=a')) l 0→ah C ct an 4 0 (cK (l.map ek) ((0:Nat):Int) s a' z' f') (fun u st=>aG C ct an u st fun r fs=>r=vI (jt (fun v:Vol=>decide (v.age=a')) l 0)∧fs=[]):=by
  refine bE l (fun i=>jt (fun v:Vol=>decide (v.age=a')) (l.drop i) (i:Int)=jt (fun v:Vol=>decide (v.age=a')) l 0→ah C ct an 4 0 (cK (l.map ek) i s a' z' f') _) ?_ ?_
  ·intro h0
   refine ia _ _ _ _ _ _ _ (ay (by simp) (m9 _ _ _ _ _ _ _ _ _ ?_))
   rw[List.drop_length] at h0
   simp only[jt] at h0
   change _=vI (jt (fun v:Vol=>decide (v.age=a')) l 0)∧_
   rw[←h0]
   exact⟨rfl,by first|rfl|trivial⟩
  ·intro i a hi ha hd htk hn h0
   refine ia _ _ _ _ _ _ _ (ai (by simp;omega) ?_)
   rw[hd] at h0
   simp only[jt] at h0
   simp only[D7,bw,FY,bL,aK,ha,Option.some.injEq,exists_eq_left',exists_eq_left,bO,fI,iL,dV,fJ,ef,fK,fM,iN,dw,natAdd,List.length_map,List.length_append,List.length_singleton,Bool.true_and,Bool.and_true]
   rw[aJ (by omega)]
   split at h0
   ·rename_i hp
    have hp:=of_decide_eq_true hp
    first|rw[if_pos hp]|rw[if_pos hp.symm]
    refine m8 _ _ _ _ _ _ ?_
    rw[h0]
    exact⟨rfl,by first|rfl|trivial⟩
   ·rename_i hp
    have hp: ¬_:=fun h=>hp (decide_eq_true h)
    first|rw[if_neg hp]|rw[if_neg (fun h=>hp h.symm)]
    exact hn h0
 exact key rfl
theorem zD (l:List Vol) (s:ByteArray) (a' z':Int) (f':Bool) (hl:l.length≤1073741824):aa C fF [z6 l,.fn lX [[iS s,iI a',iI z',iB f']]] (vB (l.any (fun v:Vol=>decide (v.age=a')))) []:=by
 refine(mP _ _ _ _ _ _ ⟨_,zC l s a' z' f' hl,?_⟩).run
 rw[g7,Oe _ _ _ (by omega)]
 exact⟨rfl,by first|rfl|trivial⟩
theorem Ej (n:List (List Key)) (hb:n.length≤1073741824) (hl:tot bJ n≤1073741824):aa C fj [fP n] (vI (ck n)) []:=by
 refine(Jt _ _ ?_).run
 have key: ∀(c:Nat),c+tot bJ (n.drop 0)=ck n→ah C fj aj 4 0 (kJ c ((0:Nat):Int) (n.map bZ)) (fun u st=>aG C fj aj u st fun r fs=>r=(vI (ck n))∧fs=[]):=by
  refine bE n (fun i=> ∀(c:Nat),c+tot bJ (n.drop i)=ck n→ah C fj aj 4 0 (kJ c i (n.map bZ)) (fun u st=>aG C fj aj u st fun r fs=>r=(vI (ck n))∧fs=[])) ?_ ?_
  ·intro c h0
   refine wC _ _ _ _ (ay (by simp) (EV _ _ _ _ _ ?_))
   rw[List.drop_length] at h0
   simp only[tot,Nat.add_zero] at h0
   rw[h0]
   exact⟨rfl,by first|rfl|trivial⟩
  ·intro i a hi ha hd ht hn c h0
   refine wC _ _ _ _ (ai (by simp;omega) ?_)
   rw[hd] at h0
   have e5:tot bJ (a::n.drop (i+1))=a.length+tot bJ (n.drop (i+1)):=rfl
   rw[e5] at h0
   unfold ck at h0
   simp only[rX,aK,ha,Option.some.injEq,exists_eq_left',exists_eq_left,bO,fI,iL,dV,fJ,ef,fK,fM,iN,dw,natAdd,List.length_map,List.length_append,List.length_singleton,Bool.true_and,Bool.and_true]
   rw[aJ (by simp only[Int.ofNat_eq_natCast];omega),aJ (by omega)]
   exact hn (c+a.length) (by unfold ck;omega)
 exact key 0 (by simp[ck])
theorem Ek (n:List (List Key)) (hs:tot bJ n≤1073741824) (hl:n.length≤1073741824):aa C bG [fP n] (vB ((n.all cN&&(decide (n.length≤3)&&decide (ck n≤8))))) []:=by
 refine(Lc _ _ ?_).run
 have key:((n.drop 0).all cN&&(decide (n.length≤3)&&decide (ck n≤8)))=(n.all cN&&(decide (n.length≤3)&&decide (ck n≤8)))→ah C bG an 4 0 (jB ((0:Nat):Int) (n.map bZ)) (fun u st=>aG C bG an u st fun r fs=>r=vB ((n.all cN&&(decide (n.length≤3)&&decide (ck n≤8))))∧fs=[]):=by
  refine bE n (fun i=>((n.drop i).all cN&&(decide (n.length≤3)&&decide (ck n≤8)))=(n.all cN&&(decide (n.length≤3)&&decide (ck n≤8)))→ah C bG an 4 0 (jB i (n.map bZ)) (fun u st=>aG C bG an u st fun r fs=>r=vB ((n.all cN&&(decide (n.length≤3)&&decide (ck n≤8))))∧fs=[])) ?_ ?_
  ·intro h0
   refine zp _ _ _ (ay (by simp) (HA _ _ _ _ ?_))
   rw[List.drop_length] at h0
   simp only[List.all_nil,Bool.true_and] at h0
   rw[←h0]
   simp only[g7,List.length_map,Int.ofNat_eq_natCast,bL]
   by_cases h3:n.length≤3
   ·rw[if_pos (by omega)]
    refine⟨_,Ej n hl hs,?_⟩
    simp[h3]
    omega
   ·rw[if_neg (by omega)]
    simp[h3]
  ·intro i a hi ha hd htk hn h0
   have gO:cN a=false→(n.all cN&&(decide (n.length≤3)&&decide (ck n≤8)))=false:=fun e=>by rw[←h0,hd];simp[e]
   have gN:cN a=true→ah C bG an 4 0 (jB ((i:Int)+1) (n.map bZ)) (fun u st=>aG C bG an u st fun r fs=>r=vB ((n.all cN&&(decide (n.length≤3)&&decide (ck n≤8))))∧fs=[]):=fun e=>hn (by rw[←h0,hd];simp[e])
   refine zp _ _ _ (ai (by simp;omega) ?_)
   have hz:a.length≤tot bJ n:=jI (w:=bJ) ha
   have hh: ∀q,aa C dZ [cO a] (vB q) []↔q=z7 a:=fun q=>MT a (by omega) q
   simp only[rX,hh,bw,Int.ofNat_eq_natCast,bL,aK,ha,Option.some.injEq,exists_eq_left',exists_eq_left,bO,fI,iL,dV,fJ,ef,fK,fM,iN,dw,natAdd,List.length_map,List.length_append,List.length_singleton,Bool.true_and,Bool.and_true]
   rw[aJ (by omega)]
   cases h1:z7 a<;>by_cases h2:a.length=0<;>simp only[lB,lC]<;>first|(rw[if_pos (by omega)];exact zu _ _ (by rw[gO (by simp[cN,h1,h2])];exact⟨rfl,by first|rfl|trivial⟩))|(rw[if_neg (by omega)];exact gN (by simp[cN,h1,h2]))|exact zu _ _ (by rw[gO (by simp[cN,h1,h2])];exact⟨rfl,by first|rfl|trivial⟩)
 exact key rfl
theorem qB (n:List (List Key)) (hb:n.length≤1073741824) (hl:tot bJ n≤1073741824):aa C bG [fP n] (vB (eI n)) []:=by
 have:=Ek n hl hb
 rw[LQ]
 exact this
theorem FZ (l:List Age) (hl:l.length≤1073741824):aa C c8 [jG l] (vB ((cE l.length (dP l)&&decide (l.length≤16)))) []:=by
 refine(KT _ _ ?_).run
 have key:((List.range' 0 (l.length-0)).all (dP l)&&decide (l.length≤16))=(cE l.length (dP l)&&decide (l.length≤16))→ah C c8 an 4 0 (fo (l.map dK) ((0:Nat):Int)) (fun u st=>aG C c8 an u st fun r fs=>r=vB ((cE l.length (dP l)&&decide (l.length≤16)))∧fs=[]):=by
  refine m0 (l.length) (fun i=>((List.range' i (l.length-i)).all (dP l)&&decide (l.length≤16))=(cE l.length (dP l)&&decide (l.length≤16))→ah C c8 an 4 0 (fo (l.map dK) i) (fun u st=>aG C c8 an u st fun r fs=>r=vB ((cE l.length (dP l)&&decide (l.length≤16)))∧fs=[])) ?_ ?_
  ·intro h0
   refine y7 _ _ _ (ay (by simp) (GW _ _ _ _ ?_))
   rw[Nat.sub_self] at h0
   simp only[List.range'_zero,List.all_nil,Bool.true_and] at h0
   rw[←h0]
   simp[g7]
   omega
  ·intro i hi hn h0
   rw[jg hi,List.all_cons] at h0
   have gO:(dP l) i=false→(cE l.length (dP l)&&decide (l.length≤16))=false:=fun e=>by rw[←h0,e];rfl
   have gN:(dP l) i=true→ah C c8 an 4 0 (fo (l.map dK) ((i:Int)+1)) (fun u st=>aG C c8 an u st fun r fs=>r=vB ((cE l.length (dP l)&&decide (l.length≤16)))∧fs=[]):=fun e=>hn (by rw[←h0,e];rfl)
   refine y7 _ _ _ (ai (by simp;omega) ?_)
   have ha:l[i]?=some l[i]:=List.getElem?_eq_getElem hi
   have hh: ∀q,aa C dR [jG (l.take i),vI l[i].fr] (vI q) []↔q=iX (l.take i) l[i].fr:=fun q=>xy (l.take i) l[i].fr (by simp;omega) q
   have hcut:au (l.map dK) 0 (i:Int)=(l.take i).map dK:=by rw[cH,Int.toNat_natCast];rfl
   have hin:cF 0 (i:Int) (l.length:Int)=true:=by simp;omega
   simp only[u9,Av,hcut,aK,ha,Option.some.injEq,exists_eq_left',exists_eq_left,bO,fI,iL,dV,fJ,ef,fK,fM,iN,dw,natAdd,List.length_map,List.length_append,List.length_singleton,Bool.true_and,Bool.and_true]
   simp only[ha,hin,hh,exists_eq_left,Option.some.injEq,exists_eq_left',lB,bw,g7,dS,bL,Int.ofNat_eq_natCast,List.length_map]
   rw[aJ (by omega)]
   cases i with
   |zero=>
    have e:dP l 0=(iJ l[0].id 1 60&&(decide (l[0].fr=0)|| !decide (iX (l.take 0) l[0].fr<0))):=by simp[dP,RP,gl,hi]
    rw[e] at gO gN
    have hz: ¬((0:Int)<((0:Nat):Int)):=by omega
    simp only[if_neg hz]
    cases h1:iJ l[0].id 1 60 with
    |false=>simp only[lC];exact lS _ (by rw[gO (by rw[h1];simp)];exact⟨rfl,by first|rfl|trivial⟩)
    |true=>
     simp only[lB]
     by_cases h2:l[0].fr=0
     ·rw[if_pos h2];exact gN (by rw[h1,decide_eq_true h2];simp)
     ·rw[if_neg h2]
      by_cases h3:iX (l.take 0) l[0].fr<0
      ·rw[if_pos h3];exact lS _ (by rw[gO (by rw[decide_eq_false h2,decide_eq_true h3];simp)];exact⟨rfl,by first|rfl|trivial⟩)
      ·rw[if_neg h3];exact gN (by rw[h1,decide_eq_false h3];simp)
   |succ k=>
    have hk:l[k]?=some l[k]:=List.getElem?_eq_getElem (by omega)
    have e:dP l (k+1)=(iJ l[k+1].id 1 60&&(decide (l[k].id<l[k+1].id)&&(decide (l[k+1].fr=0)|| !decide (iX (l.take (k+1)) l[k+1].fr<0)))):=by simp only[dP,RP,gl,hk,ha]
    rw[e] at gO gN
    rw[eE (by omega),show((k+1:Nat):Int)-1=(k:Int) by omega]
    simp only[aK,hk,Option.some.injEq,exists_eq_left']
    rw[if_pos (by omega)]
    cases h1:iJ l[k+1].id 1 60 with
    |false=>simp only[lC];exact lS _ (by rw[gO (by rw[h1];simp)];exact⟨rfl,by first|rfl|trivial⟩)
    |true=>
     simp only[lB]
     by_cases h4:l[k].id<l[k+1].id
     ·rw[if_neg (by omega)]
      by_cases h2:l[k+1].fr=0
      ·rw[if_pos h2];exact gN (by rw[h1,decide_eq_true h4,decide_eq_true h2];simp)
      ·rw[if_neg h2]
       by_cases h3:iX (l.take (k+1)) l[k+1].fr<0
       ·rw[if_pos h3];exact lS _ (by rw[gO (by rw[decide_eq_false h2,decide_eq_true h3];simp)];exact⟨rfl,by first|rfl|trivial⟩)
       ·rw[if_neg h3];exact gN (by rw[h1,decide_eq_true h4,decide_eq_false h3];simp)
     ·rw[if_pos (by omega)];exact lS _ (by rw[gO (by rw[decide_eq_false h4];simp)];exact⟨rfl,by first|rfl|trivial⟩)
 exact key rfl
theorem Kg (l:List Age) (hl:l.length≤1073741824) (q:Bool):aa C c8 [jG l] (vB q) []↔q=kZ l:=rj (FZ l hl)
theorem El (n:List (List Key)) (hb:n.length≤1073741824) (hl:tot bJ n≤1073741824):aa C bf [fP n] (vB (n.all cN&&(decide (n.length≤3)&&decide (ck n≤8)))) []:=by
 refine(Kw _ _ ?_).run
 have key: ∀(c:Nat),c+tot bJ (n.drop 0)=ck n→((n.drop 0).all cN&&(decide (n.length≤3)&&decide (ck n≤8)))=(n.all cN&&(decide (n.length≤3)&&decide (ck n≤8)))→ah C bf aj 4 0 (lG c (n.map bZ) ((0:Nat):Int)) (fun u st=>aG C bf aj u st fun r fs=>r=(vB (n.all cN&&(decide (n.length≤3)&&decide (ck n≤8))))∧fs=[]):=by
  refine bE n (fun i=> ∀(c:Nat),c+tot bJ (n.drop i)=ck n→((n.drop i).all cN&&(decide (n.length≤3)&&decide (ck n≤8)))=(n.all cN&&(decide (n.length≤3)&&decide (ck n≤8)))→ah C bf aj 4 0 (lG c (n.map bZ) i) (fun u st=>aG C bf aj u st fun r fs=>r=(vB (n.all cN&&(decide (n.length≤3)&&decide (ck n≤8))))∧fs=[])) ?_ ?_
  ·intro c h0 h1
   refine yP _ _ _ _ (ay (by simp) (Gm _ _ _ _ _ _ ?_))
   rw[List.drop_length] at h0 h1
   simp only[tot,Nat.add_zero] at h0
   simp only[List.all_nil,Bool.true_and] at h1
   rw[←h1]
   simp only[g7,List.length_map,Int.ofNat_eq_natCast,bL]
   by_cases h3:n.length≤3
   ·rw[if_pos (by omega)]
    simp[h3]
    omega
   ·rw[if_neg (by omega)]
    simp[h3]
  ·intro i a hi ha hd ht hn c h0 h1
   refine yP _ _ _ _ (ai (by simp;omega) ?_)
   have hz:a.length≤tot bJ n:=jI (w:=bJ) ha
   have hh: ∀q,aa C dY [cO a] (vB q) []↔q=z7 a:=fun q=>MU a (by omega) q
   rw[hd] at h0 h1
   have e5:tot bJ (a::n.drop (i+1))=a.length+tot bJ (n.drop (i+1)):=rfl
   rw[e5] at h0
   unfold ck at h0
   have hO:cN a=false→aG C bf aj TX.ret (om (n.map bZ)) (fun r fs=>r=vB (n.all cN&&(decide (n.length≤3)&&decide (ck n≤8)))∧fs=[]):=fun e=>Gl _ _ (by rw[←h1];simp only[List.all_cons,e];exact⟨rfl,by first|rfl|trivial⟩)
   simp only[rX,hh,bw,Int.ofNat_eq_natCast,bL,aK,ha,Option.some.injEq,exists_eq_left',exists_eq_left,bO,fI,iL,dV,fJ,ef,fK,fM,iN,dw,natAdd,List.length_map,List.length_append,List.length_singleton,Bool.true_and,Bool.and_true]
   rw[aJ (by omega),aJ (by omega)]
   cases h2:z7 a<;>by_cases h3:a.length=0<;>simp only[lB,lC]
   ·exact hO (by simp[cN,h2])
   ·exact hO (by simp[cN,h2])
   ·rw[if_pos (by omega)];exact hO (by simp[cN,h3])
   ·rw[if_neg (by omega)]
    exact hn (c+a.length) (by unfold ck;omega) (by rw[←h1];simp[cN,h2,h3])
 exact key 0 (by simp[ck]) rfl
theorem qC (n:List (List Key)) (hb:n.length≤1073741824) (hl:tot bJ n≤1073741824):aa C bf [fP n] (vB (eI n)) []:=by
 have:=El n hb hl
 rw[LQ]
 exact this
theorem Kh (n:List (List Key)) (hb:n.length≤1073741824) (hl:tot bJ n≤1073741824) (q:Bool):aa C bf [.ag [.sub 1 (n.map bZ)]] (vB q) []↔q=eI n:=rj (qC n hb hl)
theorem F0 (l:List Age) (hl:l.length≤1073741824):aa C de [jG l] (vB ((cE l.length (dP l)&&decide (l.length≤16)))) []:=by
 refine(KF _ _ ?_).run
 have key:((List.range' 0 (l.length-0)).all (dP l)&&decide (l.length≤16))=(cE l.length (dP l)&&decide (l.length≤16))→ah C de an 4 0 (fm (l.map dK) ((0:Nat):Int)) (fun u st=>aG C de an u st fun r fs=>r=vB ((cE l.length (dP l)&&decide (l.length≤16)))∧fs=[]):=by
  refine m0 (l.length) (fun i=>((List.range' i (l.length-i)).all (dP l)&&decide (l.length≤16))=(cE l.length (dP l)&&decide (l.length≤16))→ah C de an 4 0 (fm (l.map dK) i) (fun u st=>aG C de an u st fun r fs=>r=vB ((cE l.length (dP l)&&decide (l.length≤16)))∧fs=[])) ?_ ?_
  ·intro h0
   refine yU _ _ _ (ay (by simp) (GF _ _ _ _ _ ?_))
   rw[Nat.sub_self] at h0
   simp only[List.range'_zero,List.all_nil,Bool.true_and] at h0
   rw[←h0]
   simp[g7]
   omega
  ·intro i hi hn h0
   rw[jg hi,List.all_cons] at h0
   have gO:(dP l) i=false→(cE l.length (dP l)&&decide (l.length≤16))=false:=fun e=>by rw[←h0,e];rfl
   have gN:(dP l) i=true→ah C de an 4 0 (fm (l.map dK) ((i:Int)+1)) (fun u st=>aG C de an u st fun r fs=>r=vB ((cE l.length (dP l)&&decide (l.length≤16)))∧fs=[]):=fun e=>hn (by rw[←h0,e];rfl)
   refine yU _ _ _ (ai (by simp;omega) ?_)
   have ha:l[i]?=some l[i]:=List.getElem?_eq_getElem hi
   have hh: ∀q,aa C jj [jG (l.take i),vI l[i].fr] (vI q) []↔q=iX (l.take i) l[i].fr:=fun q=>xz (l.take i) l[i].fr (by simp;omega) q
   have hcut:au (l.map dK) 0 (i:Int)=(l.take i).map dK:=by rw[cH,Int.toNat_natCast];rfl
   have hin:cF 0 (i:Int) (l.length:Int)=true:=by simp;omega
   simp only[u9,qw,hcut,aK,ha,Option.some.injEq,exists_eq_left',exists_eq_left,bO,fI,iL,dV,fJ,ef,fK,fM,iN,dw,natAdd,List.length_map,List.length_append,List.length_singleton,Bool.true_and,Bool.and_true]
   simp only[ha,hin,hh,exists_eq_left,Option.some.injEq,exists_eq_left',lB,bw,g7,dS,bL,Int.ofNat_eq_natCast,List.length_map]
   rw[aJ (by omega)]
   cases i with
   |zero=>
    have e:dP l 0=(iJ l[0].id 1 60&&(decide (l[0].fr=0)|| !decide (iX (l.take 0) l[0].fr<0))):=by simp[dP,RP,gl,hi]
    rw[e] at gO gN
    have hz: ¬((0:Int)<((0:Nat):Int)):=by omega
    simp only[if_neg hz]
    cases h1:iJ l[0].id 1 60 with
    |false=>simp only[lC];exact lR _ _ _ (by rw[gO (by rw[h1];simp)];exact⟨rfl,by first|rfl|trivial⟩)
    |true=>
     simp only[lB]
     by_cases h2:l[0].fr=0
     ·rw[if_pos h2];exact gN (by rw[h1,decide_eq_true h2];simp)
     ·rw[if_neg h2]
      by_cases h3:iX (l.take 0) l[0].fr<0
      ·rw[if_pos h3];exact lR _ _ _ (by rw[gO (by rw[decide_eq_false h2,decide_eq_true h3];simp)];exact⟨rfl,by first|rfl|trivial⟩)
      ·rw[if_neg h3];exact gN (by rw[h1,decide_eq_false h3];simp)
   |succ k=>
    have hk:l[k]?=some l[k]:=List.getElem?_eq_getElem (by omega)
    have e:dP l (k+1)=(iJ l[k+1].id 1 60&&(decide (l[k].id<l[k+1].id)&&(decide (l[k+1].fr=0)|| !decide (iX (l.take (k+1)) l[k+1].fr<0)))):=by simp only[dP,RP,gl,hk,ha]
    rw[e] at gO gN
    rw[eE (by omega),show((k+1:Nat):Int)-1=(k:Int) by omega]
    simp only[aK,hk,Option.some.injEq,exists_eq_left']
    rw[if_pos (by omega)]
    cases h1:iJ l[k+1].id 1 60 with
    |false=>simp only[lC];exact lR _ _ _ (by rw[gO (by rw[h1];simp)];exact⟨rfl,by first|rfl|trivial⟩)
    |true=>
     simp only[lB]
     by_cases h4:l[k].id<l[k+1].id
     ·rw[if_neg (by omega)]
      by_cases h2:l[k+1].fr=0
      ·rw[if_pos h2];exact gN (by rw[h1,decide_eq_true h4,decide_eq_true h2];simp)
      ·rw[if_neg h2]
       by_cases h3:iX (l.take (k+1)) l[k+1].fr<0
       ·rw[if_pos h3];exact lR _ _ _ (by rw[gO (by rw[decide_eq_false h2,decide_eq_true h3];simp)];exact⟨rfl,by first|rfl|trivial⟩)
       ·rw[if_neg h3];exact gN (by rw[h1,decide_eq_true h4,decide_eq_false h3];simp)
     ·rw[if_pos (by omega)];exact lR _ _ _ (by rw[gO (by rw[decide_eq_false h4];simp)];exact⟨rfl,by first|rfl|trivial⟩)
 exact key rfl
theorem Ki (l:List Age) (hl:l.length≤1073741824) (q:Bool):aa C de [jG l] (vB q) []↔q=kZ l:=rj (F0 l hl)
@[simp] theorem Bp (b a q:Int):aa C tH [vI b,vI a] (vI q) []↔q=fU b a:=Te ((KL _ _ _ ⟨rfl,by first|rfl|trivial⟩).run)
@[simp] theorem Bq (b a k c g q:Int):aa C di [.ag [iI b,iI a,iI k,iI c,iI g]] (vI q) []↔q=fU b a:=Te (by
  refine(K9 _ _ _ _ _ _ ?_).run
  simp only[Bp,exists_eq_left]
  simp)
@[simp] theorem vk (b a q:Int):aa C oU [vI b,vI a] (vI q) []↔q=fU b a:=Te ((Kt _ _ _ ⟨rfl,by first|rfl|trivial⟩).run)
theorem Em (t:Tree) (i:Nat) (n:List (List Key)) (hi:i<t.lows.length) (hl:dO t≤1073741824) (hn:n.length≤1073741824) (hz:tot bJ n≤1073741824):ah C bk aH 4 0 (gn i ((0:Nat):Int) (t.lows.map bM) (t.nodes.map aV) (n.map bZ)) (fun u st=>aG C bk aH u st fun r fs=>r=vB (n.all (bS t.lows i))∧fs=[]):=by
 have hll:t.lows.length≤1073741824:=by unfold dO at hl;omega
 have hlo:t.lows[i]?=some t.lows[i]:=List.getElem?_eq_getElem hi
 have key:(n.drop 0).all (bS t.lows i)=n.all (bS t.lows i)→ah C bk aH 4 0 (gn i ((0:Nat):Int) (t.lows.map bM) (t.nodes.map aV) (n.map bZ)) (fun u st=>aG C bk aH u st fun r fs=>r=vB (n.all (bS t.lows i))∧fs=[]):=by
  refine bE n (fun k=>(n.drop k).all (bS t.lows i)=n.all (bS t.lows i)→ah C bk aH 4 0 (gn i k (t.lows.map bM) (t.nodes.map aV) (n.map bZ)) (fun u st=>aG C bk aH u st fun r fs=>r=vB (n.all (bS t.lows i))∧fs=[])) ?_ ?_
  ·intro h0
   refine yN _ _ _ _ _ _ (ay (by simp) (Gh _ _ _ _ _ _ _ ?_))
   rw[List.drop_length] at h0
   simp only[List.all_nil] at h0
   rw[←h0]
   exact⟨rfl,by first|rfl|trivial⟩
  ·intro k s hk hs hd htk hnext h0
   have hsl:s.length≤tot bJ n:=jI (w:=bJ) hs
   rw[hd,List.all_cons] at h0
   refine yN _ _ _ _ _ _ (ai (by simp;omega) ?_)
   have keyI:(s.drop 0).all (fE t.lows i)=s.all (fE t.lows i)→ah C bk kf 3 2 (iz i k ((0:Nat):Int) (t.lows.map bM) (t.nodes.map aV) (n.map bZ)) (fun u st=>pO C bk aH 4 0 B7 u st (fun u st=>aG C bk aH u st fun r fs=>r=vB (n.all (bS t.lows i))∧fs=[])):=by
    refine bE s (fun j=>(s.drop j).all (fE t.lows i)=s.all (fE t.lows i)→ah C bk kf 3 2 (iz i k j (t.lows.map bM) (t.nodes.map aV) (n.map bZ)) (fun u st=>pO C bk aH 4 0 B7 u st (fun u st=>aG C bk aH u st fun r fs=>r=vB (n.all (bS t.lows i))∧fs=[]))) ?_ ?_
    ·intro h1
     rw[List.drop_length] at h1
     simp only[List.all_nil] at h1
     refine yO _ _ _ _ _ _ _ (⟨_,cG hs,ay (by simp) (Gj _ _ _ _ _ _ _ _ ?_)⟩)
     rw[aJ (by omega)]
     exact hnext (by rw[←h0];unfold bS;rw[←h1];simp)
    ·intro j x hj hx hdj htj hn2 h1
     rw[hdj,List.all_cons] at h1
     have gO:fE t.lows i x=false→pO C bk aH 4 0 B7 TX.ret (oh (t.lows.map bM) (t.nodes.map aV) (n.map bZ)) (fun u st=>aG C bk aH u st fun r fs=>r=vB (n.all (bS t.lows i))∧fs=[]):=fun e=>Gi _ _ _ _ (Gk _ _ _ _ (by
      have e2:bS t.lows i s=false:=by unfold bS;rw[←h1,e];rfl
      rw[←h0,e2];exact⟨rfl,by first|rfl|trivial⟩))
     have gN:fE t.lows i x=true→ah C bk kf 3 2 (iz i k ((j:Int)+1) (t.lows.map bM) (t.nodes.map aV) (n.map bZ)) (fun u st=>pO C bk aH 4 0 B7 u st (fun u st=>aG C bk aH u st fun r fs=>r=vB (n.all (bS t.lows i))∧fs=[])):=fun e=>hn2 (by rw[←h1,e];rfl)
     have e:fE t.lows i x=(!decide (fU x.b x.a<t.lows[i])&&(match t.lows[i+1]? with|some hi=>decide (fU x.b x.a<hi)|none=>true)):=by simp only[fE,PC,hlo];rfl
     rw[e] at gO gN
     refine yO _ _ _ _ _ _ _ (⟨_,cG hs,ai (by simp;omega) ⟨_,cG hs,?_⟩⟩)
     rw[aJ (a:=(i:Int)) (by omega),aJ (a:=(j:Int)) (by omega)]
     simp only[mo,u7,aK,hx,hlo,Option.some.injEq,exists_eq_left',Bq,exists_eq_left,dS,g7,bL,List.length_map,Int.ofNat_eq_natCast]
     by_cases h2:fU x.b x.a<t.lows[i]
     ·rw[if_pos h2]
      exact gO (by rw[decide_eq_true h2];rfl)
     ·rw[if_neg h2]
      by_cases h3:i+1<t.lows.length
      ·have hhi:t.lows[i+1]?=some t.lows[i+1]:=List.getElem?_eq_getElem h3
       rw[if_pos (by omega),show((i:Int)+1)=((i+1:Nat):Int) by omega,aK,hhi]
       simp only[Option.some.injEq,exists_eq_left']
       rw[hhi] at gO gN
       by_cases h4:fU x.b x.a<t.lows[i+1]
       ·rw[if_neg (by omega)]
        exact gN (by rw[decide_eq_false h2];simp[h4])
       ·rw[if_pos (by omega)]
        exact gO (by simp[h4])
      ·rw[if_neg (by omega)]
       have hno:t.lows[i+1]?=none:=List.getElem?_eq_none (by omega)
       rw[hno] at gN
       exact gN (by rw[decide_eq_false h2];rfl)
   exact keyI rfl
 exact key rfl
theorem B1 (t:Tree) (i:Nat) (n:List (List Key)) (hi:i<t.lows.length) (hl:dO t≤1073741824) (hn:n.length≤1073741824) (hz:tot bJ n≤1073741824):ah C aZ an 4 0 (ij i (n.map bZ) (n.length:Int) ((0:Nat):Int) (t.lows.map bM) (t.nodes.map aV)) (fun u st=>aG C aZ an u st fun r fs=>r=vB (n.all (bS t.lows i))∧fs=[]):=by
 have hll:t.lows.length≤1073741824:=by unfold dO at hl;omega
 have hlo:t.lows[i]?=some t.lows[i]:=List.getElem?_eq_getElem hi
 have key:(n.drop 0).all (bS t.lows i)=n.all (bS t.lows i)→ah C aZ an 4 0 (ij i (n.map bZ) (n.length:Int) ((0:Nat):Int) (t.lows.map bM) (t.nodes.map aV)) (fun u st=>aG C aZ an u st fun r fs=>r=vB (n.all (bS t.lows i))∧fs=[]):=by
  refine bE n (fun k=>(n.drop k).all (bS t.lows i)=n.all (bS t.lows i)→ah C aZ an 4 0 (ij i (n.map bZ) (n.length:Int) k (t.lows.map bM) (t.nodes.map aV)) (fun u st=>aG C aZ an u st fun r fs=>r=vB (n.all (bS t.lows i))∧fs=[])) ?_ ?_
  ·intro h0
   refine uI _ _ _ _ _ _ _ (ay (by simp) (Ds _ _ _ _ _ _ _ _ ?_))
   rw[List.drop_length] at h0
   simp only[List.all_nil] at h0
   rw[←h0]
   exact⟨rfl,by first|rfl|trivial⟩
  ·intro k s hk hs hd htk hnext h0
   have hsl:s.length≤tot bJ n:=jI (w:=bJ) hs
   rw[hd,List.all_cons] at h0
   refine uI _ _ _ _ _ _ _ (ai (by simp;omega) ⟨_,cG hs,?_⟩)
   have keyI:(s.drop 0).all (fE t.lows i)=s.all (fE t.lows i)→ah C aZ ke 3 2 (gf i (n.map bZ) (n.length:Int) k (s.map bK) ((0:Nat):Int) (t.lows.map bM) (t.nodes.map aV)) (fun u st=>pO C aZ an 4 0 si u st (fun u st=>aG C aZ an u st fun r fs=>r=vB (n.all (bS t.lows i))∧fs=[])):=by
    refine bE s (fun j=>(s.drop j).all (fE t.lows i)=s.all (fE t.lows i)→ah C aZ ke 3 2 (gf i (n.map bZ) (n.length:Int) k (s.map bK) j (t.lows.map bM) (t.nodes.map aV)) (fun u st=>pO C aZ an 4 0 si u st (fun u st=>aG C aZ an u st fun r fs=>r=vB (n.all (bS t.lows i))∧fs=[]))) ?_ ?_
    ·intro h1
     rw[List.drop_length] at h1
     simp only[List.all_nil] at h1
     refine uJ _ _ _ _ _ _ _ _ _ (ay (by simp) (Du _ _ _ _ _ _ _ _ _ _ _ ?_))
     rw[aJ (by omega)]
     exact hnext (by rw[←h0];unfold bS;rw[←h1];simp)
    ·intro j x hj hx hdj htj hn2 h1
     rw[hdj,List.all_cons] at h1
     have gO:fE t.lows i x=false→pO C aZ an 4 0 si TX.ret (mK (t.lows.map bM) (t.nodes.map aV) x.b x.a x.k x.c x.g) (fun u st=>aG C aZ an u st fun r fs=>r=vB (n.all (bS t.lows i))∧fs=[]):=fun e=>Dt _ _ _ _ _ _ _ _ (Dv _ _ _ _ _ _ _ _ (by
      have e2:bS t.lows i s=false:=by unfold bS;rw[←h1,e];rfl
      rw[←h0,e2];exact⟨rfl,by first|rfl|trivial⟩))
     have gN:fE t.lows i x=true→ah C aZ ke 3 2 (gf i (n.map bZ) (n.length:Int) k (s.map bK) ((j:Int)+1) (t.lows.map bM) (t.nodes.map aV)) (fun u st=>pO C aZ an 4 0 si u st (fun u st=>aG C aZ an u st fun r fs=>r=vB (n.all (bS t.lows i))∧fs=[])):=fun e=>hn2 (by rw[←h1,e];rfl)
     have e:fE t.lows i x=(!decide (fU x.b x.a<t.lows[i])&&(match t.lows[i+1]? with|some hi=>decide (fU x.b x.a<hi)|none=>true)):=by simp only[fE,PC,hlo];rfl
     rw[e] at gO gN
     refine uJ _ _ _ _ _ _ _ _ _ (ai (by simp;omega) ?_)
     rw[aJ (a:=(i:Int)) (by omega),aJ (a:=(j:Int)) (by omega)]
     simp only[mo,u7,aK,hx,hlo,Option.some.injEq,exists_eq_left',vk,exists_eq_left,dS,g7,bL,List.length_map,Int.ofNat_eq_natCast]
     by_cases h2:fU x.b x.a<t.lows[i]
     ·rw[if_pos h2]
      exact gO (by rw[decide_eq_true h2];rfl)
     ·rw[if_neg h2]
      by_cases h3:i+1<t.lows.length
      ·have hhi:t.lows[i+1]?=some t.lows[i+1]:=List.getElem?_eq_getElem h3
       rw[if_pos (by omega),show((i:Int)+1)=((i+1:Nat):Int) by omega,aK,hhi]
       simp only[Option.some.injEq,exists_eq_left']
       rw[hhi] at gO gN
       by_cases h4:fU x.b x.a<t.lows[i+1]
       ·rw[if_neg (by omega)]
        exact gN (by rw[decide_eq_false h2];simp[h4])
       ·rw[if_pos (by omega)]
        exact gO (by simp[h4])
      ·rw[if_neg (by omega)]
       have hno:t.lows[i+1]?=none:=List.getElem?_eq_none (by omega)
       rw[hno] at gN
       exact gN (by rw[decide_eq_false h2];rfl)
   exact keyI rfl
 exact key rfl
theorem F1 (t:Tree) (i:Nat) (n:List (List Key)) (ha:t.nodes[i]?=some n) (hlo:i<t.lows.length) (hl:dO t≤1073741824):aa C bk [dH t,vI i] (vB (eI n&&((decide (i=0)|| !decide ((aO n).length=0))&&n.all (bS t.lows i)))) []:=by
 have hz:aR n≤tot aR t.nodes:=jI (w:=aR) ha
 have e1:aR n=n.length+tot bJ n:=rfl
 have e2:dO t=t.lows.length+(t.nodes.length+tot aR t.nodes):=rfl
 have hnk:=cL n
 refine(Kv _ _ _ _ ⟨_,cG (e:=aV) ha,_,qB n (by omega) (by omega),?_⟩).run
 cases h1:eI n with
 |false=>exact ai rfl ⟨rfl,by first|rfl|trivial⟩
 |true=>
  refine ay rfl ?_
  have hloop:=Em t i n hlo hl (by omega) (by omega)
  have conv: ∀B:Bool,B=n.all (bS t.lows i)→ah C bk aH 4 0 (gn i 0 (t.lows.map bM) (t.nodes.map aV) (n.map bZ)) (fun u st=>aG C bk aH u st fun r fs=>r=vB B∧fs=[]):=fun B hB=>by subst hB;exact hloop
  cases i with
  |zero=>exact ay (by simp) (conv _ (by simp))
  |succ k=>
   refine ai (by first|(simp;done)|(simp;omega)) ⟨_,tI n (by omega) (by omega),?_⟩
   by_cases h2:(aO n).length=0
   ·refine ai (by simp[h2]) ?_
    simp[h2]
   ·exact ay (by simpa using h2) (conv _ (by simp[h2]))
theorem qD (t:Tree) (hl:dO t≤1073741824):aa C ak [dH t] (vB (dQ t)) []:=by
 have e2:dO t=t.lows.length+(t.nodes.length+tot aR t.nodes):=rfl
 refine(KE _ _ _ ?_).run
 simp only[Av,exists_eq_left,List.length_map,Int.ofNat_eq_natCast,bw,bO]
 unfold dQ
 cases h1:iJ (t.nodes.length:Int) 1 20 with
 |false=>exact ay rfl ⟨rfl,by first|rfl|trivial⟩
 |true=>
  refine ai rfl ?_
  have hn1:1≤t.nodes.length:=by have:=of_decide_eq_true h1;omega
  by_cases h2:t.lows.length=t.nodes.length
  ·refine ai (by simp[h2]) ?_
   have h0:t.lows[0]?=some t.lows[0]:=List.getElem?_eq_getElem (by omega)
   have hz0:fu t.lows 0=some t.lows[0]:=by rw[show(0:Int)=((0:Nat):Int) from rfl,aK];exact h0
   simp only[u7,hz0,h0,Option.some.injEq,exists_eq_left',bL]
   by_cases h3:t.lows[0]=0
   ·rw[if_pos (by simpa using h3)]
    have hw:(true&&(decide (t.lows.length=t.nodes.length)&&((decide (t.lows[0]=0))&&(cE t.nodes.length (cJ t)&&decide ((aW t).length≤60)))))=(cE t.nodes.length (cJ t)&&decide ((aW t).length≤60)):=by simp[h2,h3]
    rw[hw]
    have key:((List.range' 0 (t.nodes.length-0)).all (cJ t)&&decide ((aW t).length≤60))=(cE t.nodes.length (cJ t)&&decide ((aW t).length≤60))→ah C ak aj 4 0 (iA ((0:Nat):Int) (t.lows.map bM) (t.nodes.map aV)) (fun u st=>aG C ak aj u st fun r fs=>r=vB (cE t.nodes.length (cJ t)&&decide ((aW t).length≤60))∧fs=[]):=by
     refine m0 t.nodes.length (fun i=>((List.range' i (t.nodes.length-i)).all (cJ t)&&decide ((aW t).length≤60))=(cE t.nodes.length (cJ t)&&decide ((aW t).length≤60))→ah C ak aj 4 0 (iA i (t.lows.map bM) (t.nodes.map aV)) _) ?_ ?_
     ·intro h0
      rw[Nat.sub_self] at h0
      simp only[List.range'_zero,List.all_nil,Bool.true_and] at h0
      refine yT _ _ _ _ (ay (by simp) (GD _ _ _ _ _ ⟨_,pF t hl,?_⟩))
      rw[←h0]
      simp[g7]
      omega
     ·intro i hi hn h0
      rw[jg hi,List.all_cons] at h0
      have ha:t.nodes[i]?=some t.nodes[i]:=List.getElem?_eq_getElem hi
      have hli:t.lows[i]?=some t.lows[i]:=List.getElem?_eq_getElem (by omega)
      have gO:cJ t i=false→aG C ak aj TX.ret (lI (t.lows.map bM) (t.nodes.map aV)) (fun r fs=>r=vB (cE t.nodes.length (cJ t)&&decide ((aW t).length≤60))∧fs=[]):=fun e=>GC _ _ _ (by rw[←h0,e];exact⟨rfl,by first|rfl|trivial⟩)
      have gN:cJ t i=true→ah C ak aj 4 0 (iA ((i:Int)+1) (t.lows.map bM) (t.nodes.map aV)) (fun u st=>aG C ak aj u st fun r fs=>r=vB (cE t.nodes.length (cJ t)&&decide ((aW t).length≤60))∧fs=[]):=fun e=>hn (by rw[←h0,e];rfl)
      have hh: ∀q,aa C bk [dH t,vI i] (vB q) []↔q=_:=fun q=>rj (F1 t i t.nodes[i] ha (by omega) hl)
      refine yT _ _ _ _ (ai (by simp;omega) ?_)
      rw[aJ (by omega)]
      simp only[hh,exists_eq_left,dS,g7,bL,bO]
      cases i with
      |zero=>
       have e:cJ t 0=(eI t.nodes[0]&&((decide (0=0)|| !decide ((aO t.nodes[0]).length=0))&&t.nodes[0].all (bS t.lows 0))):=by simp only[cJ,gl,ha,Bool.true_and]
       rw[e] at gO gN
       rw[if_neg (by omega)]
       exact o8 gN gO
      |succ k=>
       have hk:t.lows[k]?=some t.lows[k]:=List.getElem?_eq_getElem (by omega)
       have e:cJ t (k+1)=(decide (t.lows[k]<t.lows[k+1])&&(eI t.nodes[k+1]&&((decide (k+1=0)|| !decide ((aO t.nodes[k+1]).length=0))&&t.nodes[k+1].all (bS t.lows (k+1))))):=by simp only[cJ,gl,ha,hk,hli]
       rw[e] at gO gN
       rw[if_pos (by omega),eE (by omega),show((k+1:Nat):Int)-1=(k:Int) by omega]
       simp only[u7,aK,hk,hli,Option.some.injEq,exists_eq_left']
       by_cases h4:t.lows[k]<t.lows[k+1]
       ·rw[if_neg (by omega)]
        rw[decide_eq_true h4,Bool.true_and] at gO gN
        exact o8 gN gO
       ·rw[if_pos (by omega)]
        exact gO (by rw[decide_eq_false h4];rfl)
    exact key rfl
   ·rw[if_neg (by simpa using h3)]
    simp[h3]
  ·refine ay (by simp;omega) ?_
   simp[h2]
theorem C2 (t:Tree) (i:Nat) (n:List (List Key)) (ha:t.nodes[i]?=some n) (hlo:i<t.lows.length) (hl:dO t≤1073741824):aa C aZ [dH t,vI i] (vB (n.all (bS t.lows i))) []:=by
 have hz:aR n≤tot aR t.nodes:=jI (w:=aR) ha
 have e1:aR n=n.length+tot bJ n:=rfl
 have e2:dO t=t.lows.length+(t.nodes.length+tot aR t.nodes):=rfl
 refine(GJ _ _ _ _ ⟨_,cG (e:=aV) ha,?_⟩).run
 simp only[List.length_map,Int.ofNat_eq_natCast]
 exact B1 t i n hlo hl (by omega) (by omega)
theorem qE (t:Tree) (hl:dO t≤1073741824):aa C bB [dH t] (vB (dQ t)) []:=by
 have e2:dO t=t.lows.length+(t.nodes.length+tot aR t.nodes):=rfl
 refine(Kr _ _ _ ?_).run
 simp only[qw,exists_eq_left,List.length_map,Int.ofNat_eq_natCast,bw,bO]
 unfold dQ
 cases h1:iJ (t.nodes.length:Int) 1 20 with
 |false=>exact ay rfl ⟨rfl,by first|rfl|trivial⟩
 |true=>
  refine ai rfl ?_
  have hn1:1≤t.nodes.length:=by have:=of_decide_eq_true h1;omega
  by_cases h2:t.lows.length=t.nodes.length
  ·refine ai (by simp[h2]) ?_
   have h0:t.lows[0]?=some t.lows[0]:=List.getElem?_eq_getElem (by omega)
   have hz0:fu t.lows 0=some t.lows[0]:=by rw[show(0:Int)=((0:Nat):Int) from rfl,aK];exact h0
   simp only[u7,hz0,h0,Option.some.injEq,exists_eq_left',bL]
   by_cases h3:t.lows[0]=0
   ·rw[if_pos (by simpa using h3)]
    have hw:(true&&(decide (t.lows.length=t.nodes.length)&&((decide (t.lows[0]=0))&&(cE t.nodes.length (cJ t)&&decide ((aW t).length≤60)))))=(cE t.nodes.length (cJ t)&&decide ((aW t).length≤60)):=by simp[h2,h3]
    rw[hw]
    have key: ∀c:Nat,c+((t.nodes.drop 0).flatMap aO).length=(aW t).length→((List.range' 0 (t.nodes.length-0)).all (cJ t)&&decide ((aW t).length≤60))=(cE t.nodes.length (cJ t)&&decide ((aW t).length≤60))→ah C bB aH 4 0 (fk c (t.nodes.map aV) ((0:Nat):Int) (t.lows.map bM)) (fun u st=>aG C bB aH u st fun r fs=>r=vB (cE t.nodes.length (cJ t)&&decide ((aW t).length≤60))∧fs=[]):=by
     refine m0 t.nodes.length (fun i=> ∀c:Nat,c+((t.nodes.drop i).flatMap aO).length=(aW t).length→((List.range' i (t.nodes.length-i)).all (cJ t)&&decide ((aW t).length≤60))=(cE t.nodes.length (cJ t)&&decide ((aW t).length≤60))→ah C bB aH 4 0 (fk c (t.nodes.map aV) i (t.lows.map bM)) _) ?_ ?_
     ·intro c hc h0
      rw[Nat.sub_self] at h0
      simp only[List.range'_zero,List.all_nil,Bool.true_and] at h0
      rw[List.drop_length] at hc
      simp at hc
      refine yM _ _ _ _ _ (ay (by simp) (Gg _ _ _ _ _ _ _ ?_))
      rw[←h0]
      simp[g7]
      omega
     ·intro i hi hn c hc h0
      rw[jg hi,List.all_cons] at h0
      have ha:t.nodes[i]?=some t.nodes[i]:=List.getElem?_eq_getElem hi
      have hli:t.lows[i]?=some t.lows[i]:=List.getElem?_eq_getElem (by omega)
      rw[List.drop_eq_getElem_cons hi,List.flatMap_cons,List.length_append] at hc
      have hz:aR t.nodes[i]≤tot aR t.nodes:=jI (w:=aR) ha
      have e1:aR t.nodes[i]=t.nodes[i].length+tot bJ t.nodes[i]:=rfl
      have hnk:=cL t.nodes[i]
      have htk:=kY t
      have gO1:cJ t i=false→aG C bB aH TX.ret (iy (t.lows.map bM) (t.nodes.map aV) (t.nodes[i].map bZ)) (fun r fs=>r=vB (cE t.nodes.length (cJ t)&&decide ((aW t).length≤60))∧fs=[]):=fun e=>Ge _ _ _ _ (by rw[←h0,e];exact⟨rfl,by first|rfl|trivial⟩)
      have gO2:cJ t i=false→aG C bB aH TX.ret (og (t.lows.map bM) (t.nodes.map aV) (t.nodes[i].map bZ) ((aO t.nodes[i]).map bK)) (fun r fs=>r=vB (cE t.nodes.length (cJ t)&&decide ((aW t).length≤60))∧fs=[]):=fun e=>Gf _ _ _ _ _ (by rw[←h0,e];exact⟨rfl,by first|rfl|trivial⟩)
      have gN:cJ t i=true→ah C bB aH 4 0 (fk ((c:Int)+((aO t.nodes[i]).length:Int)) (t.nodes.map aV) ((i:Int)+1) (t.lows.map bM)) (fun u st=>aG C bB aH u st fun r fs=>r=vB (cE t.nodes.length (cJ t)&&decide ((aW t).length≤60))∧fs=[]):=fun e=>hn (c+(aO t.nodes[i]).length) (by omega) (by rw[←h0,e];rfl)
      have hb: ∀q,aa C aZ [dH t,vI i] (vB q) []↔q=_:=fun q=>rj (C2 t i t.nodes[i] ha (by omega) hl)
      have hk: ∀q,aa C cm [fP t.nodes[i]] (.c (.sub 5 q)) []↔q=(aO t.nodes[i]).map bK:=fun q=>iw t.nodes[i] (by omega) (by omega) q
      have ho: ∀q,aa C bf [fP t.nodes[i]] (vB q) []↔q=eI t.nodes[i]:=fun q=>Kh t.nodes[i] (by omega) (by omega) q
      refine yM _ _ _ _ _ (ai (by simp;omega) ?_)
      simp only[q9,aK,ha,Option.some.injEq,exists_eq_left',hb,hk,ho,exists_eq_left,dS,g7,bw,bL,bO,List.length_map,Int.ofNat_eq_natCast]
      rw[aJ (a:=(c:Int)) (by omega),aJ (a:=(i:Int)) (by omega)]
      cases i with
      |zero=>
       have e:cJ t 0=(eI t.nodes[0]&&((decide (0=0)|| !decide ((aO t.nodes[0]).length=0))&&t.nodes[0].all (bS t.lows 0))):=by simp only[cJ,gl,ha,Bool.true_and]
       rw[e] at gO1 gN
       have hzz: ¬((0:Int)<((0:Nat):Int)):=by omega
       simp only[if_neg hzz]
       cases h4:eI t.nodes[0] with
       |false=>exact ay rfl (gO1 (by rw[h4];rfl))
       |true=>
        refine ai rfl ?_
        cases h5:t.nodes[0].all (bS t.lows 0) with
        |false=>exact ay rfl (gO1 (by rw[h4,h5];simp))
        |true=>exact ai rfl (gN (by rw[h4,h5];simp))
      |succ k=>
       have hk1:t.lows[k]?=some t.lows[k]:=List.getElem?_eq_getElem (by omega)
       have e:cJ t (k+1)=(decide (t.lows[k]<t.lows[k+1])&&(eI t.nodes[k+1]&&((decide (k+1=0)|| !decide ((aO t.nodes[k+1]).length=0))&&t.nodes[k+1].all (bS t.lows (k+1))))):=by simp only[cJ,gl,ha,hk1,hli]
       rw[e] at gO1 gO2 gN
       have hzz:(0:Int)<((k+1:Nat):Int):=by omega
       simp only[if_pos hzz]
       rw[eE (by omega),show((k+1:Nat):Int)-1=(k:Int) by omega]
       simp only[u7,aK,hk1,hli,Option.some.injEq,exists_eq_left']
       by_cases h6:t.lows[k]<t.lows[k+1]
       ·rw[if_neg (by omega)]
        cases h4:eI t.nodes[k+1] with
        |false=>exact ay rfl (gO1 (by rw[h4];simp))
        |true=>
         refine ai rfl ?_
         cases h5:t.nodes[k+1].all (bS t.lows (k+1)) with
         |false=>exact ay rfl (gO1 (by rw[h4,h5];simp))
         |true=>
          refine ai rfl ?_
          by_cases h7:(aO t.nodes[k+1]).length=0
          ·rw[if_pos (by omega)];exact gO2 (by rw[h4,h5];simp[h7])
          ·rw[if_neg (by omega)];exact gN (by rw[h4,h5,decide_eq_true h6];simp[h7])
       ·rw[if_pos (by omega)]
        exact gO1 (by rw[decide_eq_false h6];rfl)
    exact key 0 (by simp[aW]) rfl
   ·rw[if_neg (by simpa using h3)]
    simp[h3]
  ·refine ay (by simp;omega) ?_
   simp[h2]
theorem En (p:Pool) (hS:eF p≤4194304):aa C bh [ki p] (vB (gz p)) []:=by
 have hP:=lE hS
 have hname: ∀v∈p.vols,v.name.size≤140737488355328:=fun v hv=>by have:=qg (w:=oR) hv;have e:oR v=v.name.size:=rfl;omega
 refine(Jl _ _ _ _ _ _ _ ?_).run
 unfold gz
 have key:((List.range' 0 (p.vols.length-0)).all (bY p)&&decide (p.vols.length≤6))=(cE p.vols.length (bY p)&&decide (p.vols.length≤6))→ah C bh an 4 0 (ja ((0:Nat):Int) (p.t.lows.map bM) (p.t.nodes.map aV) (p.ages.map dK) (p.cells.map bX) (p.vols.map ek) p.next) (fun u st=>aG C bh an u st fun r fs=>r=vB (cE p.vols.length (bY p)&&decide (p.vols.length≤6))∧fs=[]):=by
  refine m0 p.vols.length (fun i=>((List.range' i (p.vols.length-i)).all (bY p)&&decide (p.vols.length≤6))=(cE p.vols.length (bY p)&&decide (p.vols.length≤6))→ah C bh an 4 0 (ja i (p.t.lows.map bM) (p.t.nodes.map aV) (p.ages.map dK) (p.cells.map bX) (p.vols.map ek) p.next) (fun u st=>aG C bh an u st fun r fs=>r=vB (cE p.vols.length (bY p)&&decide (p.vols.length≤6))∧fs=[])) ?_ ?_
  ·intro h0
   rw[Nat.sub_self] at h0
   simp only[List.range'_zero,List.all_nil,Bool.true_and] at h0
   refine wq _ _ _ _ _ _ _ _ (ay (by simp) (EK _ _ _ _ _ _ _ _ _ ?_))
   rw[←h0]
   simp[g7]
   omega
  ·intro i hi hn h0
   rw[jg hi,List.all_cons] at h0
   have ha:p.vols[i]?=some p.vols[i]:=List.getElem?_eq_getElem hi
   have hv:=hname p.vols[i] (List.getElem_mem hi)
   have hkl:=IS p.ages p.vols[i].age
   have gO1:bY p i=false→aG C bh an TX.ret (jb (p.t.lows.map bM) (p.t.nodes.map aV) (p.ages.map dK) (p.cells.map bX) (p.vols.map ek) p.next p.vols[i].name p.vols[i].age p.vols[i].size p.vols[i].fx) (fun r fs=>r=vB (cE p.vols.length (bY p)&&decide (p.vols.length≤6))∧fs=[]):=fun e=>EI _ _ _ _ _ _ _ _ _ _ _ (by rw[←h0,e];exact⟨rfl,by first|rfl|trivial⟩)
   have gO2:bY p i=false→aG C bh an TX.ret (nu (p.t.lows.map bM) (p.t.nodes.map aV) (p.ages.map dK) (p.cells.map bX) (p.vols.map ek) p.next p.vols[i].name p.vols[i].age p.vols[i].size p.vols[i].fx ((iM p.ages p.vols[i].age).map bM)) (fun r fs=>r=vB (cE p.vols.length (bY p)&&decide (p.vols.length≤6))∧fs=[]):=fun e=>EJ _ _ _ _ _ _ _ _ _ _ _ _ (by rw[←h0,e];exact⟨rfl,by first|rfl|trivial⟩)
   have gN:bY p i=true→ah C bh an 4 0 (ja ((i:Int)+1) (p.t.lows.map bM) (p.t.nodes.map aV) (p.ages.map dK) (p.cells.map bX) (p.vols.map ek) p.next) (fun u st=>aG C bh an u st fun r fs=>r=vB (cE p.vols.length (bY p)&&decide (p.vols.length≤6))∧fs=[]):=fun e=>hn (by rw[←h0,e];rfl)
   have hin: ∀b:Bool,((p.vols.take i).any fun u=>decide (u.age=p.vols[i].age))=b→(b=true→bY p i=false)→(b=false→bY p i=true)→ah C bh j9 3 2 (gC i 0 (p.t.lows.map bM) (p.t.nodes.map aV) (p.ages.map dK) (p.cells.map bX) (p.vols.map ek) p.next p.vols[i].name p.vols[i].age p.vols[i].size p.vols[i].fx) (fun u st=>pO C bh an 4 0 sg u st (fun u st=>aG C bh an u st fun r fs=>r=vB (cE p.vols.length (bY p)&&decide (p.vols.length≤6))∧fs=[])):=by
    intro b hb hbt hbf
    have keyI:(((p.vols.take i).drop 0).any fun u=>decide (u.age=p.vols[i].age))=b→ah C bh j9 3 2 (gC i ((0:Nat):Int) (p.t.lows.map bM) (p.t.nodes.map aV) (p.ages.map dK) (p.cells.map bX) (p.vols.map ek) p.next p.vols[i].name p.vols[i].age p.vols[i].size p.vols[i].fx) (fun u st=>pO C bh an 4 0 sg u st (fun u st=>aG C bh an u st fun r fs=>r=vB (cE p.vols.length (bY p)&&decide (p.vols.length≤6))∧fs=[])):=by
     have hle:(p.vols.take i).length=i:=by simp;omega
     refine bE (p.vols.take i) (fun k=>(((p.vols.take i).drop k).any fun u=>decide (u.age=p.vols[i].age))=b→ah C bh j9 3 2 (gC i k (p.t.lows.map bM) (p.t.nodes.map aV) (p.ages.map dK) (p.cells.map bX) (p.vols.map ek) p.next p.vols[i].name p.vols[i].age p.vols[i].size p.vols[i].fx) (fun u st=>pO C bh an 4 0 sg u st (fun u st=>aG C bh an u st fun r fs=>r=vB (cE p.vols.length (bY p)&&decide (p.vols.length≤6))∧fs=[]))) ?_ ?_
     ·intro h1
      rw[List.drop_length] at h1
      simp only[List.any_nil] at h1
      refine wu _ _ _ _ _ _ _ _ _ _ _ _ _ (ay (by simp;omega) (EM _ _ _ _ _ _ _ _ _ _ _ _ _ ?_))
      rw[aJ (by omega)]
      exact gN (hbf h1.symm)
     ·intro k u hk hu hd htk hn2 h1
      have hu':p.vols[k]?=some u:=by rw[←hu,List.getElem?_take];simp;omega
      rw[hd,List.any_cons] at h1
      refine wu _ _ _ _ _ _ _ _ _ _ _ _ _ (ai (by simp;omega) ?_)
      rw[aJ (by omega)]
      simp only[D7,aK,hu',Option.some.injEq,exists_eq_left',bw,bL]
      by_cases h2:u.age=p.vols[i].age
      ·rw[if_pos h2]
       rw[decide_eq_true h2,Bool.true_or] at h1
       exact EL _ _ _ _ _ _ _ _ _ _ _ (gO1 (hbt h1.symm))
      ·rw[if_neg h2]
       rw[decide_eq_false h2,Bool.false_or] at h1
       exact hn2 h1
    exact keyI hb
   have hage: ∀z,aa C dR [jG p.ages,vI p.vols[i].age] (vI z) []↔z=iX p.ages p.vols[i].age:=fun z=>xy p.ages p.vols[i].age (by omega) z
   have hkid: ∀z,aa C ez [jG p.ages,vI p.vols[i].age] (.c (.sub 1 z)) []↔z=(iM p.ages p.vols[i].age).map bM:=fun z=>Oc (FT p.ages p.vols[i].age (by omega))
   refine wq _ _ _ _ _ _ _ _ (ai (by simp;omega) ?_)
   simp only[D7,aK,ha,Option.some.injEq,exists_eq_left',Ke p.vols[i].name hv,Av,hage,hkid,exists_eq_left,bO,dS,bL,List.length_map,Int.ofNat_eq_natCast]
   cases h1:z8 p.vols[i].name with
   |false=>exact ay rfl (gO1 (by simp[bY,ha,h1]))
   |true=>
    refine ai rfl ?_
    cases h2:iJ p.vols[i].size 1 12 with
    |false=>exact ay rfl (gO1 (by simp[bY,ha,h2]))
    |true=>
     refine ai rfl ?_
     by_cases h3:iX p.ages p.vols[i].age<0
     ·rw[if_pos h3];exact gO1 (by simp[bY,ha,h3])
     ·rw[if_neg h3]
      by_cases h4:(iM p.ages p.vols[i].age).length=0
      ·rw[if_neg (by omega)]
       cases i with
       |zero=>
        rw[if_neg (by omega)]
        exact hin _ rfl (fun e=>by simp at e) (fun e=>by simp[bY,ha,h1,h2,h3,h4,gl])
       |succ k=>
        have hk:p.vols[k]?=some p.vols[k]:=List.getElem?_eq_getElem (by omega)
        rw[if_pos (by omega),eE (by omega),show((k+1:Nat):Int)-1=(k:Int) by omega]
        simp only[aK,hk,Option.some.injEq,exists_eq_left']
        cases h5:JT p.vols[k].name p.vols[k+1].name with
        |false=>exact ay rfl (gO2 (by simp[bY,ha,hk,gl,h5]))
        |true=>exact ai rfl (hin _ rfl (fun e=>by simp only[bY,ha,e];simp) (fun e=>by simp only[bY,ha,hk,gl,h5,h1,h2,e];simp[h3,h4]))
      ·rw[if_pos (by omega)];exact gO2 (by simp[bY,ha,h4])
 exact key rfl
theorem F2 (p:Pool) (hS:eF p≤4194304):aa C dg [ki p] (vB (gz p)) []:=by
 have hP:=lE hS
 have hname: ∀v∈p.vols,v.name.size≤140737488355328:=fun v hv=>by have:=qg (w:=oR) hv;have e:oR v=v.name.size:=rfl;omega
 refine(K8 _ _ _ _ _ _ _ ?_).run
 unfold gz
 have key:((List.range' 0 (p.vols.length-0)).all (bY p)&&decide (p.vols.length≤6))=(cE p.vols.length (bY p)&&decide (p.vols.length≤6))→ah C dg an 4 0 (iG (p.vols.map ek) ((0:Nat):Int) (p.t.lows.map bM) (p.t.nodes.map aV) (p.ages.map dK) (p.cells.map bX) p.next) (fun u st=>aG C dg an u st fun r fs=>r=vB (cE p.vols.length (bY p)&&decide (p.vols.length≤6))∧fs=[]):=by
  refine m0 p.vols.length (fun i=>((List.range' i (p.vols.length-i)).all (bY p)&&decide (p.vols.length≤6))=(cE p.vols.length (bY p)&&decide (p.vols.length≤6))→ah C dg an 4 0 (iG (p.vols.map ek) i (p.t.lows.map bM) (p.t.nodes.map aV) (p.ages.map dK) (p.cells.map bX) p.next) (fun u st=>aG C dg an u st fun r fs=>r=vB (cE p.vols.length (bY p)&&decide (p.vols.length≤6))∧fs=[])) ?_ ?_
  ·intro h0
   rw[Nat.sub_self] at h0
   simp only[List.range'_zero,List.all_nil,Bool.true_and] at h0
   refine zl _ _ _ _ _ _ _ _ (ay (by simp) (Ht _ _ _ _ _ _ _ _ _ _ ?_))
   rw[←h0]
   simp[g7]
   omega
  ·intro i hi hn h0
   rw[jg hi,List.all_cons] at h0
   have ha:p.vols[i]?=some p.vols[i]:=List.getElem?_eq_getElem hi
   have hv:=hname p.vols[i] (List.getElem_mem hi)
   have hkl:=IS p.ages p.vols[i].age
   have gO1:bY p i=false→aG C dg an TX.ret (gq (p.t.lows.map bM) (p.t.nodes.map aV) (p.ages.map dK) (p.cells.map bX) (p.vols.map ek) p.next p.vols[i].name p.vols[i].age p.vols[i].size p.vols[i].fx) (fun r fs=>r=vB (cE p.vols.length (bY p)&&decide (p.vols.length≤6))∧fs=[]):=fun e=>Hr _ _ _ _ _ _ _ _ _ _ _ (by rw[←h0,e];exact⟨rfl,by first|rfl|trivial⟩)
   have gO2:bY p i=false→aG C dg an TX.ret (jz (p.t.lows.map bM) (p.t.nodes.map aV) (p.ages.map dK) (p.cells.map bX) (p.vols.map ek) p.next p.vols[i].name p.vols[i].age p.vols[i].size p.vols[i].fx ((iM p.ages p.vols[i].age).map bM)) (fun r fs=>r=vB (cE p.vols.length (bY p)&&decide (p.vols.length≤6))∧fs=[]):=fun e=>Hs _ _ _ _ _ _ _ _ _ _ _ _ (by rw[←h0,e];exact⟨rfl,by first|rfl|trivial⟩)
   have gN:bY p i=true→ah C dg an 4 0 (iG (p.vols.map ek) ((i:Int)+1) (p.t.lows.map bM) (p.t.nodes.map aV) (p.ages.map dK) (p.cells.map bX) p.next) (fun u st=>aG C dg an u st fun r fs=>r=vB (cE p.vols.length (bY p)&&decide (p.vols.length≤6))∧fs=[]):=fun e=>hn (by rw[←h0,e];rfl)
   have hage: ∀z,aa C jj [jG p.ages,vI p.vols[i].age] (vI z) []↔z=iX p.ages p.vols[i].age:=fun z=>xz p.ages p.vols[i].age (by omega) z
   have hkid: ∀z,aa C eA [jG p.ages,vI p.vols[i].age] (.c (.sub 1 z)) []↔z=(iM p.ages p.vols[i].age).map bM:=fun z=>Oc (FW p.ages p.vols[i].age (by omega))
   have hcut:au (p.vols.map ek) 0 (i:Int)=(p.vols.take i).map ek:=by rw[cH,Int.toNat_natCast];rfl
   have hcin:cF 0 (i:Int) (p.vols.length:Int)=true:=by simp;omega
   have hhas: ∀z,aa C fF [z6 (p.vols.take i),.fn lX [[iS p.vols[i].name,iI p.vols[i].age,iI p.vols[i].size,iB p.vols[i].fx]]] (vB z) []↔z=(p.vols.take i).any fun u=>decide (u.age=p.vols[i].age):=fun z=>rj (zD (p.vols.take i) _ _ _ _ (by simp;omega))
   refine zl _ _ _ _ _ _ _ _ (ai (by simp;omega) ?_)
   simp only[hcut,D7,aK,ha,Option.some.injEq,exists_eq_left',Kf p.vols[i].name hv,qw,hage,hkid,hhas,exists_eq_left,bO,dS,bL,List.length_map,Int.ofNat_eq_natCast]
   rw[aJ (by omega)]
   cases h1:z8 p.vols[i].name with
   |false=>exact ay rfl (gO1 (by simp[bY,ha,h1]))
   |true=>
    refine ai rfl ?_
    cases i with
    |zero=>
     rw[if_neg (by omega)]
     cases h2:iJ p.vols[0].size 1 12 with
     |false=>exact ay rfl (gO1 (by simp[bY,ha,h2]))
     |true=>
      refine ai rfl ?_
      by_cases h3:iX p.ages p.vols[0].age<0
      ·rw[if_pos h3];exact gO1 (by simp[bY,ha,h3])
      ·rw[if_neg h3]
       by_cases h4:(iM p.ages p.vols[0].age).length=0
       ·rw[if_neg (by omega)]
        refine ai hcin ?_
        cases h6:(p.vols.take (0)).any fun u=>decide (u.age=p.vols[0].age) with
        |true=>exact ai rfl (gO2 (by simp only[bY,ha,h6];simp))
        |false=>exact ay rfl (gN (by simp only[bY,ha,h6,h1,h2,gl];simp[h3,h4]))
       ·rw[if_pos (by omega)];exact gO2 (by simp[bY,ha,h4])
    |succ k=>
     have hk:p.vols[k]?=some p.vols[k]:=List.getElem?_eq_getElem (by omega)
     rw[if_pos (by omega),eE (by omega),show((k+1:Nat):Int)-1=(k:Int) by omega]
     simp only[aK,hk,Option.some.injEq,exists_eq_left']
     cases h5:JT p.vols[k].name p.vols[k+1].name with
     |false=>exact ay rfl (gO1 (by simp[bY,ha,hk,gl,h5]))
     |true=>
      refine ai rfl ?_
      cases h2:iJ p.vols[k+1].size 1 12 with
      |false=>exact ay rfl (gO1 (by simp[bY,ha,h2]))
      |true=>
       refine ai rfl ?_
       by_cases h3:iX p.ages p.vols[k+1].age<0
       ·rw[if_pos h3];exact gO1 (by simp[bY,ha,h3])
       ·rw[if_neg h3]
        by_cases h4:(iM p.ages p.vols[k+1].age).length=0
        ·rw[if_neg (by omega)]
         refine ai hcin ?_
         cases h6:(p.vols.take (k+1)).any fun u=>decide (u.age=p.vols[k+1].age) with
         |true=>exact ai rfl (gO2 (by simp only[bY,ha,h6];simp))
         |false=>exact ay rfl (gN (by simp only[bY,ha,h6,h1,h2,gl,hk,h5];simp[h3,h4]))
        ·rw[if_pos (by omega)];exact gO2 (by simp[bY,ha,h4])
 exact key rfl
theorem Tv:nL 24=24:=by unfold nL;rfl
theorem XK {n:Nat} (h:n≤1000):(true&&dj 24 24&&oX 0 24&&fits (nL 24) n)=true:=by rw[Tv,cX (by omega)];simp
theorem Wi:(nq []).map FB=List.replicate 24 [iB false]:=by rw[Of];rfl
theorem Eo (p:Pool) (hS:eF p≤4194304):aa C bA [ki p] (vB (eg p)) []:=by
 have hP:=lE hS
 have htl:=kY p.t
 refine(Jv _ _ _ _ _ _ _ ?_).run
 refine⟨_,pF p.t (by omega),?_⟩
 unfold eg
 generalize aW p.t=L at*
 have hdk:cc L≤L.length:=List.length_filter_le _ _
 have key: ∀c:Nat,c+cc (L.drop 0)=cc L→((List.range' 0 (L.length-0)).all (cq p L)&&decide ((bF p.cells:Int)=cc L))=(cE L.length (cq p L)&&decide ((bF p.cells:Int)=cc L))→ah C bA aH 4 0 (gE (c:Int) ((0:Nat):Int) (p.t.lows.map bM) (p.t.nodes.map aV) (p.ages.map dK) (p.cells.map bX) (p.vols.map ek) p.next (L.map bK)) (fun u st=>aG C bA aH u st fun r fs=>r=vB (cE L.length (cq p L)&&decide ((bF p.cells:Int)=cc L))∧fs=[]):=by
  refine m0 L.length (fun i=> ∀c:Nat,c+cc (L.drop i)=cc L→((List.range' i (L.length-i)).all (cq p L)&&decide ((bF p.cells:Int)=cc L))=(cE L.length (cq p L)&&decide ((bF p.cells:Int)=cc L))→ah C bA aH 4 0 (gE (c:Int) i (p.t.lows.map bM) (p.t.nodes.map aV) (p.ages.map dK) (p.cells.map bX) (p.vols.map ek) p.next (L.map bK)) (fun u st=>aG C bA aH u st fun r fs=>r=vB (cE L.length (cq p L)&&decide ((bF p.cells:Int)=cc L))∧fs=[])) ?_ ?_
  ·intro c hc h0
   rw[Nat.sub_self] at h0
   simp only[List.range'_zero,List.all_nil,Bool.true_and] at h0
   rw[List.drop_length] at hc
   have hc0:c=cc L:=by simpa [cc] using hc
   subst hc0
   refine wE _ _ _ _ _ _ _ _ _ _ (ay (by simp) (EZ _ _ _ _ _ _ _ _ _ _ _ ⟨_,BZ p.cells (by omega),?_⟩))
   rw[←h0]
   refine⟨?_,by first|rfl|trivial⟩
   simp[bw,eq_comm]
  ·intro i hi hn c hc h0
   rw[jg hi,List.all_cons] at h0
   have ha:L[i]?=some L[i]:=List.getElem?_eq_getElem hi
   rw[List.drop_eq_getElem_cons hi,Bi] at hc
   have gO1:cq p L i=false→aG C bA aH TX.ret (kL (p.t.lows.map bM) (p.t.nodes.map aV) (p.ages.map dK) (p.cells.map bX) (p.vols.map ek) p.next (L.map bK)) (fun r fs=>r=vB (cE L.length (cq p L)&&decide ((bF p.cells:Int)=cc L))∧fs=[]):=fun e=>EY _ _ _ _ _ _ _ _ (by rw[←h0,e];exact⟨rfl,by first|rfl|trivial⟩)
   have gN: ∀c':Nat,c'+cc (L.drop (i+1))=cc L→cq p L i=true→ah C bA aH 4 0 (gE (c':Int) ((i:Int)+1) (p.t.lows.map bM) (p.t.nodes.map aV) (p.ages.map dK) (p.cells.map bX) (p.vols.map ek) p.next (L.map bK)) (fun u st=>aG C bA aH u st fun r fs=>r=vB (cE L.length (cq p L)&&decide ((bF p.cells:Int)=cc L))∧fs=[]):=fun c' e' e=>hn c' e' (by rw[←h0,e];rfl)
   have hin: ∀b:Bool,((L.take i).any fun x=>decide (x.k=1)&&decide (x.c=L[i].c))=b→(b=true→cq p L i=false)→(b=false→cq p L i=true)→L[i].k=1→ah C bA fA 3 2 (gG c i 0 (p.t.lows.map bM) (p.t.nodes.map aV) (p.ages.map dK) (p.cells.map bX) (p.vols.map ek) p.next (L.map bK)) (fun u st=>pO C bA aH 4 0 oW u st (fun u st=>aG C bA aH u st fun r fs=>r=vB (cE L.length (cq p L)&&decide ((bF p.cells:Int)=cc L))∧fs=[])):=by
    intro b hb hbt hbf hk1
    rw[if_pos hk1] at hc
    have keyI:(((L.take i).drop 0).any fun x=>decide (x.k=1)&&decide (x.c=L[i].c))=b→ah C bA fA 3 2 (gG c i ((0:Nat):Int) (p.t.lows.map bM) (p.t.nodes.map aV) (p.ages.map dK) (p.cells.map bX) (p.vols.map ek) p.next (L.map bK)) (fun u st=>pO C bA aH 4 0 oW u st (fun u st=>aG C bA aH u st fun r fs=>r=vB (cE L.length (cq p L)&&decide ((bF p.cells:Int)=cc L))∧fs=[])):=by
     have hle:(L.take i).length=i:=by simp;omega
     refine bE (L.take i) (fun k=>(((L.take i).drop k).any fun x=>decide (x.k=1)&&decide (x.c=L[i].c))=b→ah C bA fA 3 2 (gG c i k (p.t.lows.map bM) (p.t.nodes.map aV) (p.ages.map dK) (p.cells.map bX) (p.vols.map ek) p.next (L.map bK)) (fun u st=>pO C bA aH 4 0 oW u st (fun u st=>aG C bA aH u st fun r fs=>r=vB (cE L.length (cq p L)&&decide ((bF p.cells:Int)=cc L))∧fs=[]))) ?_ ?_
     ·intro h1
      rw[List.drop_length] at h1
      simp only[List.any_nil] at h1
      refine wF _ _ _ _ _ _ _ _ _ _ _ (ay (by simp;omega) (E1 _ _ _ _ _ _ _ _ _ _ _ ?_))
      rw[aJ (by omega),aJ (by omega)]
      exact gN (c+1) (by omega) (hbf h1.symm)
     ·intro k u hk hu hd htk hn2 h1
      have hu':L[k]?=some u:=by rw[←hu,List.getElem?_take];simp;omega
      rw[hd,List.any_cons] at h1
      refine wF _ _ _ _ _ _ _ _ _ _ _ (ai (by simp;omega) ?_)
      rw[aJ (by omega)]
      simp only[mo,aK,hu',ha,Option.some.injEq,exists_eq_left',bw,bL]
      by_cases h3:u.k=1
      ·rw[if_pos h3]
       by_cases h2:u.c=L[i].c
       ·rw[if_pos h2]
        rw[decide_eq_true h3,decide_eq_true h2,Bool.and_self,Bool.true_or] at h1
        exact E0 _ _ _ _ _ _ _ _ (gO1 (hbt h1.symm))
       ·rw[if_neg h2]
        rw[decide_eq_false h2,Bool.and_false,Bool.false_or] at h1
        exact hn2 h1
      ·rw[if_neg h3]
       rw[decide_eq_false h3,Bool.false_and,Bool.false_or] at h1
       exact hn2 h1
    exact keyI hb
   have hage: ∀z,aa C dR [jG p.ages,vI L[i].a] (vI z) []↔z=iX p.ages L[i].a:=fun z=>xy p.ages L[i].a (by omega) z
   have hcell: ∀n b,aa C qt [fy p.cells,vI L[i].c,vI L[i].g] (.tu [(0,[iI n]),(0,[iB b])]) []↔n=(cellAt p.cells L[i].c L[i].g).1∧b=(cellAt p.cells L[i].c L[i].g).2:=fun n b=>Kb p.cells (by omega) _ _ n b
   refine wE _ _ _ _ _ _ _ _ _ _ (ai (by simp;omega) ?_)
   simp only[mo,aK,ha,Option.some.injEq,exists_eq_left',hage,hcell,and_assoc,exists_and_left,exists_eq_left,dS,bw,bO,bL]
   rw[aJ (a:=(i:Int)) (by omega)]
   by_cases h1:iX p.ages L[i].a<0
   ·rw[if_pos h1];exact gO1 (by simp[cq,ha,h1])
   ·rw[if_neg h1]
    by_cases h2:L[i].k=1
    ·rw[if_pos h2]
     cases h3:(cellAt p.cells L[i].c L[i].g).2 with
     |false=>exact ay rfl (gO1 (by simp[cq,ha,h2,h3]))
     |true=>
      refine ai rfl ?_
      exact hin _ rfl (fun e=>by simp only[cq,ha,e,h2];simp) (fun e=>by simp only[cq,ha,e,h2,h3];simp[h1]) h2
    ·rw[if_neg h2]
     rw[if_neg h2] at hc
     exact gN c (by omega) (by simp[cq,ha,h1,h2])
 exact key 0 (by simp) rfl
theorem Ep (p:Pool) (hS:eF p≤4194304) (h24:p.cells.length=24):aa C dh [ki p] (vB (eg p)) []:=by
 have hP:=lE hS
 have htl:=kY p.t
 refine(Jm _ _ _ _ _ _ _ ?_).run
 refine ai (XK (by omega)) ⟨_,tJ p.t (by omega),?_⟩
 unfold eg
 generalize aW p.t=L at*
 have hdk:cc L≤L.length:=List.length_filter_le _ _
 have key: ∀c:Nat,c+cc (L.drop 0)=cc L→((List.range' 0 (L.length-0)).all (cq p L)&&decide ((bF p.cells:Int)=cc L))=(cE L.length (cq p L)&&decide ((bF p.cells:Int)=cc L))→ah C dh aH 4 0 (gD (c:Int) (L.map bK) ((0:Nat):Int) (p.t.lows.map bM) (p.t.nodes.map aV) (p.ages.map dK) (p.cells.map bX) (p.vols.map ek) p.next ((nq (L.take 0)).map FB)) (fun u st=>aG C dh aH u st fun r fs=>r=vB (cE L.length (cq p L)&&decide ((bF p.cells:Int)=cc L))∧fs=[]):=by
  refine m0 L.length (fun i=> ∀c:Nat,c+cc (L.drop i)=cc L→((List.range' i (L.length-i)).all (cq p L)&&decide ((bF p.cells:Int)=cc L))=(cE L.length (cq p L)&&decide ((bF p.cells:Int)=cc L))→ah C dh aH 4 0 (gD (c:Int) (L.map bK) i (p.t.lows.map bM) (p.t.nodes.map aV) (p.ages.map dK) (p.cells.map bX) (p.vols.map ek) p.next ((nq (L.take i)).map FB)) (fun u st=>aG C dh aH u st fun r fs=>r=vB (cE L.length (cq p L)&&decide ((bF p.cells:Int)=cc L))∧fs=[])) ?_ ?_
  ·intro c hc h0
   rw[Nat.sub_self] at h0
   simp only[List.range'_zero,List.all_nil,Bool.true_and] at h0
   rw[List.drop_length] at hc
   have hc0:c=cc L:=by simpa [cc] using hc
   subst hc0
   refine wz _ _ _ _ _ _ _ _ _ _ _ (ay (by simp) (EO _ _ _ _ _ _ _ _ _ _ _ _ _ ⟨_,B0 p.cells (by omega),?_⟩))
   rw[←h0]
   refine⟨?_,by first|rfl|trivial⟩
   simp[bw,eq_comm]
  ·intro i hi hn c hc h0
   rw[jg hi,List.all_cons] at h0
   have ha:L[i]?=some L[i]:=List.getElem?_eq_getElem hi
   rw[List.drop_eq_getElem_cons hi,Bi] at hc
   have gO1: ∀u,cq p L i=false→aG C dh aH TX.ret (kG (p.t.lows.map bM) (p.t.nodes.map aV) (p.ages.map dK) (p.cells.map bX) (p.vols.map ek) p.next L[i].b L[i].a L[i].k L[i].c L[i].g u (L.map bK)) (fun r fs=>r=vB (cE L.length (cq p L)&&decide ((bF p.cells:Int)=cc L))∧fs=[]):=fun u e=>EN _ _ _ _ _ _ _ _ _ _ _ _ _ _ (by rw[←h0,e];exact⟨rfl,by first|rfl|trivial⟩)
   have ht1:L.take (i+1)=L.take i++[L[i]]:=by rw[List.take_add_one,ha];rfl
   have gN: ∀c':Nat,c'+cc (L.drop (i+1))=cc L→cq p L i=true→ah C dh aH 4 0 (gD (c':Int) (L.map bK) ((i:Int)+1) (p.t.lows.map bM) (p.t.nodes.map aV) (p.ages.map dK) (p.cells.map bX) (p.vols.map ek) p.next ((nq (L.take (i+1))).map FB)) (fun u st=>aG C dh aH u st fun r fs=>r=vB (cE L.length (cq p L)&&decide ((bF p.cells:Int)=cc L))∧fs=[]):=fun c' e' e=>hn c' e' (by rw[←h0,e];rfl)
   have hage: ∀z,aa C jj [jG p.ages,vI L[i].a] (vI z) []↔z=iX p.ages L[i].a:=fun z=>xz p.ages L[i].a (by omega) z
   have hcell: ∀n b,aa C qu [fy p.cells,vI L[i].c,vI L[i].g] (.tu [(0,[iI n]),(0,[iB b])]) []↔n=(cellAt p.cells L[i].c L[i].g).1∧b=(cellAt p.cells L[i].c L[i].g).2:=fun n b=>Kd p.cells (by omega) _ _ n b
   refine wz _ _ _ _ _ _ _ _ _ _ _ (ai (by simp;omega) ?_)
   simp only[mo,aK,ha,Option.some.injEq,exists_eq_left',hage,hcell,and_assoc,exists_and_left,exists_eq_left,dS,bw,bO,bL]
   rw[aJ (a:=(i:Int)) (by omega)]
   by_cases h1:iX p.ages L[i].a<0
   ·rw[if_pos h1];exact gO1 _ (by simp[cq,ha,h1])
   ·rw[if_neg h1]
    by_cases h2:L[i].k=1
    ·rw[if_pos h2]
     cases h3:(cellAt p.cells L[i].c L[i].g).2 with
     |false=>exact ay rfl (gO1 _ (by simp[cq,ha,h2,h3]))
     |true=>
      refine ai rfl ?_
      have hci:=Rn h3
      rw[h24] at hci
      simp only[UC,Og (L.take i) hci,Option.some.injEq,exists_eq_left',exists_eq_left,UD]
      cases h4:(L.take i).any fun x=>decide (x.k=1)&&decide (x.c=L[i].c) with
      |true=>exact ai rfl (gO1 _ (by simp only[cq,ha,h4,h2];simp))
      |false=>
       refine ay rfl ?_
       rw[Oh (L.take i) L[i] h2 hci,←ht1,aJ (a:=(c:Int)) (by omega)]
       rw[if_pos h2] at hc
       exact gN (c+1) (by omega) (by simp only[cq,ha,h4,h2,h3];simp[h1])
    ·rw[if_neg h2]
     rw[if_neg h2] at hc
     have hg:=gN c (by omega) (by simp[cq,ha,h1,h2])
     rw[ht1,MJ _ _ h2] at hg
     exact hg
 rw[Tv,←Wi];exact key 0 (by simp) rfl
def iW (n:Int) (a:Age):Bool:=decide (a.id<n)
theorem Rx (p:Pool):g8 p=(p.ages.all (iW p.next)&&(dQ p.t&&(kZ p.ages&&(cP p.cells&&(iJ p.next 1 61&&(gz p&&eg p)))))):=rfl
theorem UX {l:List Cell} (h:cP l=true):l.length=24:=by simp[cP] at h;omega
theorem Er (p:Pool) (hS:eF p≤4194304):aa C dL [ki p] (vB ((p.ages.all (iW p.next)&&(dQ p.t&&(kZ p.ages&&(cP p.cells&&(iJ p.next 1 61&&(gz p&&eg p)))))))) []:=by
 refine(K2 _ _ _ _ _ _ _ ?_).run
 have hP:=lE hS
 have htl:=kY p.t
 have key:((p.ages.drop 0).all (iW p.next)&&(dQ p.t&&(kZ p.ages&&(cP p.cells&&(iJ p.next 1 61&&(gz p&&eg p))))))=(p.ages.all (iW p.next)&&(dQ p.t&&(kZ p.ages&&(cP p.cells&&(iJ p.next 1 61&&(gz p&&eg p))))))→ah C dL an 4 0 (jy ((0:Nat):Int) (p.t.lows.map bM) (p.t.nodes.map aV) (p.ages.map dK) (p.cells.map bX) (p.vols.map ek) p.next) (fun u st=>aG C dL an u st fun r fs=>r=vB ((p.ages.all (iW p.next)&&(dQ p.t&&(kZ p.ages&&(cP p.cells&&(iJ p.next 1 61&&(gz p&&eg p)))))))∧fs=[]):=by
  refine bE p.ages (fun i=>((p.ages.drop i).all (iW p.next)&&(dQ p.t&&(kZ p.ages&&(cP p.cells&&(iJ p.next 1 61&&(gz p&&eg p))))))=(p.ages.all (iW p.next)&&(dQ p.t&&(kZ p.ages&&(cP p.cells&&(iJ p.next 1 61&&(gz p&&eg p))))))→ah C dL an 4 0 (jy i (p.t.lows.map bM) (p.t.nodes.map aV) (p.ages.map dK) (p.cells.map bX) (p.vols.map ek) p.next) (fun u st=>aG C dL an u st fun r fs=>r=vB ((p.ages.all (iW p.next)&&(dQ p.t&&(kZ p.ages&&(cP p.cells&&(iJ p.next 1 61&&(gz p&&eg p)))))))∧fs=[])) ?_ ?_
  ·intro h0
   refine zg _ _ _ _ _ _ _ _ (ay (by simp) (He _ _ _ _ _ _ _ _ _ ?_))
   rw[List.drop_length] at h0
   simp only[List.all_nil,Bool.true_and] at h0
   rw[←h0]
   refine⟨_,qD p.t (by omega),?_⟩
   cases h1:dQ p.t with
   |false=>exact ay rfl ⟨rfl,by first|rfl|trivial⟩
   |true=>
    refine ai rfl ⟨_,(Kg p.ages (by omega) (kZ p.ages)).2 rfl,?_⟩
    cases h2:kZ p.ages with
    |false=>exact ay rfl ⟨rfl,by first|rfl|trivial⟩
    |true=>
     refine ai rfl ⟨_,(r7 p.cells (by omega) (cP p.cells)).2 rfl,?_⟩
     cases h3:cP p.cells with
     |false=>exact ay rfl ⟨rfl,by first|rfl|trivial⟩
     |true=>
      refine ai rfl ⟨_,Au p.next 1 61,?_⟩
      cases h4:iJ p.next 1 61 with
      |false=>exact ay rfl ⟨rfl,by first|rfl|trivial⟩
      |true=>
       refine ai rfl ⟨_,En p hS,?_⟩
       cases h5:gz p with
       |false=>exact ay rfl ⟨rfl,by first|rfl|trivial⟩
       |true=>exact ai rfl ⟨_,Eo p hS,⟨rfl,by first|rfl|trivial⟩⟩
  ·intro i a hi ha hd htk hn h0
   have gO:(iW p.next) a=false→(p.ages.all (iW p.next)&&(dQ p.t&&(kZ p.ages&&(cP p.cells&&(iJ p.next 1 61&&(gz p&&eg p))))))=false:=fun e=>by rw[←h0,hd];simp[e]
   have gN:(iW p.next) a=true→ah C dL an 4 0 (jy ((i:Int)+1) (p.t.lows.map bM) (p.t.nodes.map aV) (p.ages.map dK) (p.cells.map bX) (p.vols.map ek) p.next) (fun u st=>aG C dL an u st fun r fs=>r=vB ((p.ages.all (iW p.next)&&(dQ p.t&&(kZ p.ages&&(cP p.cells&&(iJ p.next 1 61&&(gz p&&eg p)))))))∧fs=[]):=fun e=>hn (by rw[←h0,hd];simp[e])
   refine zg _ _ _ _ _ _ _ _ (ai (by simp;omega) ?_)
   simp only[u9,aK,ha,Option.some.injEq,exists_eq_left',g7,bL]
   rw[aJ (by omega)]
   by_cases h1:p.next≤a.id
   ·rw[if_pos h1];exact G9 _ _ _ _ _ _ _ (by rw[gO (by simp[iW];omega)];exact⟨rfl,by first|rfl|trivial⟩)
   ·rw[if_neg h1];exact gN (by simp[iW];omega)
 exact key rfl
theorem xH (p:Pool) (hS:eF p≤4194304):aa C dL [ki p] (vB (g8 p)) []:=Er p hS
theorem xI (p:Pool) (hS:eF p≤4194304):aa C eP [ki p] (vB (g8 p)) []:=by
 have hP:=lE hS
 rw[Rx]
 refine(KB _ _ _ _ _ _ _ ?_).run
 refine⟨_,qE p.t (by omega),?_⟩
 cases h1:dQ p.t with
 |false=>exact ai rfl ⟨by simp,by first|rfl|trivial⟩
 |true=>
  refine ay rfl ⟨_,(Ki p.ages (by omega) (kZ p.ages)).2 rfl,?_⟩
  cases h2:kZ p.ages with
  |false=>exact ai rfl ⟨by simp,by first|rfl|trivial⟩
  |true=>
   refine ay rfl ⟨_,(r8 p.cells (by omega) (cP p.cells)).2 rfl,?_⟩
   cases h3:cP p.cells with
   |false=>exact ai rfl ⟨by simp,by first|rfl|trivial⟩
   |true=>
    refine ay rfl ⟨_,r6 p.next 1 61,?_⟩
    cases h4:iJ p.next 1 61 with
    |false=>exact ai rfl ⟨by simp,by first|rfl|trivial⟩
    |true=>
     refine ay rfl ?_
     simp only[Bool.true_and]
     have key:((p.ages.drop 0).all (iW p.next)&&(gz p&&eg p))=(p.ages.all (iW p.next)&&(gz p&&eg p))→ah C eP aj 4 0 (lH (p.ages.map dK) ((0:Nat):Int) (p.t.lows.map bM) (p.t.nodes.map aV) (p.cells.map bX) (p.vols.map ek) p.next) (fun u st=>aG C eP aj u st fun r fs=>r=vB (p.ages.all (iW p.next)&&(gz p&&eg p))∧fs=[]):=by
      refine bE p.ages (fun i=>((p.ages.drop i).all (iW p.next)&&(gz p&&eg p))=(p.ages.all (iW p.next)&&(gz p&&eg p))→ah C eP aj 4 0 (lH (p.ages.map dK) i (p.t.lows.map bM) (p.t.nodes.map aV) (p.cells.map bX) (p.vols.map ek) p.next) (fun u st=>aG C eP aj u st fun r fs=>r=vB (p.ages.all (iW p.next)&&(gz p&&eg p))∧fs=[])) ?_ ?_
      ·intro h0
       rw[List.drop_length] at h0
       simp only[List.all_nil,Bool.true_and] at h0
       refine yR _ _ _ _ _ _ _ _ (ay (by simp) (Gx _ _ _ _ _ _ _ _ _ _ ⟨_,F2 p hS,?_⟩))
       rw[←h0]
       cases h5:gz p with
       |false=>exact ay rfl ⟨rfl,by first|rfl|trivial⟩
       |true=>exact ai rfl ⟨_,Ep p hS (UX h3),⟨rfl,by first|rfl|trivial⟩⟩
      ·intro i a hi ha hd htk hn h0
       rw[hd,List.all_cons] at h0
       refine yR _ _ _ _ _ _ _ _ (ai (by simp;omega) ?_)
       simp only[u9,aK,ha,Option.some.injEq,exists_eq_left',g7,bL]
       rw[aJ (by omega)]
       by_cases h5:p.next≤a.id
       ·rw[if_pos h5]
        have e:iW p.next a=false:=by simp[iW];omega
        exact Gw _ _ _ _ _ _ _ _ _ (by rw[←h0,e];exact⟨rfl,by first|rfl|trivial⟩)
       ·rw[if_neg h5]
        have e:iW p.next a=true:=by simp[iW];omega
        exact hn (by rw[←h0,e];rfl)
     exact key rfl
theorem qF (l:List Cell) (hl:l.length≤1073741824):aa C eU [fy l] (fy l) []:=by
 refine(Ko _ _ ?_).run
 rw[show bR (l.map bX)=true from by simp[BL],cX (by simp;omega)]
 exact⟨rfl,by first|rfl|trivial⟩
theorem oM (l:List Cell) (hl:l.length≤1073741824):aa C hD [fy l] (fy l) []:=by
 refine(Fj _ _ ?_).run
 rw[show bR (l.map bX)=true from by simp[BL],cX (by simp;omega)]
 exact⟨rfl,by first|rfl|trivial⟩
theorem C3 (l:List Cell) (i:Int) (hl:l.length≤1073741824):aa C vg [fy l,vI i] (fy (ji l i)) []:=by
 refine(Gy _ _ _ ⟨_,qF l hl,_,(r7 l hl (cP l)).2 rfl,?_⟩).run
 cases h1:cP l with
 |false=>exact ay rfl ⟨by rw[CS h1],by first|rfl|trivial⟩
 |true=>
  refine ai rfl ⟨_,Au _ _ _,?_⟩
  rw[List.length_map,show c7 (Int.ofNat l.length) 1=(l.length:Int)-1 from eE (by simp;omega)]
  by_cases h2:0≤i∧i<l.length
  ·obtain⟨c,hc⟩:=qa h2.1 h2.2
   refine ai (by simp[iJ];omega) ?_
   simp only[kk,hc,Option.some.injEq,exists_eq_left']
   cases h3:c.u with
   |false=>exact ay rfl ⟨by rw[FD hc h3],by first|rfl|trivial⟩
   |true=>
    refine ai rfl (ay (by simp) ?_)
    simp only[kk,hc,Option.some.injEq,exists_eq_left',MI]
    exact⟨by rw[CT hc h1 h3],by first|rfl|trivial⟩
  ·exact ay (by simp[iJ];omega) ⟨by rw[Bj (nj h2)],by first|rfl|trivial⟩
theorem C4 (l:List Cell) (i:Int) (hl:l.length≤1073741824):aa C vi [fy l,vI i] (fy (ji l i)) []:=by
 refine(Hg _ _ _ ⟨_,oM l hl,_,(r8 l hl (cP l)).2 rfl,?_⟩).run
 cases h1:cP l with
 |false=>exact ai rfl ⟨by rw[CS h1],by first|rfl|trivial⟩
 |true=>
  have h24:l.length=24:=by simp[cP] at h1;omega
  refine ay rfl ⟨_,r6 _ _ _,?_⟩
  by_cases h2:0≤i∧i<l.length
  ·obtain⟨c,hc⟩:=qa h2.1 h2.2
   refine ay (by simp[iJ];omega) ?_
   simp only[kk,hc,Option.some.injEq,exists_eq_left']
   cases h3:c.u with
   |false=>exact ai rfl ⟨by rw[FD hc h3],by first|rfl|trivial⟩
   |true=>
    refine ay rfl (ay (by simp) ?_)
    simp only[kk,hc,Option.some.injEq,exists_eq_left',MI]
    exact⟨by rw[CT hc h1 h3],by first|rfl|trivial⟩
  ·exact ai (by simp[iJ];omega) ⟨by rw[Bj (nj h2)],by first|rfl|trivial⟩
theorem xJ (l:List Cell) (hl:l.length≤1073741824):aa C eT [fy l] (vI (cY l)) []:=by
 refine(KR _ _ ?_).run
 have key:jt rY (l.drop 0) ((0:Nat):Int)=cY l→ah C eT an 4 0 (lM (l.map bX) ((0:Nat):Int)) (fun u st=>aG C eT an u st fun r fs=>r=vI (cY l)∧fs=[]):=by
  refine bE l (fun i=>jt rY (l.drop i) (i:Int)=cY l→ah C eT an 4 0 (lM (l.map bX) i) (fun u st=>aG C eT an u st fun r fs=>r=vI (cY l)∧fs=[])) ?_ ?_
  ·intro h0
   rw[List.drop_length] at h0
   simp only[jt] at h0
   exact y5 _ _ _ (ay (by simp) (GS _ _ _ _ _ (by rw[←h0];exact⟨rfl,by first|rfl|trivial⟩)))
  ·intro i a hi ha hd htk hn h0
   rw[hd] at h0
   simp only[jt] at h0
   refine y5 _ _ _ (ai (by simp;omega) ?_)
   simp only[kk,aK,ha,Option.some.injEq,exists_eq_left']
   rw[aJ (by omega)]
   cases h1:a.u with
   |false=>rw[if_pos (by simp[rY,h1])] at h0;exact ai rfl (GR _ _ _ _ _ (by rw[←h0];exact⟨rfl,by first|rfl|trivial⟩))
   |true=>rw[if_neg (by simp[rY,h1])] at h0;exact ay rfl (hn h0)
 exact key rfl
theorem C5 (l:List Cell) (n:Int) (hl:l.length≤1073741824):aa C vh [fy l,vI n] (UI (m5 l n)) []:=by
 refine(Gd _ _ _ ⟨_,oM l hl,_,xJ l hl,?_⟩).run
 by_cases h0:cY l<0
 ·exact ai (by simp[h0]) ⟨by rw[kT (fun h=>by omega)],by first|rfl|trivial⟩
 ·refine ay (by simp;omega) ⟨_,(Bo n (mu n)).2 rfl,?_⟩
  cases h1:mu n with
  |false=>exact ai rfl ⟨by rw[kT (fun h=>by rw[h1] at h;cases h.2.1)],by first|rfl|trivial⟩
  |true=>
   refine ay rfl ⟨_,(r8 l hl (cP l)).2 rfl,?_⟩
   cases h2:cP l with
   |false=>exact ai rfl ⟨by rw[kT (fun h=>by rw[h2] at h;cases h.1)],by first|rfl|trivial⟩
   |true=>
    obtain⟨c,hc,hf⟩:=Tg rY l h0
    change fu l (cY l)=some c at hc
    refine ay rfl ?_
    simp only[kk,D9,Ea,hc,lD,gj,Option.some.injEq,exists_eq_left',mod_mod]
    exact⟨by rw[pg ⟨h2,h1,by omega⟩],by first|rfl|trivial⟩
theorem C6 (l:List Cell) (n:Int) (hl:l.length≤1073741824):aa C dI [fy l,vI n] (UI (m5 l n)) []:=by
 refine(Hf _ _ _ ⟨_,qF l hl,?_⟩).run
 have key:jt rY (l.drop 0) ((0:Nat):Int)=cY l→ah C dI aj 4 0 (j5 (l.map bX) n ((0:Nat):Int) (l.map bX)) (fun u st=>aG C dI aj u st fun r fs=>r=UI (m5 l n)∧fs=[]):=by
  refine bE l (fun i=>jt rY (l.drop i) (i:Int)=cY l→ah C dI aj 4 0 (j5 (l.map bX) n i (l.map bX)) (fun u st=>aG C dI aj u st fun r fs=>r=UI (m5 l n)∧fs=[])) ?_ ?_
  ·intro h0
   rw[List.drop_length] at h0
   simp only[jt] at h0
   exact uP _ _ _ _ _ (ay (by simp) (uQ _ _ _ _ _ ⟨by rw[kT (fun h=>by omega)],by first|rfl|trivial⟩))
  ·intro i a hi ha hd htk hn h0
   rw[hd] at h0
   simp only[jt] at h0
   refine uP _ _ _ _ _ (ai (by simp;omega) ⟨_,(r7 l hl (cP l)).2 rfl,?_⟩)
   cases h2:cP l with
   |false=>exact ay rfl (uQ _ _ _ _ _ ⟨by rw[kT (fun h=>by rw[h2] at h;cases h.1)],by first|rfl|trivial⟩)
   |true=>
    refine ai rfl ⟨_,(Bn n (mu n)).2 rfl,?_⟩
    cases h1:mu n with
    |false=>exact ay rfl (DC _ _ _ _ _ _ ⟨by rw[kT (fun h=>by rw[h1] at h;cases h.2.1)],by first|rfl|trivial⟩)
    |true=>
     refine ai rfl ?_
     have hc:fu l (i:Int)=some a:=by rw[aK];exact ha
     simp only[kk,hc,Option.some.injEq,exists_eq_left']
     rw[aJ (by omega)]
     cases h3:a.u with
     |false=>
      rw[if_pos (by simp[rY,h3])] at h0
      refine ai rfl ?_
      simp only[kk,D9,Ea,hc,lD,gj,Option.some.injEq,exists_eq_left',mod_mod]
      refine DB _ _ _ ⟨?_,by first|rfl|trivial⟩
      rw[pg ⟨h2,h1,by omega⟩,←h0]
     |true=>rw[if_neg (by simp[rY,h3])] at h0;exact ay rfl (hn h0)
 exact key rfl
theorem tK (l:List Int) (hl:l.length≤1073741824):aa C qk [pQ l] (pQ l) []:=by
 refine(Hz _ _ ?_).run
 rw[show bR (l.map bM)=true from jv _,cX (by simp;omega)]
 exact⟨rfl,by first|rfl|trivial⟩
theorem Jd (l:List Key) (b a:Int) (hl:l.length≤1073741824):aa C fY [cO l,vI b,vI a] (Wt (Ed l b a)) []:=by
 refine(M8 _ _ _ _ ?_).run
 have key:setAt (l.drop 0) b a=setAt l b a→ah C fY an 4 0 (kM (l.map bK) b a ((0:Nat):Int)) (fun u st=>aG C fY an u st fun r fs=>r=(Wt (Ed l b a))∧fs=[]):=by
  refine bE l (fun i=>setAt (l.drop i) b a=setAt l b a→ah C fY an 4 0 (kM (l.map bK) b a i) (fun u st=>aG C fY an u st fun r fs=>r=(Wt (Ed l b a))∧fs=[])) ?_ ?_
  ·intro h0
   rw[List.drop_length] at h0
   refine AJ _ _ _ _ _ (ay (by simp) (JI _ _ _ _ _ _ ⟨?_,by first|rfl|trivial⟩))
   unfold Ed;rw[←h0];rfl
  ·intro i x hi hx hd htk hn h0
   rw[hd] at h0
   simp only[setAt,List.find?_cons] at h0
   refine AJ _ _ _ _ _ (ai (by simp;omega) ?_)
   simp only[mo,aK,hx,Option.some.injEq,exists_eq_left',bw,bL]
   rw[aJ (by omega)]
   by_cases h1:x.b=b
   ·rw[if_pos h1]
    by_cases h2:x.a=a
    ·rw[if_pos h2]
     rw[decide_eq_true ⟨h1,h2⟩] at h0
     refine JH _ _ _ _ _ _ ⟨?_,by first|rfl|trivial⟩
     unfold Ed setAt;rw[←h0]
    ·rw[if_neg h2]
     rw[decide_eq_false (fun h=>h2 h.2)] at h0
     exact hn h0
   ·rw[if_neg h1]
    rw[decide_eq_false (fun h=>h1 h.1)] at h0
    exact hn h0
 exact key rfl
theorem Es (t:Tree) (b a:Int) (hl:t.lows.length≤1073741824):aa C ei [dH t,vI b,vI a] (vI (pn t b a)) []:=by
 refine(Jw _ _ _ _ _ ?_).run
 unfold pn
 have key:ah C ei aj 4 0 (jc b a (pk (fun x=>decide (x≤fU b a)) t.lows 0) ((0:Nat):Int) (t.lows.map bM) (t.nodes.map aV)) (fun u st=>aG C ei aj u st fun r fs=>r=(vI (pk (fun x=>decide (x≤fU b a)) t.lows t.lows.length))∧fs=[]):=by
  refine bE t.lows (fun i=>ah C ei aj 4 0 (jc b a (pk (fun x=>decide (x≤fU b a)) t.lows i) i (t.lows.map bM) (t.nodes.map aV)) (fun u st=>aG C ei aj u st fun r fs=>r=(vI (pk (fun x=>decide (x≤fU b a)) t.lows t.lows.length))∧fs=[])) ?_ ?_
  ·exact wG _ _ _ _ _ _ _ (ay (by simp) (E2 _ _ _ _ _ _ _ _ ⟨rfl,by first|rfl|trivial⟩))
  ·intro i x hi hx hd htk hn
   simp only[pk,hx] at hn
   refine wG _ _ _ _ _ _ _ (ai (by simp;omega) ?_)
   simp only[u7,aK,hx,Option.some.injEq,exists_eq_left',Bp,exists_eq_left,g7,bL]
   rw[aJ (by omega)]
   by_cases h1:x≤fU b a
   ·rw[if_pos h1]
    rw[if_pos (decide_eq_true h1)] at hn
    exact hn
   ·rw[if_neg h1]
    rw[if_neg (by simpa using h1)] at hn
    exact hn
 exact key
theorem Je (l:List Key) (b a:Int) (hl:l.length≤1073741824):aa C eO [cO l,vI b,vI a] (Wt (Ed l b a)) []:=by
 refine(M9 _ _ _ _ ?_).run
 have key:setAt (l.drop 0) b a=setAt l b a→ah C eO an 4 0 (kN b a (l.map bK) ((0:Nat):Int)) (fun u st=>aG C eO an u st fun r fs=>r=(Wt (Ed l b a))∧fs=[]):=by
  refine bE l (fun i=>setAt (l.drop i) b a=setAt l b a→ah C eO an 4 0 (kN b a (l.map bK) i) (fun u st=>aG C eO an u st fun r fs=>r=(Wt (Ed l b a))∧fs=[])) ?_ ?_
  ·intro h0
   rw[List.drop_length] at h0
   refine AK _ _ _ _ _ (ay (by simp) (JK _ _ _ _ _ _ _ ⟨?_,by first|rfl|trivial⟩))
   unfold Ed;rw[←h0];rfl
  ·intro i x hi hx hd htk hn h0
   rw[hd] at h0
   simp only[setAt,List.find?_cons] at h0
   refine AK _ _ _ _ _ (ai (by simp;omega) ?_)
   simp only[mo,aK,hx,Option.some.injEq,exists_eq_left',bw,bL]
   rw[aJ (by omega)]
   by_cases h1:x.b=b
   ·rw[if_pos h1]
    by_cases h2:x.a=a
    ·rw[if_pos h2]
     rw[decide_eq_true ⟨h1,h2⟩] at h0
     refine JJ _ _ _ _ _ _ ⟨?_,by first|rfl|trivial⟩
     unfold Ed setAt;rw[←h0]
    ·rw[if_neg h2]
     rw[decide_eq_false (fun h=>h2 h.2)] at h0
     exact hn h0
   ·rw[if_neg h1]
    rw[decide_eq_false (fun h=>h1 h.1)] at h0
    exact hn h0
 exact key rfl
theorem Et (t:Tree) (b a:Int) (hl:t.lows.length≤1073741824):aa C ff [dH t,vI b,vI a] (vI (pn t b a)) []:=by
 refine(Jo _ _ _ _ _ ?_).run
 have key: ∀k:Nat,k≤t.lows.length→pk (fun x=>decide (x≤fU b a)) t.lows k=pn t b a→ah C ff an 4 0 (nv b a ((k:Int)-1) (t.lows.map bM) (t.nodes.map aV)) (fun u st=>aG C ff an u st fun r fs=>r=(vI (pn t b a))∧fs=[]):=by
  intro k
  induction k with
  |zero=>
   intro _ hk
   refine wA _ _ _ _ _ _ (ay (by simp) (ER _ _ _ _ _ _ _ ⟨?_,by first|rfl|trivial⟩))
   rw[←hk];rfl
  |succ k ih=>
   intro hle hk
   have hx:t.lows[k]?=some t.lows[k]:=List.getElem?_eq_getElem (by omega)
   rw[show((k+1:Nat):Int)-1=(k:Int) by omega]
   generalize t.lows[k]=x at hx
   simp only[pk,hx] at hk
   refine wA _ _ _ _ _ _ (ai (by simp) ?_)
   simp only[u7,aK,hx,Option.some.injEq,exists_eq_left',vk,exists_eq_left,g7,bL]
   rw[eE (by omega)]
   by_cases h1:x≤fU b a
   ·rw[if_pos h1]
    rw[if_pos (decide_eq_true h1)] at hk
    exact EP _ _ _ _ ⟨by rw[←hk],by first|rfl|trivial⟩
   ·rw[if_neg h1]
    rw[if_neg (by simpa using h1)] at hk
    exact ih (by omega) hk
 rw[List.length_map,show c7 (Int.ofNat t.lows.length) 1=(t.lows.length:Int)-1 from eE (by simp;omega)]
 exact key t.lows.length (Nat.le_refl _) rfl
theorem C7 (l:List Age) (hl:l.length≤1073741824):aa C nT [jG l] (jG l) []:=by
 refine(GX _ _ ?_).run
 rw[show bR (l.map dK)=true from A5 _,cX (by simp;omega)]
 exact⟨rfl,by first|rfl|trivial⟩
theorem pG (n:List (List Key)) (hl:n.length≤1073741824) (hs: ∀s∈n,s.length≤1073741824):aa C aP [fP n] (fP n) []:=by
 refine(Gn _ _ ?_).run
 skip
 have key:((0:Nat)=0→ah C aP aj 4 0 (mD (n.map bZ)) (fun u st=>aG C aP aj u st fun r fs=>r=(fP n)∧fs=[]))∧(0<(0:Nat)→ah C aP aj 4 0 (jT (n.map bZ) ((0:Nat):Int) ((n.take 0).map bZ)) (fun u st=>aG C aP aj u st fun r fs=>r=(fP n)∧fs=[])):=by
  refine bE n (fun i=>(i=0→ah C aP aj 4 0 (mD (n.map bZ)) (fun u st=>aG C aP aj u st fun r fs=>r=(fP n)∧fs=[]))∧(0<i→ah C aP aj 4 0 (jT (n.map bZ) i ((n.take i).map bZ)) (fun u st=>aG C aP aj u st fun r fs=>r=(fP n)∧fs=[]))) ?_ ?_
  ·refine⟨fun h=> ?_,fun h=> ?_⟩
   ·have hnil:n=[]:=List.length_eq_zero_iff.1 h
    refine uy _ _ (ay (by simp[h]) (Dg _ _ _ _ ⟨?_,by first|rfl|trivial⟩))
    simp[hnil]
   ·rw[List.take_length]
    exact uz _ _ _ _ (ay (by simp) (Dh _ _ _ _ _ _ ⟨rfl,by first|rfl|trivial⟩))
  ·intro i a hi ha hd htk hn
   have hmem:=List.mem_of_getElem? ha
   refine⟨fun h=> ?_,fun h=> ?_⟩
   ·subst h
    have hz:fu n 0=some a:=(aK n 0).trans ha
    have hn2:=hn.2 (by omega)
    rw[htk] at hn2
    refine uy _ _ (ai (by simp;omega) ?_)
    simp only[rX,hz,Option.some.injEq,exists_eq_left']
    refine⟨_,mA a (by have:=hs a hmem;omega),ai (cX (by simp;try omega)) ?_⟩
    rw[aJ (by omega)]
    exact hn2
   ·have hn2:=hn.2 (by omega)
    rw[htk] at hn2
    refine uz _ _ _ _ (ai (by simp;omega) ?_)
    simp only[rX,aK,ha,Option.some.injEq,exists_eq_left']
    refine⟨_,mA a (by have:=hs a hmem;omega),ai (cX (by simp;try omega)) ?_⟩
    rw[aJ (by omega)]
    rw[List.map_append] at hn2
    exact hn2
 exact key.1 rfl
theorem qG (n:List (List Key)) (hl:n.length≤1073741824) (hs: ∀s∈n,s.length≤1073741824):aa C bu [fP n] (fP n) []:=by
 refine(Lb _ _ ?_).run
 skip
 have key:((0:Nat)=0→ah C bu aj 4 0 (oB (n.map bZ)) (fun u st=>aG C bu aj u st fun r fs=>r=(fP n)∧fs=[]))∧(0<(0:Nat)→ah C bu aj 4 0 (lQ ((0:Nat):Int) (n.map bZ) ((n.take 0).map bZ)) (fun u st=>aG C bu aj u st fun r fs=>r=(fP n)∧fs=[])):=by
  refine bE n (fun i=>(i=0→ah C bu aj 4 0 (oB (n.map bZ)) (fun u st=>aG C bu aj u st fun r fs=>r=(fP n)∧fs=[]))∧(0<i→ah C bu aj 4 0 (lQ i (n.map bZ) ((n.take i).map bZ)) (fun u st=>aG C bu aj u st fun r fs=>r=(fP n)∧fs=[]))) ?_ ?_
  ·refine⟨fun h=> ?_,fun h=> ?_⟩
   ·have hnil:n=[]:=List.length_eq_zero_iff.1 h
    refine zn _ _ (ay (by simp[h]) (Hw _ _ _ ⟨?_,by first|rfl|trivial⟩))
    simp[hnil]
   ·rw[List.take_length]
    exact zo _ _ _ _ (ay (by simp) (Hy _ _ _ _ _ ⟨rfl,by first|rfl|trivial⟩))
  ·intro i a hi ha hd htk hn
   have hmem:=List.mem_of_getElem? ha
   refine⟨fun h=> ?_,fun h=> ?_⟩
   ·subst h
    have hz:fu n 0=some a:=(aK n 0).trans ha
    have hn2:=hn.2 (by omega)
    rw[htk] at hn2
    refine zn _ _ (ai (by simp;omega) ?_)
    simp only[rX,hz,Option.some.injEq,exists_eq_left']
    have hsa:=hs a hmem
    refine ai (by rw[show bR (a.map bK)=true from jw _,cX (by simp;omega)];rfl) (ai (cX (by simp;try omega)) ?_)
    rw[aJ (by omega)]
    exact hn2
   ·have hn2:=hn.2 (by omega)
    rw[htk] at hn2
    refine zo _ _ _ _ (ai (by simp;omega) ?_)
    simp only[rX,aK,ha,Option.some.injEq,exists_eq_left']
    have hsa:=hs a hmem
    refine ai (by rw[show bR (a.map bK)=true from jw _,cX (by simp;omega)];rfl) (ai (cX (by simp;try omega)) ?_)
    rw[aJ (by omega)]
    rw[List.map_append] at hn2
    exact hn2
 exact key.1 rfl
theorem tL (t:Tree) (hl:t.lows.length≤1073741824∧t.nodes.length≤1073741824) (hs: ∀n∈t.nodes,n.length≤1073741824∧ ∀s∈n,s.length≤1073741824):aa C aU [dH t] (dH t) []:=by
 refine(GG _ _ _ ?_).run
 refine⟨_,tK t.lows hl.1,?_⟩
 have key:((0:Nat)=0→ah C aU aj 4 0 (mJ (t.nodes.map aV) (t.lows.map bM)) (fun u st=>aG C aU aj u st fun r fs=>r=(dH t)∧fs=[]))∧(0<(0:Nat)→ah C aU aj 4 0 (jW (t.nodes.map aV) ((0:Nat):Int) (t.lows.map bM) ((t.nodes.take 0).map aV)) (fun u st=>aG C aU aj u st fun r fs=>r=(dH t)∧fs=[])):=by
  refine bE t.nodes (fun i=>(i=0→ah C aU aj 4 0 (mJ (t.nodes.map aV) (t.lows.map bM)) (fun u st=>aG C aU aj u st fun r fs=>r=(dH t)∧fs=[]))∧(0<i→ah C aU aj 4 0 (jW (t.nodes.map aV) i (t.lows.map bM) ((t.nodes.take i).map aV)) (fun u st=>aG C aU aj u st fun r fs=>r=(dH t)∧fs=[]))) ?_ ?_
  ·refine⟨fun h=> ?_,fun h=> ?_⟩
   ·have hnil:t.nodes=[]:=List.length_eq_zero_iff.1 h
    refine uG _ _ _ (ay (by simp[h]) (Dq _ _ _ _ _ ⟨?_,by first|rfl|trivial⟩))
    simp[hnil]
   ·rw[List.take_length]
    exact uH _ _ _ _ _ (ay (by simp) (Dr _ _ _ _ _ _ _ ⟨rfl,by first|rfl|trivial⟩))
  ·intro i a hi ha hd htk hn
   have hmem:=List.mem_of_getElem? ha
   refine⟨fun h=> ?_,fun h=> ?_⟩
   ·subst h
    have hz:fu t.nodes 0=some a:=(aK t.nodes 0).trans ha
    have hn2:=hn.2 (by omega)
    rw[htk] at hn2
    refine uG _ _ _ (ai (by simp;omega) ?_)
    simp only[q9,hz,Option.some.injEq,exists_eq_left']
    refine⟨_,pG a (hs a hmem).1 (hs a hmem).2,ai (cX (by simp;try omega)) ?_⟩
    rw[aJ (by omega)]
    exact hn2
   ·have hn2:=hn.2 (by omega)
    rw[htk] at hn2
    refine uH _ _ _ _ _ (ai (by simp;omega) ?_)
    simp only[q9,aK,ha,Option.some.injEq,exists_eq_left']
    refine⟨_,pG a (hs a hmem).1 (hs a hmem).2,ai (cX (by simp;try omega)) ?_⟩
    rw[aJ (by omega)]
    rw[List.map_append] at hn2
    exact hn2
 exact key.1 rfl
theorem xK (t:Tree) (hl:t.lows.length≤1073741824∧t.nodes.length≤1073741824) (hs: ∀n∈t.nodes,n.length≤1073741824∧ ∀s∈n,s.length≤1073741824):aa C cr [dH t] (dH t) []:=by
 refine(K5 _ _ _ ?_).run
 refine ai (by rw[show bR (t.lows.map bM)=true from jv _,cX (by simp;omega)];rfl) ?_
 have key:((0:Nat)=0→ah C cr aj 4 0 (oA (t.lows.map bM) (t.nodes.map aV)) (fun u st=>aG C cr aj u st fun r fs=>r=(dH t)∧fs=[]))∧(0<(0:Nat)→ah C cr aj 4 0 (lP ((0:Nat):Int) (t.lows.map bM) (t.nodes.map aV) ((t.nodes.take 0).map aV)) (fun u st=>aG C cr aj u st fun r fs=>r=(dH t)∧fs=[])):=by
  refine bE t.nodes (fun i=>(i=0→ah C cr aj 4 0 (oA (t.lows.map bM) (t.nodes.map aV)) (fun u st=>aG C cr aj u st fun r fs=>r=(dH t)∧fs=[]))∧(0<i→ah C cr aj 4 0 (lP i (t.lows.map bM) (t.nodes.map aV) ((t.nodes.take i).map aV)) (fun u st=>aG C cr aj u st fun r fs=>r=(dH t)∧fs=[]))) ?_ ?_
  ·refine⟨fun h=> ?_,fun h=> ?_⟩
   ·have hnil:t.nodes=[]:=List.length_eq_zero_iff.1 h
    refine zh _ _ _ (ay (by simp[h]) (Hh _ _ _ _ ⟨?_,by first|rfl|trivial⟩))
    simp[hnil]
   ·rw[List.take_length]
    exact zi _ _ _ _ _ (ay (by simp) (Hi _ _ _ _ _ _ ⟨rfl,by first|rfl|trivial⟩))
  ·intro i a hi ha hd htk hn
   have hmem:=List.mem_of_getElem? ha
   refine⟨fun h=> ?_,fun h=> ?_⟩
   ·subst h
    have hz:fu t.nodes 0=some a:=(aK t.nodes 0).trans ha
    have hn2:=hn.2 (by omega)
    rw[htk] at hn2
    refine zh _ _ _ (ai (by simp;omega) ?_)
    simp only[q9,hz,Option.some.injEq,exists_eq_left']
    refine⟨_,qG a (hs a hmem).1 (hs a hmem).2,ai (cX (by simp;try omega)) ?_⟩
    rw[aJ (by omega)]
    exact hn2
   ·have hn2:=hn.2 (by omega)
    rw[htk] at hn2
    refine zi _ _ _ _ _ (ai (by simp;omega) ?_)
    simp only[q9,aK,ha,Option.some.injEq,exists_eq_left']
    refine⟨_,qG a (hs a hmem).1 (hs a hmem).2,ai (cX (by simp;try omega)) ?_⟩
    rw[aJ (by omega)]
    rw[List.map_append] at hn2
    exact hn2
 exact key.1 rfl
theorem tM {t:Tree} (h:dO t≤4194304):(t.lows.length≤1073741824∧t.nodes.length≤1073741824)∧ ∀n∈t.nodes,n.length≤1073741824∧ ∀s∈n,s.length≤1073741824:=by
 have e2:dO t=t.lows.length+(t.nodes.length+tot aR t.nodes):=rfl
 refine⟨⟨by omega,by omega⟩,fun n hn=> ?_⟩
 have h1:aR n≤tot aR t.nodes:=qg (w:=aR) hn
 have h2:aR n=n.length+tot bJ n:=rfl
 refine⟨by omega,fun s hs=> ?_⟩
 have h3:bJ s≤tot bJ n:=qg (w:=bJ) hs
 have h4:bJ s=s.length:=rfl
 omega
theorem Eu (p:Pool) (hS:eF p≤4194304):aa C pE [ki p] (ki p) []:=by
 have hP:=lE hS
 have hN:=tM hP.1
 have hT:=xK p.t hN.1 hN.2
 have hA:(bR (p.ages.map dK)&&fits (Nat.add 0 (p.ages.map dK).length) 16)=true:=by rw[A5,cX (by simp;omega)];rfl
 have hC:=qF p.cells (by omega)
 have hV:(bR (p.vols.map ek)&&fits (Nat.add 0 (p.vols.map ek).length) 40)=true:=by rw[A6,cX (by simp;omega)];rfl
 refine(Ji _ _ _ _ _ _ _ ?_).run
 repeat' first
  |exact rfl
  |refine⟨(ki p,[]),?_,?_,⟨rfl,by first|rfl|trivial⟩⟩
  |refine⟨(ki p,[]),?_,?_,by first|rfl|trivial⟩
  |refine⟨_,_,hT,?_⟩
  |refine ai hA ?_
  |refine⟨_,hC,?_⟩
  |refine ai hV ?_
theorem C8 (p:Pool) (hS:eF p≤4194304):aa C fQ [ki p] (ki p) []:=by
 have hP:=lE hS
 have hN:=tM hP.1
 have hT:=tL p.t hN.1 hN.2
 have hA:=C7 p.ages (by omega)
 have hC:=oM p.cells (by omega)
 have hV:(bR (p.vols.map ek)&&fits (Nat.add 0 (p.vols.map ek).length) 40)=true:=by rw[A6,cX (by simp;omega)];rfl
 refine(GO _ _ _ _ _ _ _ ?_).run
 repeat' first
  |exact rfl
  |refine⟨(ki p,[]),?_,?_,⟨rfl,by first|rfl|trivial⟩⟩
  |refine⟨(ki p,[]),?_,?_,by first|rfl|trivial⟩
  |refine⟨_,_,hT,?_⟩
  |refine⟨_,hA,?_⟩
  |refine⟨_,hC,?_⟩
  |refine ai hV ?_
theorem ig (l:List Key) (hl:l.length≤1073741824):aa C ax [cO l] (fP (cz l)) []:=by
 refine(Jn _ _ ?_).run
 unfold cz
 by_cases h:l.length=0
 ·exact ai (by simp[h]) ⟨by rw[if_pos h];rfl,rfl⟩
 ·refine ay (by rw[List.length_map,Int.ofNat_eq_natCast,bw];exact decide_eq_false (by omega)) ?_
  rw[show bR (l.map bK)=true from jw _,cX (by simp;omega)]
  exact⟨by rw[if_neg h];rfl,rfl⟩
theorem mB (l:List Key) (hl:l.length≤1073741824):aa C bP [cO l] (fP (cz l)) []:=by
 refine(Jy _ _ ?_).run
 unfold cz
 by_cases h:l.length=0
 ·exact ai (by simp[h]) ⟨by rw[if_pos h];rfl,rfl⟩
 ·refine ay (by rw[List.length_map,Int.ofNat_eq_natCast,bw];exact decide_eq_false (by omega)) ?_
  exact⟨_,mA l (by omega),⟨by rw[if_neg h];rfl,rfl⟩⟩
theorem tN (n:List (List Key)) (k:Key) (hb:n.length≤1073740000) (hl:tot bJ n≤1073740000):aa C cZ [fP n,zB k] (cO (cn n k)) []:=by
 have h1:=cL n
 have h2:=m4 (aO n) k
 exact(G0 _ _ _ _ _ _ _ ⟨_,(iw n (by omega) (by omega) _).2 rfl,_,oc (aO n) k (by omega),_,Bm (eH (aO n) k) (by omega),⟨rfl,by first|rfl|trivial⟩⟩).run
theorem Ew (n:List (List Key)) (k:Key) (hb:n.length≤1073740000) (hl:tot bJ n≤1073740000):aa C ry [fP n,zB k] (Rq (cg n k)) []:=by
 have hs: ∀s∈n,s.length≤1073741824:=fun s hm=>by have:=qg (w:=bJ) hm;unfold bJ at this hl;omega
 have hcp:=pG n (by omega) hs
 have hXl:=BN n k
 have hXt:=BO n k
 have tail: ∀(X:List (List Key)) (Q:QV),X=iO n k→Q (Rq (cg n k)) []→ ∃(b18:Bool),aa C bf ([TV.ag [TC.sub 1 (X.map bZ)]]) (TV.c (iB b18)) []∧(aE b18 (Q (TV.tu [(1,[TC.sub 1 (X.map bZ)]),(0,[iB true])]) ([])) (∃(l19:RR),aa C cZ ([TV.ag [TC.sub 1 (n.map bZ)],zB k]) (TV.c (TC.sub 5 l19)) []∧(∃(l20:RR),aa C bP ([TV.c (TC.sub 5 l19)]) (TV.ag [TC.sub 1 l20]) []∧(aE (bH 8 (Int.ofNat (List.length l19))) (∃(l21:RR),aa C aP ([TV.ag [TC.sub 1 (n.map bZ)]]) (TV.ag [TC.sub 1 l21]) []∧(Q (TV.tu [(1,[TC.sub 1 l21]),(0,[iB false])]) ([]))) (∃(b22:Bool),aa C bf ([TV.ag [TC.sub 1 l20]]) (TV.c (iB b22)) []∧(aE (!b22) (∃(l23:RR),aa C aP ([TV.ag [TC.sub 1 (n.map bZ)]]) (TV.ag [TC.sub 1 l23]) []∧(Q (TV.tu [(1,[TC.sub 1 l23]),(0,[iB false])]) ([]))) (Q (TV.tu [(1,[TC.sub 1 l20]),(0,[iB true])]) ([])))))))):=by
  intro X Q hX hQ
  rw[←hX] at hXl hXt
  have hok:aa C bf [fP X] (vB (eI X)) []:=qC X (by omega) (by omega)
  have hkl:=nr n k
  have hnl:=tr (cn n k)
  have hnt:=tw (cn n k)
  have hok2:aa C bf [fP (cz (cn n k))] (vB (eI (cz (cn n k)))) []:=qC _ (by omega) (by omega)
  refine⟨_,hok,?_⟩
  unfold cg at hQ
  rw[←hX] at hQ
  cases h1:eI X with
  |true=>
   rw[if_pos h1] at hQ
   exact ai rfl hQ
  |false=>
   rw[if_neg (by rw[h1];simp)] at hQ
   refine ay rfl ⟨_,tN n k (by omega) (by omega),_,mB (cn n k) (by omega),?_⟩
   by_cases h2:8<(cn n k).length
   ·rw[if_pos h2] at hQ
    exact ai (by simp<;>omega) ⟨_,hcp,hQ⟩
   ·rw[if_neg h2] at hQ
    refine ay (by simp<;>omega) ⟨_,hok2,?_⟩
    cases h3:eI (cz (cn n k)) with
    |true=>
     rw[if_pos h3] at hQ
     exact ay rfl hQ
    |false=>
     rw[if_neg (by rw[h3];simp)] at hQ
     exact ai rfl ⟨_,hcp,hQ⟩
 refine(Jx _ _ _ _ _ _ _ ⟨_,hcp,?_⟩).run
 rw[List.length_map]
 cases hlast:n[n.length-1]? with
 |none=>
  have h0:n.length=0:=Classical.byContradiction fun h=>by rw[List.getElem?_eq_getElem (by omega)] at hlast;cases hlast
  have hX:n++[[k]]=iO n k:=by unfold iO;rw[hlast]
  refine ay (by rw[h0,eE (by simp)];simp) ((ai (cX (by simp<;>omega)) ?_))
  rw[show List.append (n.map bZ) [[TC.sub 5 [[iI k.b,iI k.a,iI k.k,iI k.c,iI k.g]]]]=(n++[[k]]).map bZ from by simp[bZ,bK]]
  exact tail _ (fun r fs=>r=Rq (cg n k)∧fs=[]) hX ⟨rfl,by first|rfl|trivial⟩
 |some s=>
  have hlt:=(List.getElem?_eq_some_iff.1 hlast).1
  have hsub:c7 (Int.ofNat n.length) 1=((n.length-1:Nat):Int):=by rw[eE (by simp<;>omega)];simp;omega
  have hrow:rowAt (n.map bZ) ((n.length-1:Nat):Int)=some [TC.sub 5 (s.map bK)]:=by rw[bN,aK,hlast];rfl
  have hsl:=hs s (List.mem_of_getElem? hlast)
  have hset:setRow (n.map bZ) ((n.length-1:Nat):Int) 0 [TC.sub 5 ((eH s k).map bK)]=(n.set (n.length-1) (eH s k)).map bZ:=IP (a:=s) (a':=eH s k) hlast rfl
  have happ:List.append (n.map bZ) [[TC.sub 5 [[iI k.b,iI k.a,iI k.k,iI k.c,iI k.g]]]]=(n++[[k]]).map bZ:=by simp[bZ,bK]
  have hfit:fits (Nat.succ n.length) 24=true:=cX (by simp<;>omega)
  rw[hsub]
  refine ai (by simp) ⟨_,hrow,?_⟩
  have key: ∀Q:QV,Q (Rq (cg n k)) []→ ∃(n8:Int) (n9:Int) (n10:Int) (n11:Int) (n12:Int) (b13:Bool),aa C eO ([TV.c (TC.sub 5 (s.map bK)),TV.c (iI k.b),TV.c (iI k.a)]) (TV.tu [(1,[iI n8,iI n9,iI n10,iI n11,iI n12]),(0,[iB b13])]) []∧(aE b13 (∃(l14:RR),rowAt (n.map bZ) ((n.length-1:Nat):Int)=some [TC.sub 5 l14]∧(∃(l15:RR),aa C cA ([TV.c (TC.sub 5 l14),zB k]) (TV.c (TC.sub 5 l15)) []∧(∃(l16:RR),rowAt (n.map bZ) ((n.length-1:Nat):Int)=some [TC.sub 5 l16]∧(∃(l17:RR),rowAt (n.map bZ) ((n.length-1:Nat):Int)=some [TC.sub 5 l17]∧(∃(b18:Bool),aa C bf ([TV.ag [TC.sub 1 (setRow (n.map bZ) ((n.length-1:Nat):Int) 0 [TC.sub 5 l15])]]) (TV.c (iB b18)) []∧(aE b18 (Q (TV.tu [(1,[TC.sub 1 (setRow (n.map bZ) ((n.length-1:Nat):Int) 0 [TC.sub 5 l15])]),(0,[iB true])]) ([])) (∃(l19:RR),aa C cZ ([TV.ag [TC.sub 1 (n.map bZ)],zB k]) (TV.c (TC.sub 5 l19)) []∧(∃(l20:RR),aa C bP ([TV.c (TC.sub 5 l19)]) (TV.ag [TC.sub 1 l20]) []∧(aE (bH 8 (Int.ofNat (List.length l19))) (∃(l21:RR),aa C aP ([TV.ag [TC.sub 1 (n.map bZ)]]) (TV.ag [TC.sub 1 l21]) []∧(Q (TV.tu [(1,[TC.sub 1 l21]),(0,[iB false])]) ([]))) (∃(b22:Bool),aa C bf ([TV.ag [TC.sub 1 l20]]) (TV.c (iB b22)) []∧(aE (!b22) (∃(l23:RR),aa C aP ([TV.ag [TC.sub 1 (n.map bZ)]]) (TV.ag [TC.sub 1 l23]) []∧(Q (TV.tu [(1,[TC.sub 1 l23]),(0,[iB false])]) ([]))) (Q (TV.tu [(1,[TC.sub 1 l20]),(0,[iB true])]) ([])))))))))))))
   (∃(l24:RR),rowAt (n.map bZ) ((n.length-1:Nat):Int)=some [TC.sub 5 l24]∧(aE (bH (Int.ofNat (List.length l24)) 4) (∃(l25:RR),rowAt (n.map bZ) ((n.length-1:Nat):Int)=some [TC.sub 5 l25]∧(∃(l26:RR),aa C cA ([TV.c (TC.sub 5 l25),zB k]) (TV.c (TC.sub 5 l26)) []∧(∃(l27:RR),rowAt (n.map bZ) ((n.length-1:Nat):Int)=some [TC.sub 5 l27]∧(∃(l28:RR),rowAt (n.map bZ) ((n.length-1:Nat):Int)=some [TC.sub 5 l28]∧(∃(b18:Bool),aa C bf ([TV.ag [TC.sub 1 (setRow (n.map bZ) ((n.length-1:Nat):Int) 0 [TC.sub 5 l26])]]) (TV.c (iB b18)) []∧(aE b18 (Q (TV.tu [(1,[TC.sub 1 (setRow (n.map bZ) ((n.length-1:Nat):Int) 0 [TC.sub 5 l26])]),(0,[iB true])]) ([])) (∃(l19:RR),aa C cZ ([TV.ag [TC.sub 1 (n.map bZ)],zB k]) (TV.c (TC.sub 5 l19)) []∧(∃(l20:RR),aa C bP ([TV.c (TC.sub 5 l19)]) (TV.ag [TC.sub 1 l20]) []∧(aE (bH 8 (Int.ofNat (List.length l19))) (∃(l21:RR),aa C aP ([TV.ag [TC.sub 1 (n.map bZ)]]) (TV.ag [TC.sub 1 l21]) []∧(Q (TV.tu [(1,[TC.sub 1 l21]),(0,[iB false])]) ([]))) (∃(b22:Bool),aa C bf ([TV.ag [TC.sub 1 l20]]) (TV.c (iB b22)) []∧(aE (!b22) (∃(l23:RR),aa C aP ([TV.ag [TC.sub 1 (n.map bZ)]]) (TV.ag [TC.sub 1 l23]) []∧(Q (TV.tu [(1,[TC.sub 1 l23]),(0,[iB false])]) ([]))) (Q (TV.tu [(1,[TC.sub 1 l20]),(0,[iB true])]) ([]))))))))))))) (aE (fits (Nat.succ (List.length n)) 24) (∃(b18:Bool),aa C bf ([TV.ag [TC.sub 1 (List.append (n.map bZ) [[TC.sub 5 [[iI k.b,iI k.a,iI k.k,iI k.c,iI k.g]]]])]]) (TV.c (iB b18)) []∧(aE b18 (Q (TV.tu [(1,[TC.sub 1 (List.append (n.map bZ) [[TC.sub 5 [[iI k.b,iI k.a,iI k.k,iI k.c,iI k.g]]]])]),(0,[iB true])]) ([])) (∃(l19:RR),aa C cZ ([TV.ag [TC.sub 1 (n.map bZ)],zB k]) (TV.c (TC.sub 5 l19)) []∧(∃(l20:RR),aa C bP ([TV.c (TC.sub 5 l19)]) (TV.ag [TC.sub 1 l20]) []∧(aE (bH 8 (Int.ofNat (List.length l19))) (∃(l21:RR),aa C aP ([TV.ag [TC.sub 1 (n.map bZ)]]) (TV.ag [TC.sub 1 l21]) []∧(Q (TV.tu [(1,[TC.sub 1 l21]),(0,[iB false])]) ([]))) (∃(b22:Bool),aa C bf ([TV.ag [TC.sub 1 l20]]) (TV.c (iB b22)) []∧(aE (!b22) (∃(l23:RR),aa C aP ([TV.ag [TC.sub 1 (n.map bZ)]]) (TV.ag [TC.sub 1 l23]) []∧(Q (TV.tu [(1,[TC.sub 1 l23]),(0,[iB false])]) ([]))) (Q (TV.tu [(1,[TC.sub 1 l20]),(0,[iB true])]) ([]))))))))) (False))))):=by
   intro Q hQ
   refine⟨_,_,_,_,_,_,Je s k.b k.a hsl,?_⟩
   cases h1:(Ed s k.b k.a).2 with
   |true=>
    have hX:n.set (n.length-1) (eH s k)=iO n k:=by unfold iO BM;rw[hlast];simp[h1]
    refine ai rfl ⟨_,hrow,_,oc s k hsl,_,hrow,_,hrow,?_⟩
    rw[hset]
    exact tail _ _ hX hQ
   |false=>
    refine ay rfl ⟨_,hrow,?_⟩
    by_cases h2:s.length<4
    ·have hX:n.set (n.length-1) (eH s k)=iO n k:=by unfold iO BM;rw[hlast];simp[h1,h2]
     refine ai (by simp<;>omega) ⟨_,hrow,_,oc s k hsl,_,hrow,_,hrow,?_⟩
     rw[hset]
     exact tail _ _ hX hQ
    ·have hX:n++[[k]]=iO n k:=by unfold iO BM;rw[hlast];simp[h1,h2]
     refine ay (by simp<;>omega) (ai hfit ?_)
     rw[happ]
     exact tail _ _ hX hQ
  exact⟨(Rq (cg n k),[]),key (fun a b=>(a,b)=(Rq (cg n k),([]:List TV))) rfl,key (fun a b=>(a,b)=(Rq (cg n k),([]:List TV))) rfl,⟨rfl,rfl⟩⟩
theorem Ex (n:List (List Key)) (k:Key) (hb:n.length≤1073740000) (hl:tot bJ n≤1073740000):aa C ru [fP n,zB k] (Rq (cg n k)) []:=by
 have hs: ∀s∈n,s.length≤1073741824:=fun s hm=>by have:=qg (w:=bJ) hm;unfold bJ at this hl;omega
 have hcp:=qG n (by omega) hs
 have hXl:=BN n k
 have hXt:=BO n k
 have tail: ∀(X:List (List Key)) (Q:QV),X=iO n k→Q (Rq (cg n k)) []→ ∃(b22:Bool),aa C bG ([TV.ag [TC.sub 1 (X.map bZ)]]) (TV.c (iB b22)) []∧(aE b22 (Q (TV.tu [(1,[TC.sub 1 (X.map bZ)]),(0,[iB true])]) ([])) (∃(l23:RR),aa C aI ([TV.ag [TC.sub 1 (n.map bZ)]]) (TV.c (TC.sub 5 l23)) []∧(∃(l24:RR),aa C aY ([TV.c (TC.sub 5 l23),zB k]) (TV.c (TC.sub 5 l24)) []∧(∃(l25:RR),aa C bT ([TV.c (TC.sub 5 l24)]) (TV.c (TC.sub 5 l25)) []∧(aE (bH 8 (Int.ofNat (List.length l25))) (∃(l26:RR),aa C bu ([TV.ag [TC.sub 1 (n.map bZ)]]) (TV.ag [TC.sub 1 l26]) []∧(Q (TV.tu [(1,[TC.sub 1 l26]),(0,[iB false])]) ([]))) (∃(l27:RR),aa C ax ([TV.c (TC.sub 5 l25)]) (TV.ag [TC.sub 1 l27]) []∧(∃(b28:Bool),aa C bG ([TV.ag [TC.sub 1 l27]]) (TV.c (iB b28)) []∧(aE (!b28) (∃(l29:RR),aa C bu ([TV.ag [TC.sub 1 (n.map bZ)]]) (TV.ag [TC.sub 1 l29]) []∧(Q (TV.tu [(1,[TC.sub 1 l29]),(0,[iB false])]) ([]))) (∃(l30:RR),aa C ax ([TV.c (TC.sub 5 l25)]) (TV.ag [TC.sub 1 l30]) []∧(Q (TV.tu [(1,[TC.sub 1 l30]),(0,[iB true])]) ([]))))))))))):=by
  intro X Q hX hQ
  rw[←hX] at hXl hXt
  have hok:aa C bG [fP X] (vB (eI X)) []:=qB X (by omega) (by omega)
  have hkl:=nr n k
  have hnl:=tr (cn n k)
  have hnt:=tw (cn n k)
  have hok2:aa C bG [fP (cz (cn n k))] (vB (eI (cz (cn n k)))) []:=qB _ (by omega) (by omega)
  refine⟨_,hok,?_⟩
  unfold cg at hQ
  rw[←hX] at hQ
  cases h1:eI X with
  |true=>
   rw[if_pos h1] at hQ
   exact ai rfl hQ
  |false=>
   rw[if_neg (by rw[h1];simp)] at hQ
   have g1:=cL n
   have g2:=m4 (aO n) k
   refine ay rfl ⟨_,(dU n (by omega) (by omega) _).2 rfl,_,lF (aO n) k (by omega),_,vj (eH (aO n) k) (by omega),?_⟩
   change aE (bH 8 (Int.ofNat (List.length ((cn n k).map bK)))) _ _
   by_cases h2:8<(cn n k).length
   ·rw[if_pos h2] at hQ
    exact ai (by simp<;>omega) ⟨_,hcp,hQ⟩
   ·rw[if_neg h2] at hQ
    refine ay (by simp<;>omega) ⟨_,ig (cn n k) (by omega),_,hok2,?_⟩
    cases h3:eI (cz (cn n k)) with
    |true=>
     rw[if_pos h3] at hQ
     exact ay rfl ⟨_,ig (cn n k) (by omega),hQ⟩
    |false=>
     rw[if_neg (by rw[h3];simp)] at hQ
     exact ai rfl ⟨_,hcp,hQ⟩
 refine(JG _ _ _ _ _ _ _ ⟨_,hcp,?_⟩).run
 rw[List.length_map]
 cases hlast:n[n.length-1]? with
 |none=>
  have h0:n.length=0:=Classical.byContradiction fun h=>by rw[List.getElem?_eq_getElem (by omega)] at hlast;cases hlast
  have hX:n++[[k]]=iO n k:=by unfold iO;rw[hlast]
  refine ay (by rw[h0,eE (by simp)];simp) (ay (by rw[h0,eE (by simp)];simp) (ai (cX (by simp<;>omega)) ?_))
  rw[show List.append (n.map bZ) [[TC.sub 5 [[iI k.b,iI k.a,iI k.k,iI k.c,iI k.g]]]]=(n++[[k]]).map bZ from by simp[bZ,bK]]
  exact tail _ (fun r fs=>r=Rq (cg n k)∧fs=[]) hX ⟨rfl,by first|rfl|trivial⟩
 |some s=>
  have hlt:=(List.getElem?_eq_some_iff.1 hlast).1
  have hsub:c7 (Int.ofNat n.length) 1=((n.length-1:Nat):Int):=by rw[eE (by simp<;>omega)];simp;omega
  have hrow:rowAt (n.map bZ) ((n.length-1:Nat):Int)=some [TC.sub 5 (s.map bK)]:=by rw[bN,aK,hlast];rfl
  have hsl:=hs s (List.mem_of_getElem? hlast)
  have hset:setRow (n.map bZ) ((n.length-1:Nat):Int) 0 [TC.sub 5 ((eH s k).map bK)]=(n.set (n.length-1) (eH s k)).map bZ:=IP (a:=s) (a':=eH s k) hlast rfl
  have happ:List.append (n.map bZ) [[TC.sub 5 [[iI k.b,iI k.a,iI k.k,iI k.c,iI k.g]]]]=(n++[[k]]).map bZ:=by simp[bZ,bK]
  have hfit:fits (Nat.succ n.length) 24=true:=cX (by simp<;>omega)
  rw[hsub]
  refine ai (by simp) ⟨_,hrow,_,hrow,_,_,_,_,_,_,Jd s k.b k.a hsl,ai (by simp) ⟨_,hrow,_,hrow,?_⟩⟩
  by_cases h2:s.length<4
  ·have hX:n.set (n.length-1) (eH s k)=iO n k:=by unfold iO BM;rw[hlast];simp[h2]
   refine ai (by simp<;>omega) ⟨_,hrow,_,hrow,_,lF s k hsl,_,hrow,_,hrow,?_⟩
   rw[hset]
   exact tail _ (fun r fs=>r=Rq (cg n k)∧fs=[]) hX ⟨rfl,by first|rfl|trivial⟩
  ·refine ay (by simp<;>omega) ?_
   cases h1:(Ed s k.b k.a).2 with
   |true=>
    have hX:n.set (n.length-1) (eH s k)=iO n k:=by unfold iO BM;rw[hlast];simp[h1]
    refine ai rfl ⟨_,hrow,_,hrow,_,lF s k hsl,_,hrow,_,hrow,?_⟩
    rw[hset]
    exact tail _ (fun r fs=>r=Rq (cg n k)∧fs=[]) hX ⟨rfl,by first|rfl|trivial⟩
   |false=>
    have hX:n++[[k]]=iO n k:=by unfold iO BM;rw[hlast];simp[h1,h2]
    refine ay rfl (ai hfit ?_)
    rw[happ]
    exact tail _ (fun r fs=>r=Rq (cg n k)∧fs=[]) hX ⟨rfl,by first|rfl|trivial⟩
theorem r9 (t:Tree) (i:Nat) (lw:List Int) (nd:List (List (List Key))) (h1:i+1≤t.lows.length) (h2:i+1≤t.nodes.length) (hl:t.lows.length≤1073741824) (hn:t.nodes.length≤1073741824) (hlw:lw.length≤1073741824) (hnd:nd.length≤1073741824):aa C aF [dH t,vI (i:Int),pQ lw,rW nd] (dH (jJ t i 1 lw nd)) []:=by
 have e1:au (t.lows.map bM) 0 (i:Int)=(t.lows.take i).map bM:=by rw[cH];rfl
 have e2:au (t.lows.map bM) ((i:Int)+1) (Int.ofNat (t.lows.map bM).length)=(t.lows.drop (i+1)).map bM:=by
  rw[cH,List.length_map,show((i:Int)+1).toNat=i+1 from by omega,show(Int.ofNat t.lows.length).toNat=t.lows.length from rfl,List.take_length]
 have e3:au (t.nodes.map aV) 0 (i:Int)=(t.nodes.take i).map aV:=by rw[cH];rfl
 have ea:az (i:Int) 1=(i:Int)+1:=aJ (by omega)
 have k1:(t.lows.take i).length≤t.lows.length:=by rw[List.length_take];omega
 have k2:(t.lows.drop (i+1)).length≤t.lows.length:=by rw[List.length_drop];omega
 have k3:(t.nodes.take i).length≤t.nodes.length:=by rw[List.length_take];omega
 have k4:(t.nodes.drop (i+1)).length≤t.nodes.length:=by rw[List.length_drop];omega
 have e4:au (t.nodes.map aV) ((i:Int)+1) (Int.ofNat (t.nodes.map aV).length)=(t.nodes.drop (i+1)).map aV:=by
  rw[cH,List.length_map,show((i:Int)+1).toNat=i+1 from by omega,show(Int.ofNat t.nodes.length).toNat=t.nodes.length from rfl,List.take_length]
 refine(Nd _ _ _ _ _ _ ?_).run
 rw[ea,e1,e2,e3,e4,jh,jh,jh,jh]
 refine ai (by simp<;>omega) (ai (by simp<;>omega) (ai (by rw[jv,cX (by simp<;>omega)];rfl) (ai (by rw[jv,cX (by simp only[List.length_map,Nat.add_eq];omega)];rfl) (ai (by rw[jv,cX (by simp only[List.length_map,List.length_append,Nat.add_eq];omega)];rfl)
  (ai (by simp<;>omega) (ai (by simp<;>omega) (ai (cX (by simp<;>omega)) (ai (cX (by simp only[List.length_map,Nat.add_eq];omega)) (ai (cX (by simp only[List.length_map,List.length_append,Nat.add_eq];omega)) ?_)))))))))
 exact⟨rfl,by first|rfl|trivial⟩
attribute [local semireducible] gv au in
theorem Ry {rows:RR} {i c:Nat} (hk:i+c≤rows.length):au (gv 1 rows 0 (i:Int)) ((i:Int)+(c:Int)) (Int.ofNat rows.length)=rows.drop (i+c):=by
 unfold au gv
 rw[Int.toNat_natCast,show((i:Int)+(c:Int)).toNat=i+c from by omega,show(0:Int).toNat=0 from rfl,show(Int.ofNat rows.length).toNat=rows.length from rfl,List.take_zero,List.nil_append,Nat.sub_zero]
 rw[List.take_of_length_le (by simp<;>omega),List.drop_append,List.length_replicate,List.drop_of_length_le (by simp),List.nil_append,List.drop_drop]
 congr 1;omega
theorem pH (t:Tree) (i c:Nat) (lw:List Int) (nd:List (List (List Key))) (h1:i+c≤t.lows.length) (h2:i+c≤t.nodes.length) (hl:t.lows.length≤1073741824) (hn:t.nodes.length≤1073741824) (hlw:lw.length≤1073741824) (hnd:nd.length≤1073741824):aa C dn [dH t,vI (i:Int),vI (c:Int),pQ lw,rW nd] (dH (jJ t i c lw nd)) []:=by
 have e1:au (t.lows.map bM) 0 (i:Int)=(t.lows.take i).map bM:=by rw[cH];rfl
 have e2:au (t.lows.map bM) ((i:Int)+(c:Int)) (Int.ofNat (t.lows.map bM).length)=(t.lows.drop (i+c)).map bM:=by
  rw[cH,List.length_map,show((i:Int)+(c:Int)).toNat=i+c from by omega,show(Int.ofNat t.lows.length).toNat=t.lows.length from rfl,List.take_length]
 have e3:au (t.nodes.map aV) 0 (i:Int)=(t.nodes.take i).map aV:=by rw[cH];rfl
 have ea:az (i:Int) (c:Int)=(i:Int)+(c:Int):=aJ (by omega)
 have k1:(t.lows.take i).length≤t.lows.length:=by rw[List.length_take];omega
 have k2:(t.lows.drop (i+c)).length≤t.lows.length:=by rw[List.length_drop];omega
 have k3:(t.nodes.take i).length≤t.nodes.length:=by rw[List.length_take];omega
 have k4:(t.nodes.drop (i+c)).length≤t.nodes.length:=by rw[List.length_drop];omega
 have e4:au (gv 1 (t.nodes.map aV) 0 (i:Int)) ((i:Int)+(c:Int)) (Int.ofNat (t.nodes.map aV).length)=(t.nodes.drop (i+c)).map aV:=by
  rw[Ry (by rw[List.length_map];exact h2),List.map_drop]
 refine(Hu _ _ _ _ _ _ _ ?_).run
 rw[ea,e1,e2,e3,e4]
 refine ai (by simp<;>omega) ⟨_,tK (t.lows.take i) (by omega),?_⟩
 rw[jh,jh,jh,jh]
 refine ai (by simp<;>omega) (ai (by rw[jv,cX (by simp only[List.length_map,Nat.add_eq];omega)];rfl) (ai (by rw[jv,cX (by simp only[List.length_map,List.length_append,Nat.add_eq];omega)];rfl)
  (ai (by simp<;>omega) (ai (by simp<;>omega) (ai (cX (by simp<;>omega)) (ai (cX (by simp only[List.length_map,Nat.add_eq];omega)) (ai (cX (by simp only[List.length_map,List.length_append,Nat.add_eq];omega)) ?_)))))))
 exact⟨rfl,by first|rfl|trivial⟩
def LY:Option Nat→Int
 |some i=>i
 |none=> -1
theorem qH (t:Tree) (hn:t.nodes.length≤1073741824) (hz:tot aR t.nodes≤1073740000):aa C fG [dH t] (vI (LY (nN t))) []:=by
 refine(Ld _ _ _ ?_).run
 have key: ∀(d i:Nat),i+d=t.nodes.length→qq t d i=nN t→ah C fG an 4 0 (oC (i:Int) (t.lows.map bM) (t.nodes.map aV)) (fun x st=>aG C fG an x st fun r fs=>r=vI (LY (nN t))∧fs=[]):=by
  intro d
  induction d with
  |zero=>
   intro i h he
   have ea:az (i:Int) 1=(i:Int)+1:=aJ (by omega)
   refine zw _ _ _ _ ?_
   rw[ea]
   exact ay (by simp<;>omega) (zx _ _ _ _ _ ⟨by rw[←he];rfl,rfl⟩)
  |succ d ih=>
   intro i h he
   have ea:az (i:Int) 1=(i:Int)+1:=aJ (by omega)
   have ec:(i:Int)+1=((i+1:Nat):Int):=by omega
   unfold qq at he
   refine zw _ _ _ _ ?_
   rw[ea,ec]
   by_cases h1:i+1<t.nodes.length
   ·rw[if_pos h1] at he
    obtain⟨a,ha⟩: ∃a,t.nodes[i]?=some a:=⟨_,List.getElem?_eq_getElem (by omega)⟩
    obtain⟨b,hb⟩: ∃b,t.nodes[i+1]?=some b:=⟨_,List.getElem?_eq_getElem h1⟩
    have za:a.length+tot bJ a≤tot aR t.nodes:=jI (w:=aR) ha
    have zb:b.length+tot bJ b≤tot aR t.nodes:=jI (w:=aR) hb
    have ka:g9 t i=aO a:=by unfold g9;rw[List.getD_eq_getElem?_getD,ha];rfl
    have kb:g9 t (i+1)=aO b:=by unfold g9;rw[List.getD_eq_getElem?_getD,hb];rfl
    have la:=cL a
    have lb:=cL b
    rw[ka,kb] at he
    refine ai (by simp<;>omega) ⟨_,by rw[bN,aK,ha];rfl,_,by rw[bN,aK,hb];rfl,_,(dU a (by omega) (by omega) _).2 rfl,_,(dU b (by omega) (by omega) _).2 rfl,?_⟩
    rw[List.length_map,List.length_map,show az (Int.ofNat (aO a).length) (Int.ofNat (aO b).length)=((aO a).length:Int)+(aO b).length from aJ (by simp<;>omega)]
    by_cases h2:(aO a).length+(aO b).length≤6
    ·rw[if_pos h2] at he
     exact ai (by simp<;>omega) (HB _ _ _ _ _ _ ⟨by rw[←he];rfl,rfl⟩)
    ·rw[if_neg h2] at he
     exact ay (by simp<;>omega) (ih (i+1) (by omega) he)
   ·rw[if_neg h1] at he
    exact ay (by simp<;>omega) (zx _ _ _ _ _ ⟨by rw[←he];rfl,rfl⟩)
 exact key t.nodes.length 0 (by omega) rfl
theorem F3 (t0:Tree) (hw0:t0.lows.length=t0.nodes.length) (hz0:tot aR t0.nodes+t0.nodes.length≤1073700000):aa C aq [dH t0] (dH (jK t0.nodes.length t0)) []:=by
 refine(KH _ _ _ ⟨_,qH t0 (by omega) (by omega),?_⟩).run
 have key: ∀(m:Nat) (t:Tree),t.nodes.length=m→t.lows.length=t.nodes.length→tot aR t.nodes+t.nodes.length≤1073700000→jK m t=jK t0.nodes.length t0→ah C aq an 4 0 (lK (LY (nN t)) (t.lows.map bM) (t.nodes.map aV)) (fun x st=>aG C aq an x st fun r fs=>r=dH (jK t0.nodes.length t0)∧fs=[]):=by
  intro m
  induction m with
  |zero=>
   intro t hm hw hz he
   have hp:nN t=none:=by unfold nN;rw[hm];rfl
   rw[hp]
   exact qK _ _ _ _ (ay (by simp[LY]) (yX _ _ _ _ _ ⟨by rw[←he];rfl,rfl⟩))
  |succ m ih=>
   intro t hm hw hz he
   rw[qc] at he
   cases hp:nN t with
   |none=>
    rw[hp] at he
    have he:t=jK t0.nodes.length t0:=he
    exact qK _ _ _ _ (ay (by simp[LY]) (yX _ _ _ _ _ ⟨by rw[←he],rfl⟩))
   |some i=>
   rw[hp] at he
   have he:jK m (cD t i)=jK t0.nodes.length t0:=he
   have hlt:=qb hp
   show ah C aq an 4 0 (lK (i:Int) (t.lows.map bM) (t.nodes.map aV)) _
   obtain⟨a,ha⟩: ∃a,t.nodes[i]?=some a:=⟨_,List.getElem?_eq_getElem (by omega)⟩
   obtain⟨b,hb⟩: ∃b,t.nodes[i+1]?=some b:=⟨_,List.getElem?_eq_getElem hlt.1⟩
   have za:a.length+tot bJ a≤tot aR t.nodes:=jI (w:=aR) ha
   have zb:b.length+tot bJ b≤tot aR t.nodes:=jI (w:=aR) hb
   have la:=cL a
   have lb:=cL b
   have h6:=hlt.2
   rw[gh ha,gh hb] at h6
   have ea:az (i:Int) 1=((i+1:Nat):Int):=by rw[aJ (by omega)];omega
   have eb:az (i:Int) 2=((i+2:Nat):Int):=by rw[aJ (by omega)];omega
   have ra:rowAt (t.nodes.map aV) (i:Int)=some [TC.sub 1 (a.map bZ)]:=by rw[bN,aK,ha];rfl
   have rb:rowAt (t.nodes.map aV) ((i+1:Nat):Int)=some [TC.sub 1 (b.map bZ)]:=by rw[bN,aK,hb];rfl
   have c1:au (t.lows.map bM) 0 ((i+1:Nat):Int)=(t.lows.take (i+1)).map bM:=by rw[cH];rfl
   have c2:au (t.lows.map bM) ((i+2:Nat):Int) (Int.ofNat (t.lows.map bM).length)=(t.lows.drop (i+2)).map bM:=by
    rw[cH,List.length_map,Int.toNat_natCast,show(Int.ofNat t.lows.length).toNat=t.lows.length from rfl,List.take_length]
   have c3:au (t.nodes.map aV) 0 (i:Int)=(t.nodes.take i).map aV:=by rw[cH];rfl
   have c4:au (t.nodes.map aV) ((i+2:Nat):Int) (Int.ofNat (t.nodes.map aV).length)=(t.nodes.drop (i+2)).map aV:=by
    rw[cH,List.length_map,Int.toNat_natCast,show(Int.ofNat t.nodes.length).toNat=t.nodes.length from rfl,List.take_length]
   have hlo:i<t.lows.length:=by omega
   have eL:List.append ((t.lows.take (i+1)).map bM) ((t.lows.drop (i+2)).map bM)=(cD t i).lows.map bM:=by
    rw[jh]
    unfold cD jJ
    simp only[]
    rw[List.take_add_one,List.getD_eq_getElem?_getD,List.getElem?_eq_getElem hlo]
    simp
   have eN:List.append (List.append ((t.nodes.take i).map aV) [[TC.sub 1 ((cz (aO a++aO b)).map bZ)]]) ((t.nodes.drop (i+2)).map aV)=(cD t i).nodes.map aV:=by
    rw[CR,jh]
    unfold cD jJ
    simp only[]
    rw[gh ha,gh hb]
   have hsz:=tD hlt.1
   have hjl:=rm hlt.1
   have hjw:(cD t i).lows.length+1=t.lows.length:=by
    have:=xp t i 2 [t.lows.getD i 0] [cz (g9 t i++g9 t (i+1))] (by omega)
    unfold cD
    simp only[List.length_singleton] at this
    omega
   have k1:(t.lows.take (i+1)).length≤t.lows.length:=by rw[List.length_take];omega
   have k2:(t.lows.drop (i+2)).length≤t.lows.length:=by rw[List.length_drop];omega
   have k3:(t.nodes.take i).length≤t.nodes.length:=by rw[List.length_take];omega
   have k4:(t.nodes.drop (i+2)).length≤t.nodes.length:=by rw[List.length_drop];omega
   refine qK _ _ _ _ (ai (by simp) ?_)
   rw[ea,eb]
   refine⟨_,ra,_,ra,_,rb,_,rb,_,(dU a (by omega) (by omega) _).2 rfl,_,(dU b (by omega) (by omega) _).2 rfl,?_⟩
   rw[jh,c1,c2,c3,c4]
   refine ai (by rw[jw,cX (by simp only[List.length_map,Nat.add_eq];omega)];rfl) (ai (by simp<;>omega) (ai (by simp<;>omega) (ai (by rw[jv,cX (by simp only[List.length_map,Nat.add_eq];omega)];rfl) (ai (by rw[jv,cX (by simp only[List.length_map,Nat.add_eq];omega)];rfl)
    (ai (by simp<;>omega) (ai (by simp<;>omega) (ai (cX (by simp only[List.length_map,Nat.add_eq];omega)) ⟨_,ig (aO a++aO b) (by rw[List.length_append];omega),ai (cX (by simp only[List.length_map,Nat.succ_eq_add_one];omega)) ?_⟩)))))))
   rw[eL,eN]
   refine ai (cX (by rw[CR];simp only[List.length_map,List.length_append,List.length_singleton,Nat.add_eq];omega)) ⟨_,qH (cD t i) (by omega) (by omega),?_⟩
   exact ih (cD t i) (by omega) (by omega) (by omega) he
 cases hp:nN t0 with
 |none=>
  have hj:jK t0.nodes.length t0=t0:=by
   cases hm:t0.nodes.length with
   |zero=>rfl
   |succ m=>rw[qc,hp]
  exact yW _ _ _ _ (ay (by simp[LY]) (GI _ _ _ _ _ ⟨by rw[hj],rfl⟩))
 |some i=>
  have hlt:=qb hp
  obtain⟨t,ht⟩: ∃t,t=t0:=⟨_,rfl⟩
  rw[←ht] at hlt hw0 hz0 hp ⊢
  show ah C aq an 4 0 (qI (i:Int) (t.lows.map bM) (t.nodes.map aV)) _
  obtain⟨a,ha⟩: ∃a,t.nodes[i]?=some a:=⟨_,List.getElem?_eq_getElem (by omega)⟩
  obtain⟨b,hb⟩: ∃b,t.nodes[i+1]?=some b:=⟨_,List.getElem?_eq_getElem hlt.1⟩
  have za:a.length+tot bJ a≤tot aR t.nodes:=jI (w:=aR) ha
  have zb:b.length+tot bJ b≤tot aR t.nodes:=jI (w:=aR) hb
  have la:=cL a
  have lb:=cL b
  have h6:=hlt.2
  rw[gh ha,gh hb] at h6
  have ea:az (i:Int) 1=((i+1:Nat):Int):=by rw[aJ (by omega)];omega
  have eb:az (i:Int) 2=((i+2:Nat):Int):=by rw[aJ (by omega)];omega
  have ra:rowAt (t.nodes.map aV) (i:Int)=some [TC.sub 1 (a.map bZ)]:=by rw[bN,aK,ha];rfl
  have rb:rowAt (t.nodes.map aV) ((i+1:Nat):Int)=some [TC.sub 1 (b.map bZ)]:=by rw[bN,aK,hb];rfl
  have c1:au (t.lows.map bM) 0 ((i+1:Nat):Int)=(t.lows.take (i+1)).map bM:=by rw[cH];rfl
  have c2:au (t.lows.map bM) ((i+2:Nat):Int) (Int.ofNat (t.lows.map bM).length)=(t.lows.drop (i+2)).map bM:=by
   rw[cH,List.length_map,Int.toNat_natCast,show(Int.ofNat t.lows.length).toNat=t.lows.length from rfl,List.take_length]
  have c3:au (t.nodes.map aV) 0 (i:Int)=(t.nodes.take i).map aV:=by rw[cH];rfl
  have c4:au (t.nodes.map aV) ((i+2:Nat):Int) (Int.ofNat (t.nodes.map aV).length)=(t.nodes.drop (i+2)).map aV:=by
   rw[cH,List.length_map,Int.toNat_natCast,show(Int.ofNat t.nodes.length).toNat=t.nodes.length from rfl,List.take_length]
  have hlo:i<t.lows.length:=by omega
  have eL:List.append ((t.lows.take (i+1)).map bM) ((t.lows.drop (i+2)).map bM)=(cD t i).lows.map bM:=by
   rw[jh]
   unfold cD jJ
   simp only[]
   rw[List.take_add_one,List.getD_eq_getElem?_getD,List.getElem?_eq_getElem hlo]
   simp
  have eN:List.append (List.append ((t.nodes.take i).map aV) [[TC.sub 1 ((cz (aO a++aO b)).map bZ)]]) ((t.nodes.drop (i+2)).map aV)=(cD t i).nodes.map aV:=by
   rw[CR,jh]
   unfold cD jJ
   simp only[]
   rw[gh ha,gh hb]
  have hsz:=tD hlt.1
  have hjl:=rm hlt.1
  have hjw:(cD t i).lows.length+1=t.lows.length:=by
   have:=xp t i 2 [t.lows.getD i 0] [cz (g9 t i++g9 t (i+1))] (by omega)
   unfold cD
   simp only[List.length_singleton] at this
   omega
  have k1:(t.lows.take (i+1)).length≤t.lows.length:=by rw[List.length_take];omega
  have k2:(t.lows.drop (i+2)).length≤t.lows.length:=by rw[List.length_drop];omega
  have k3:(t.nodes.take i).length≤t.nodes.length:=by rw[List.length_take];omega
  have k4:(t.nodes.drop (i+2)).length≤t.nodes.length:=by rw[List.length_drop];omega
  refine yW _ _ _ _ (ai (by simp) ?_)
  rw[ea,eb]
  refine⟨_,ra,_,rb,_,(dU a (by omega) (by omega) _).2 rfl,_,(dU b (by omega) (by omega) _).2 rfl,?_⟩
  rw[jh,c1,c2,c3,c4]
  refine ai (by rw[jw,cX (by simp only[List.length_map,Nat.add_eq];omega)];rfl) (ai (by simp<;>omega) (ai (by simp<;>omega) (ai (by rw[jv,cX (by simp only[List.length_map,Nat.add_eq];omega)];rfl) (ai (by rw[jv,cX (by simp only[List.length_map,Nat.add_eq];omega)];rfl)
   (ai (by simp<;>omega) (ai (by simp<;>omega) (ai (cX (by simp only[List.length_map,Nat.add_eq];omega)) ⟨_,ig (aO a++aO b) (by rw[List.length_append];omega),ai (cX (by simp only[List.length_map,Nat.succ_eq_add_one];omega)) ?_⟩)))))))
  rw[eL,eN]
  refine ai (cX (by rw[CR];simp only[List.length_map,List.length_append,List.length_singleton,Nat.add_eq];omega)) ⟨_,qH (cD t i) (by omega) (by omega),?_⟩
  refine ht▸key (cD t i).nodes.length (cD t i) rfl (by omega) (by omega) ?_
  rw[←ht]
  have:t.nodes.length=(cD t i).nodes.length+1:=by omega
  rw[this]
  rw[qc,hp]
theorem FJ (t u:Tree) (hw:t.lows.length=t.nodes.length) (hz:tot aR t.nodes+t.nodes.length≤1073700000) (E:nN t=none→t=u)
 (N: ∀i,nN t=some i→ah C bV an 4 0 (iC ((0:Nat):Int) ((cD t i).lows.map bM) ((cD t i).nodes.map aV)) (fun x st=>aG C bV an x st fun r fs=>r=dH u∧fs=[])):
 ∀d i,i+d=t.nodes.length→qq t d i=nN t→ah C bV an 4 0 (iC (i:Int) (t.lows.map bM) (t.nodes.map aV)) (fun x st=>aG C bV an x st fun r fs=>r=dH u∧fs=[]):=by
 intro d
 induction d with
 |zero=>
  intro i h he
  have ea:az (i:Int) 1=(i:Int)+1:=aJ (by omega)
  refine y8 _ _ _ _ ?_
  rw[ea]
  exact ay (by simp<;>omega) (y9 _ _ _ _ _ ⟨by rw[E (by rw[←he];rfl)],rfl⟩)
 |succ d ih=>
  intro i h he
  have ea:az (i:Int) 1=(i:Int)+1:=aJ (by omega)
  have ec:(i:Int)+1=((i+1:Nat):Int):=by omega
  unfold qq at he
  refine y8 _ _ _ _ ?_
  rw[ea,ec]
  by_cases h1:i+1<t.nodes.length
  ·rw[if_pos h1] at he
   obtain⟨a,ha⟩: ∃a,t.nodes[i]?=some a:=⟨_,List.getElem?_eq_getElem (by omega)⟩
   obtain⟨b,hb⟩: ∃b,t.nodes[i+1]?=some b:=⟨_,List.getElem?_eq_getElem h1⟩
   have za:a.length+tot bJ a≤tot aR t.nodes:=jI (w:=aR) ha
   have zb:b.length+tot bJ b≤tot aR t.nodes:=jI (w:=aR) hb
   have la:=cL a
   have lb:=cL b
   rw[gh ha,gh hb] at he
   have ra:rowAt (t.nodes.map aV) (i:Int)=some [TC.sub 1 (a.map bZ)]:=by rw[bN,aK,ha];rfl
   have rb:rowAt (t.nodes.map aV) ((i+1:Nat):Int)=some [TC.sub 1 (b.map bZ)]:=by rw[bN,aK,hb];rfl
   refine ai (by simp<;>omega) ⟨_,ra,_,ra,_,rb,_,rb,_,(iw a (by omega) (by omega) _).2 rfl,_,(iw b (by omega) (by omega) _).2 rfl,ai (by rw[jw,cX (by simp only[List.length_map,Nat.add_eq];omega)];rfl) ?_⟩
   rw[jh]
   by_cases h2:(aO a).length+(aO b).length≤6
   ·rw[if_pos h2] at he
    have hlo:i<t.lows.length:=by omega
    have hlw:rowAt (t.lows.map bM) (i:Int)=some [iI (t.lows.getD i 0)]:=by
     rw[bN,aK,List.getD_eq_getElem?_getD,List.getElem?_eq_getElem hlo];rfl
    have hnn:=mB (aO a++aO b) (by rw[List.length_append];omega)
    have hrp:=pH t i 2 [t.lows.getD i 0] [cz (aO a++aO b)] (by omega) (by omega) (by omega) (by omega) (by simp) (by simp)
    have ej:jJ t i 2 [t.lows.getD i 0] [cz (aO a++aO b)]=cD t i:=by unfold cD;rw[gh ha,gh hb]
    rw[ej] at hrp
    have hN:=N i he.symm
    rw[←show az (-1) 1=((0:Nat):Int) from by rw[aJ (by omega)];rfl] at hN
    exact ai (by simp[g7]<;>omega) ⟨_,hlw,_,hlw,_,hnn,_,_,hrp,⟨_,hnn,_,_,hrp,⟨_,_,hrp,rfl⟩,rfl⟩,hN⟩
   ·rw[if_neg h2] at he
    exact ay (by simp[g7]<;>omega) (ih (i+1) (by omega) he)
  ·rw[if_neg h1] at he
   exact ay (by simp<;>omega) (y9 _ _ _ _ _ ⟨by rw[E he.symm],rfl⟩)
theorem F4 (t0:Tree) (hw0:t0.lows.length=t0.nodes.length) (hz0:tot aR t0.nodes+t0.nodes.length≤1073700000):aa C bV [dH t0] (dH (jK t0.nodes.length t0)) []:=by
 refine(KU _ _ _ ?_).run
 have key: ∀(m:Nat) (t:Tree),t.nodes.length=m→t.lows.length=t.nodes.length→tot aR t.nodes+t.nodes.length≤1073700000→ah C bV an 4 0 (iC ((0:Nat):Int) (t.lows.map bM) (t.nodes.map aV)) (fun x st=>aG C bV an x st fun r fs=>r=dH (jK m t)∧fs=[]):=by
  intro m
  induction m with
  |zero=>
   intro t hm hw hz
   exact FJ t (jK 0 t) hw hz (fun _=>rfl) (fun i hi=>by have:=(qb hi).1;omega) t.nodes.length 0 (by omega) rfl
  |succ m ih=>
   intro t hm hw hz
   refine FJ t (jK (m+1) t) hw hz (fun h=>(PK h).symm) (fun i hi=> ?_) t.nodes.length 0 (by omega) rfl
   have h1:=rm (qb hi).1
   have h2:=tD (qb hi).1
   have:=ih (cD t i) (by omega) (Bl (qb hi).1 hw) (by omega)
   rw[qc,hi]
   exact this
 exact key t0.nodes.length t0 rfl hw0 hz0
theorem PS {t:Tree} {i:Nat} {n:List (List Key)} (h1:i<t.lows.length) (h2:i<t.nodes.length):jJ t i 1 [t.lows.getD i 0] [n]=⟨t.lows,t.nodes.set i n⟩:=by
 unfold jJ
 rw[List.set_eq_take_append_cons_drop,if_pos h2,List.getD_eq_getElem?_getD,List.getElem?_eq_getElem h1]
 have e:t.lows.take i++[t.lows[i]]++t.lows.drop (i+1)=t.lows:=by
  rw[List.append_assoc,List.singleton_append,←List.drop_eq_getElem_cons h1,List.take_append_drop]
 simp only[Option.getD_some,e,List.append_assoc,List.singleton_append]
theorem W2 {n:Nat} (h:n≤1073741824):bq .i64 (az (Int.ofNat n) 1) 2=(((n+1)/2:Nat):Int):=by
 rw[aJ (by simp;omega)]
 unfold bq
 rw[Int.tdiv_eq_ediv_of_nonneg (by simp;omega),show IntKind.wrap .i64 ((Int.ofNat n+1)/2)=(Int.ofNat n+1)/2 from IntWalk.i64_in _ (by simp;omega)]
 simp
theorem Ey (t:Tree) (k:Key) (hz:dO t≤4194304):aa C xw [dH t,zB k] (wP (bC t k)) []:=by
 have hN:=tM hz
 have hcp:aa C aU [dH t] (dH t) []:=tL t hN.1 hN.2
 refine(JD _ _ _ _ _ _ _ _ ⟨_,qE t (by omega),?_⟩).run
 cases h1:dQ t with
 |false=>exact ai rfl ⟨_,_,hcp,⟨by unfold bC;rw[if_neg (by rw[h1];simp)],rfl⟩⟩
 |true=>
 refine ay rfl ⟨_,(CZ _ _ _ _ _ _).2 rfl,?_⟩
 change aE (!fR k) _ _
 cases h2:fR k with
 |false=>exact ai rfl ⟨_,_,hcp,⟨by unfold bC;rw[if_neg (by rw[h2];simp)],rfl⟩⟩
 |true=>
 obtain⟨i,hi,hil⟩:=I1 h1 h2
 have hlen:=oL h1
 have hw:aa C ff [dH t,vI k.b,vI k.a] (vI (i:Int)) []:=by rw[←hi];exact Et t k.b k.a (by omega)
 have hrow:rowAt (t.nodes.map aV) (i:Int)=some [TC.sub 1 (t.nodes[i].map bZ)]:=by rw[bN,aK,List.getElem?_eq_getElem hil];rfl
 have hlow:rowAt (t.lows.map bM) (i:Int)=some [iI (t.lows.getD i 0)]:=by
  rw[bN,aK,List.getD_eq_getElem?_getD,List.getElem?_eq_getElem (by omega)];rfl
 have hg:t.nodes.getD i []=t.nodes[i]:=by rw[List.getD_eq_getElem?_getD,List.getElem?_eq_getElem hil];rfl
 have hok:=tC h1 (List.getElem_mem hil)
 have hsz:=A9 hok
 have hps:=Aa t.nodes[i] k
 have hpt:=Ab t.nodes[i] k
 have hkl:=nr t.nodes[i] k
 have hnk:=cL t.nodes[i]
 obtain⟨hp1,hp2,hp3⟩:=Ox (k:=k) h1 hil
 have hR:bC t k=if dQ (jK (ju t i k).nodes.length (ju t i k))=true then(jK (ju t i k).nodes.length (ju t i k),true) else(t,false):=by
  unfold bC;rw[if_pos ⟨h1,h2⟩,hi,Int.toNat_natCast]
 have fin: ∀Q:QV,Q (wP (bC t k)) []→ ∃(l39 l40:RR),aa C bV [dH (ju t i k)] (.ag [.sub 1 l39,.sub 1 l40]) []∧(∃b:Bool,aa C bB [.ag [.sub 1 l39,.sub 1 l40]] (vB b) []∧(aE (!b) (∃(l42 l43:RR),aa C aU [dH t] (.ag [.sub 1 l42,.sub 1 l43]) []∧Q (.tu [(1,[.sub 1 l42,.sub 1 l43]),(0,[iB false])]) []) (Q (.tu [(1,[.sub 1 l39,.sub 1 l40]),(0,[iB true])]) []))):=by
  intro Q hQ
  refine⟨_,_,F4 (ju t i k) hp2 (by omega),_,qE _ (by omega),?_⟩
  rw[hR] at hQ
  cases h3:dQ (jK (ju t i k).nodes.length (ju t i k)) with
  |true=>rw[if_pos h3] at hQ;exact ay rfl hQ
  |false=>rw[if_neg (by rw[h3];simp)] at hQ;exact ai rfl ⟨_,_,hcp,hQ⟩
 have np:=Ew t.nodes[i] k (by omega) (by omega)
 refine ay rfl ⟨_,hw,_,_,hcp,_,hrow,_,hrow,?_⟩
 cases hp:(cg t.nodes[i] k).2 with
 |false=>
  have hno:=(IX hok h2 hp).1
  have cno:(!(cg t.nodes[i] k).2)=true:=by rw[hp];rfl
  obtain⟨ks,hks⟩: ∃ks,ks=cn t.nodes[i] k:=⟨_,rfl⟩
  rw[←hks] at hno hkl
  have hh:=QI hno
  obtain⟨h,hhe⟩: ∃h,h=(ks.length+1)/2:=⟨_,rfl⟩
  have hq:bq .i64 (az (Int.ofNat (List.length (ks.map bK))) 1) 2=(h:Int):=by rw[List.length_map,W2 (by omega),hhe]
  have hkk:rowAt (ks.map bK) (h:Int)=some [iI (ks.getD h fT).b,iI (ks.getD h fT).a,iI (ks.getD h fT).k,iI (ks.getD h fT).c,iI (ks.getD h fT).g]:=by
   rw[bN,aK,List.getD_eq_getElem?_getD,List.getElem?_eq_getElem (by omega)];rfl
  have ep:ju t i k=jJ t i 1 [t.lows.getD i 0,fU (ks.getD h fT).b (ks.getD h fT).a] [cz (ks.take h),cz (ks.drop h)]:=by
   unfold ju;rw[hg,if_neg (by rw[hp];simp),←hks,←hhe]
  have rp:=pH t i 1 [t.lows.getD i 0,fU (ks.getD h fT).b (ks.getD h fT).a] [cz (ks.take h),cz (ks.drop h)] (by omega) (by omega) (by omega) (by omega) (by simp) (by simp)
  rw[←ep] at rp
  have e1:au (ks.map bK) 0 (h:Int)=(ks.take h).map bK:=by rw[cH];rfl
  have e2:au (ks.map bK) (h:Int) (Int.ofNat (List.length (ks.map bK)))=(ks.drop h).map bK:=by
   rw[cH,List.length_map,Int.toNat_natCast,show(Int.ofNat ks.length).toNat=ks.length from rfl,List.take_length]
  have nn1:aa C bP [.c (.sub 5 (au (ks.map bK) 0 (h:Int)))] (fP (cz (ks.take h))) []:=by rw[e1];exact mB _ (by rw[List.length_take];omega)
  have nn2:aa C bP [.c (.sub 5 (au (ks.map bK) (h:Int) (Int.ofNat (List.length (ks.map bK)))))] (fP (cz (ks.drop h))) []:=by rw[e2];exact mB _ (by rw[List.length_drop];omega)
  have c1:cF 0 (h:Int) (Int.ofNat (List.length (ks.map bK)))=true:=by rw[zZ];simp;omega
  have c2:cF (h:Int) (Int.ofNat (List.length (ks.map bK))) (Int.ofNat (List.length (ks.map bK)))=true:=by rw[zZ];simp;omega
  have kw:aa C cZ [fP t.nodes[i],zB k] (cO ks) []:=by
   rw[hks];exact tN t.nodes[i] k (by omega) (by omega)
  clear hks hhe hR
  repeat' first
   |refine⟨_,hrow,?_⟩
   |refine⟨_,hlow,?_⟩
   |refine⟨_,_,np,?_⟩
   |refine ai cno ?_
   |refine⟨_,kw,?_⟩
   |refine ay (by rw[bw];rfl) ?_
   |rw[hq]
   |refine⟨_,_,_,_,_,hkk,?_⟩
   |refine ai c1 ?_
   |refine ai c2 ?_
   |refine⟨_,(vk _ _ _).2 rfl,?_⟩
   |refine⟨_,nn1,?_⟩
   |refine⟨_,nn2,?_⟩
   |refine⟨_,_,rp,?_⟩
   |refine⟨(wP (bC t k),([]:List TV)),?_,?_,rfl⟩
   |refine⟨(wP (bC t k),([]:List TV)),?_,?_,⟨rfl,by first|rfl|trivial⟩⟩
   |exact fin (fun a b=>(a,b)=(wP (bC t k),([]:List TV))) rfl
   |exact fin (fun r fs=>r=wP (bC t k)∧fs=[]) ⟨rfl,by first|rfl|trivial⟩
 |true=>
  have cno:(!(cg t.nodes[i] k).2)=false:=by rw[hp];rfl
  by_cases hc:0<i∧(aO (cg t.nodes[i] k).1).length=0
  ·have ci:bH 0 (i:Int)=true:=by rw[dS];simp;omega
   have nk:=(iw (cg t.nodes[i] k).1 (by omega) (by omega) _).2 rfl
   have cl:dj (Int.ofNat (List.length ((aO (cg t.nodes[i] k).1).map bK))) 0=true:=by rw[bw,List.length_map,hc.2];rfl
   have ep:ju t i k=jJ t i 1 [] []:=by unfold ju;rw[hg,if_pos hp,if_pos hc]
   have rp:=pH t i 1 [] [] (by omega) (by omega) (by omega) (by omega) (by simp) (by simp)
   rw[←ep] at rp
   clear hR
   repeat' first
   |refine⟨_,hrow,?_⟩
   |refine⟨_,hlow,?_⟩
   |refine⟨_,_,np,?_⟩
   |refine ay cno ?_
   |refine ai ci ?_
   |refine⟨_,nk,?_⟩
   |refine ai cl ?_
   |refine⟨_,_,rp,?_⟩
   |refine⟨(wP (bC t k),([]:List TV)),?_,?_,rfl⟩
   |refine⟨(wP (bC t k),([]:List TV)),?_,?_,⟨rfl,by first|rfl|trivial⟩⟩
   |exact fin (fun a b=>(a,b)=(wP (bC t k),([]:List TV))) rfl
   |exact fin (fun r fs=>r=wP (bC t k)∧fs=[]) ⟨rfl,by first|rfl|trivial⟩
  ·have eset:ju t i k=⟨t.lows,t.nodes.set i (cg t.nodes[i] k).1⟩:=by
    unfold ju;rw[hg,if_pos hp,if_neg hc,PS (by omega) hil]
   have es:setRow (t.nodes.map aV) (i:Int) 0 [TC.sub 1 ((cg t.nodes[i] k).1.map bZ)]=(t.nodes.set i (cg t.nodes[i] k).1).map aV:=N9 (a:=t.nodes[i]) (by rw[aK,List.getElem?_eq_getElem hil]) rfl
   clear hR
   by_cases hi0:0<i
   ·have ci:bH 0 (i:Int)=true:=by rw[dS];simp;omega
    have nk:=(iw (cg t.nodes[i] k).1 (by omega) (by omega) _).2 rfl
    have cl:dj (Int.ofNat (List.length ((aO (cg t.nodes[i] k).1).map bK))) 0=false:=by
     rw[bw,List.length_map];exact decide_eq_false fun e=>hc ⟨hi0,by have e:((aO (cg t.nodes[i] k).1).length:Int)=0:=e;omega⟩
    repeat' first
   |refine⟨_,hrow,?_⟩
   |refine⟨_,hlow,?_⟩
   |refine⟨_,_,np,?_⟩
   |refine ay cno ?_
   |refine ai ci ?_
   |refine⟨_,nk,?_⟩
   |refine ay cl ?_
   |refine⟨(wP (bC t k),([]:List TV)),?_,?_,rfl⟩
   |refine⟨(wP (bC t k),([]:List TV)),?_,?_,⟨rfl,by first|rfl|trivial⟩⟩
   |exact fin (fun a b=>(a,b)=(wP (bC t k),([]:List TV))) rfl
   |exact fin (fun r fs=>r=wP (bC t k)∧fs=[]) ⟨rfl,by first|rfl|trivial⟩
   |(rw[es];rw[eset] at fin;exact fin (fun a b=>(a,b)=(wP (bC t k),([]:List TV))) rfl)
   |(rw[es];rw[eset] at fin;exact fin (fun r fs=>r=wP (bC t k)∧fs=[]) ⟨rfl,by first|rfl|trivial⟩)
   ·have ci:bH 0 (i:Int)=false:=by rw[dS];simp;omega
    repeat' first
   |refine⟨_,hrow,?_⟩
   |refine⟨_,hlow,?_⟩
   |refine⟨_,_,np,?_⟩
   |refine ay cno ?_
   |refine ay ci ?_
   |refine⟨(wP (bC t k),([]:List TV)),?_,?_,rfl⟩
   |refine⟨(wP (bC t k),([]:List TV)),?_,?_,⟨rfl,by first|rfl|trivial⟩⟩
   |exact fin (fun a b=>(a,b)=(wP (bC t k),([]:List TV))) rfl
   |exact fin (fun r fs=>r=wP (bC t k)∧fs=[]) ⟨rfl,by first|rfl|trivial⟩
   |(rw[es];rw[eset] at fin;exact fin (fun a b=>(a,b)=(wP (bC t k),([]:List TV))) rfl)
   |(rw[es];rw[eset] at fin;exact fin (fun r fs=>r=wP (bC t k)∧fs=[]) ⟨rfl,by first|rfl|trivial⟩)
theorem Ez (t:Tree) (k:Key) (hz:dO t≤4194304):aa C xu [dH t,zB k] (wP (bC t k)) []:=by
 have hN:=tM hz
 have hcp:aa C cr [dH t] (dH t) []:=xK t hN.1 hN.2
 refine(Jk _ _ _ _ _ _ _ _ ⟨_,_,hcp,_,qD t (by omega),?_⟩).run
 cases h1:dQ t with
 |false=>exact ai rfl ⟨by unfold bC;rw[if_neg (by rw[h1];simp)],rfl⟩
 |true=>
 refine ay rfl ⟨_,(C0 _ _ _ _ _ _).2 rfl,?_⟩
 change aE (!fR k) _ _
 cases h2:fR k with
 |false=>exact ai rfl ⟨by unfold bC;rw[if_neg (by rw[h2];simp)],rfl⟩
 |true=>
 obtain⟨i,hi,hil⟩:=I1 h1 h2
 have hlen:=oL h1
 have hw:aa C ei [dH t,vI k.b,vI k.a] (vI (i:Int)) []:=by rw[←hi];exact Es t k.b k.a (by omega)
 have hrow:rowAt (t.nodes.map aV) (i:Int)=some [TC.sub 1 (t.nodes[i].map bZ)]:=by rw[bN,aK,List.getElem?_eq_getElem hil];rfl
 have hlow:rowAt (t.lows.map bM) (i:Int)=some [iI (t.lows.getD i 0)]:=by
  rw[bN,aK,List.getD_eq_getElem?_getD,List.getElem?_eq_getElem (by omega)];rfl
 have hg:t.nodes.getD i []=t.nodes[i]:=by rw[List.getD_eq_getElem?_getD,List.getElem?_eq_getElem hil];rfl
 have hok:=tC h1 (List.getElem_mem hil)
 have hsz:=A9 hok
 have hps:=Aa t.nodes[i] k
 have hpt:=Ab t.nodes[i] k
 have hkl:=nr t.nodes[i] k
 have hnk:=cL t.nodes[i]
 obtain⟨hp1,hp2,hp3⟩:=Ox (k:=k) h1 hil
 have hR:bC t k=if dQ (jK (ju t i k).nodes.length (ju t i k))=true then(jK (ju t i k).nodes.length (ju t i k),true) else(t,false):=by
  unfold bC;rw[if_pos ⟨h1,h2⟩,hi,Int.toNat_natCast]
 have fin: ∀Q:QV,Q (wP (bC t k)) []→ ∃(l39 l40:RR),aa C aq [dH (ju t i k)] (.ag [.sub 1 l39,.sub 1 l40]) []∧(∃b:Bool,aa C ak [.ag [.sub 1 l39,.sub 1 l40]] (vB b) []∧(aE (!b) (Q (.tu [(1,QC t),(0,[iB false])]) []) (Q (.tu [(1,[.sub 1 l39,.sub 1 l40]),(0,[iB true])]) []))):=by
  intro Q hQ
  refine⟨_,_,F3 (ju t i k) hp2 (by omega),_,qD _ (by omega),?_⟩
  rw[hR] at hQ
  cases h3:dQ (jK (ju t i k).nodes.length (ju t i k)) with
  |true=>rw[if_pos h3] at hQ;exact ay rfl hQ
  |false=>rw[if_neg (by rw[h3];simp)] at hQ;exact ai rfl hQ
 have np:=Ex t.nodes[i] k (by omega) (by omega)
 have hx:=r9 t i [t.lows.getD i 0] [(cg t.nodes[i] k).1] (by omega) (by omega) (by omega) (by omega) (by simp) (by simp)
 refine ay rfl ⟨_,hw,_,hrow,?_⟩
 cases hp:(cg t.nodes[i] k).2 with
 |false=>
  have hno:=(IX hok h2 hp).1
  have cno:(!(cg t.nodes[i] k).2)=true:=by rw[hp];rfl
  obtain⟨ks,hks⟩: ∃ks,ks=cn t.nodes[i] k:=⟨_,rfl⟩
  rw[←hks] at hno hkl
  have hh:=QI hno
  obtain⟨h,hhe⟩: ∃h,h=(ks.length+1)/2:=⟨_,rfl⟩
  have hq:bq .i64 (az (Int.ofNat (List.length (ks.map bK))) 1) 2=(h:Int):=by rw[List.length_map,W2 (by omega),hhe]
  have hkk:rowAt (ks.map bK) (h:Int)=some [iI (ks.getD h fT).b,iI (ks.getD h fT).a,iI (ks.getD h fT).k,iI (ks.getD h fT).c,iI (ks.getD h fT).g]:=by
   rw[bN,aK,List.getD_eq_getElem?_getD,List.getElem?_eq_getElem (by omega)];rfl
  have ep:ju t i k=jJ t i 1 [t.lows.getD i 0,fU (ks.getD h fT).b (ks.getD h fT).a] [cz (ks.take h),cz (ks.drop h)]:=by
   unfold ju;rw[hg,if_neg (by rw[hp];simp),←hks,←hhe]
  have rp:=r9 t i [t.lows.getD i 0,fU (ks.getD h fT).b (ks.getD h fT).a] [cz (ks.take h),cz (ks.drop h)] (by omega) (by omega) (by omega) (by omega) (by simp) (by simp)
  rw[←ep] at rp
  have e1:au (ks.map bK) 0 (h:Int)=(ks.take h).map bK:=by rw[cH];rfl
  have e2:au (ks.map bK) (h:Int) (Int.ofNat (List.length (ks.map bK)))=(ks.drop h).map bK:=by
   rw[cH,List.length_map,Int.toNat_natCast,show(Int.ofNat ks.length).toNat=ks.length from rfl,List.take_length]
  have nn1:aa C ax [.c (.sub 5 (au (ks.map bK) 0 (h:Int)))] (fP (cz (ks.take h))) []:=by rw[e1];exact ig _ (by rw[List.length_take];omega)
  have nn2:aa C ax [.c (.sub 5 (au (ks.map bK) (h:Int) (Int.ofNat (List.length (ks.map bK)))))] (fP (cz (ks.drop h))) []:=by rw[e2];exact ig _ (by rw[List.length_drop];omega)
  have c1:cF 0 (h:Int) (Int.ofNat (List.length (ks.map bK)))=true:=by rw[zZ];simp;omega
  have c2:cF (h:Int) (Int.ofNat (List.length (ks.map bK))) (Int.ofNat (List.length (ks.map bK)))=true:=by rw[zZ];simp;omega
  have kw:aa C bT [cO (eH (aO t.nodes[i]) k)] (cO ks) []:=by
   rw[hks];exact vj (eH (aO t.nodes[i]) k) (by have:=m4 (aO t.nodes[i]) k;omega)
  clear hks hhe hR
  repeat' first
   |refine⟨_,hrow,?_⟩
   |refine⟨_,hlow,?_⟩
   |refine⟨_,_,np,?_⟩
   |refine⟨_,_,hx,?_⟩
   |refine ai cno ?_
   |refine⟨_,kw,?_⟩
   |refine⟨_,(dU t.nodes[i] (by omega) (by omega) _).2 rfl,?_⟩
   |refine⟨_,lF (aO t.nodes[i]) k (by omega),?_⟩
   |refine ay (by rw[bw];rfl) ?_
   |rw[hq]
   |refine⟨_,_,_,_,_,hkk,?_⟩
   |refine ai c1 ?_
   |refine ai c2 ?_
   |refine⟨_,(Bq _ _ _ _ _ _).2 rfl,?_⟩
   |refine⟨_,nn1,?_⟩
   |refine⟨_,nn2,?_⟩
   |refine⟨_,_,rp,?_⟩
   |refine⟨(wP (bC t k),([]:List TV)),?_,?_,rfl⟩
   |refine⟨(wP (bC t k),([]:List TV)),?_,?_,⟨rfl,by first|rfl|trivial⟩⟩
   |exact fin (fun a b=>(a,b)=(wP (bC t k),([]:List TV))) rfl
   |exact fin (fun r fs=>r=wP (bC t k)∧fs=[]) ⟨rfl,by first|rfl|trivial⟩
 |true=>
  have cno:(!(cg t.nodes[i] k).2)=false:=by rw[hp];rfl
  by_cases hc:0<i∧(aO (cg t.nodes[i] k).1).length=0
  ·have ci:bH 0 (i:Int)=true:=by rw[dS];simp;omega
   have nk:=(dU (cg t.nodes[i] k).1 (by omega) (by omega) _).2 rfl
   have cl:dj (Int.ofNat (List.length ((aO (cg t.nodes[i] k).1).map bK))) 0=true:=by rw[bw,List.length_map,hc.2];rfl
   have ep:ju t i k=jJ t i 1 [] []:=by unfold ju;rw[hg,if_pos hp,if_pos hc]
   have rp:=r9 t i [] [] (by omega) (by omega) (by omega) (by omega) (by simp) (by simp)
   rw[←ep] at rp
   clear hR
   repeat' first
   |refine⟨_,hrow,?_⟩
   |refine⟨_,hlow,?_⟩
   |refine⟨_,_,np,?_⟩
   |refine⟨_,_,hx,?_⟩
   |refine ay cno ?_
   |refine ai ci ?_
   |refine⟨_,nk,?_⟩
   |refine ai cl ?_
   |refine⟨_,_,rp,?_⟩
   |refine⟨(wP (bC t k),([]:List TV)),?_,?_,rfl⟩
   |refine⟨(wP (bC t k),([]:List TV)),?_,?_,⟨rfl,by first|rfl|trivial⟩⟩
   |exact fin (fun a b=>(a,b)=(wP (bC t k),([]:List TV))) rfl
   |exact fin (fun r fs=>r=wP (bC t k)∧fs=[]) ⟨rfl,by first|rfl|trivial⟩
  ·have ep:jJ t i 1 [t.lows.getD i 0] [(cg t.nodes[i] k).1]=ju t i k:=by
    unfold ju;rw[hg,if_pos hp,if_neg hc]
   rw[ep] at hx
   clear hR
   by_cases hi0:0<i
   ·have ci:bH 0 (i:Int)=true:=by rw[dS];simp;omega
    have nk:=(dU (cg t.nodes[i] k).1 (by omega) (by omega) _).2 rfl
    have cl:dj (Int.ofNat (List.length ((aO (cg t.nodes[i] k).1).map bK))) 0=false:=by
     rw[bw,List.length_map];exact decide_eq_false fun e=>hc ⟨hi0,by have e:((aO (cg t.nodes[i] k).1).length:Int)=0:=e;omega⟩
    repeat' first
   |refine⟨_,hrow,?_⟩
   |refine⟨_,hlow,?_⟩
   |refine⟨_,_,np,?_⟩
   |refine⟨_,_,hx,?_⟩
   |refine ay cno ?_
   |refine ai ci ?_
   |refine⟨_,nk,?_⟩
   |refine ay cl ?_
   |refine⟨(wP (bC t k),([]:List TV)),?_,?_,rfl⟩
   |refine⟨(wP (bC t k),([]:List TV)),?_,?_,⟨rfl,by first|rfl|trivial⟩⟩
   |exact fin (fun a b=>(a,b)=(wP (bC t k),([]:List TV))) rfl
   |exact fin (fun r fs=>r=wP (bC t k)∧fs=[]) ⟨rfl,by first|rfl|trivial⟩
   ·have ci:bH 0 (i:Int)=false:=by rw[dS];simp;omega
    repeat' first
   |refine⟨_,hrow,?_⟩
   |refine⟨_,hlow,?_⟩
   |refine⟨_,_,np,?_⟩
   |refine⟨_,_,hx,?_⟩
   |refine ay cno ?_
   |refine ay ci ?_
   |refine⟨(wP (bC t k),([]:List TV)),?_,?_,rfl⟩
   |refine⟨(wP (bC t k),([]:List TV)),?_,?_,⟨rfl,by first|rfl|trivial⟩⟩
   |exact fin (fun a b=>(a,b)=(wP (bC t k),([]:List TV))) rfl
   |exact fin (fun r fs=>r=wP (bC t k)∧fs=[]) ⟨rfl,by first|rfl|trivial⟩
theorem C9 {l:List Cell} {n i:Int} {cs:List Cell} (h:m5 l n=(cs,i,true)): ∃c,fu cs i=some c∧Tp cs i=c.g:=by
 have h0:cP l=true∧mu n=true∧0≤cY l:=Classical.byContradiction fun hn=>by
  rw[kT hn] at h;cases h
 rw[pg h0] at h
 obtain⟨rfl,h2⟩:=Prod.mk.inj h
 obtain⟨rfl,_⟩:=Prod.mk.inj h2
 have hl: -1≤cY l∧cY l<l.length:=UG rY l
 obtain⟨c,hc⟩:=qa (l:=l.modify (cY l).toNat fun c=>⟨c.g,true,n⟩) h0.2.2 (by rw[List.length_modify];exact hl.2)
 exact⟨c,hc,by unfold Tp;rw[hc]⟩
theorem xL (p:Pool) (hS:eF p≤4194304) (i:Int):aa C eR [ki p,vI i] (zB (fO p i)) []:=by
 have hP:=lE hS
 have htl:=kY p.t
 refine(KQ _ _ _ _ _ _ _ _ ⟨_,pF p.t (by omega),?_⟩).run
 have key:((aW p.t).drop 0).find? (j8 i)=(aW p.t).find? (j8 i)→ah C eR aj 4 0 (jx i ((0:Nat):Int) ((aW p.t).map bK)) (fun x st=>aG C eR aj x st fun r fs=>r=zB (fO p i)∧fs=[]):=by
  refine bE (aW p.t) (fun j=>((aW p.t).drop j).find? (j8 i)=(aW p.t).find? (j8 i)→ah C eR aj 4 0 (jx i (j:Int) ((aW p.t).map bK)) (fun x st=>aG C eR aj x st fun r fs=>r=zB (fO p i)∧fs=[])) ?_ ?_
  ·intro h0
   rw[List.drop_length] at h0
   exact yZ _ _ _ _ (ay (by simp) (GQ _ _ _ _ _ ⟨by unfold fO;rw[←h0];rfl,rfl⟩))
  ·intro j a hj ha hd ht hn h0
   rw[hd,List.find?_cons] at h0
   have hr:rowAt ((aW p.t).map bK) (j:Int)=some [iI a.b,iI a.a,iI a.k,iI a.c,iI a.g]:=by rw[bN,aK,ha];rfl
   have hadd:az (j:Int) 1=(j:Int)+1:=aJ (by omega)
   refine yZ _ _ _ _ (ai (by simp<;>omega) ⟨_,_,_,_,_,hr,_,_,_,_,_,hr,?_⟩)
   rw[hadd]
   by_cases h1:a.k=1
   ·refine ai (by rw[bw];exact decide_eq_true h1) ⟨_,_,_,_,_,hr,_,_,_,_,_,hr,?_⟩
    by_cases h2:a.c=i
    ·have ho:j8 i a=true:=by unfold j8;simp[h1,h2]
     rw[ho] at h0
     exact ai (by rw[bw];exact decide_eq_true h2) ⟨_,_,_,_,_,hr,_,_,_,_,_,hr,GP _ _ _ _ _ _ _ ⟨by unfold fO;rw[←h0],rfl⟩⟩
    ·have ho:j8 i a=false:=by unfold j8;simp[h2]
     rw[ho] at h0
     exact ay (by rw[bw];exact decide_eq_false h2) (hn h0)
   ·have ho:j8 i a=false:=by unfold j8;simp[h1]
    rw[ho] at h0
    exact ay (by rw[bw];exact decide_eq_false h1) (hn h0)
 exact key rfl
theorem oV {p:Pool} {i:Int} {c:Cell} (hc:fu p.cells i=some c) (h: ¬(c.u=true∧0≤cY p.cells∧cY p.cells≤i)):iK p i=(p,false):=by
 unfold iK
 split
 ·rw[hc];exact if_neg h
 ·rfl
theorem Da {p:Pool} {i:Int} {c:Cell} (hp:g8 p=true) (hc:fu p.cells i=some c) (h:c.u=true∧0≤cY p.cells∧cY p.cells≤i):iK p i=Bk p (xG p i c.n):=by
 unfold iK
 rw[if_pos hp,hc];exact if_pos h
theorem Db {p:Pool} {i:Int} (hc:fu p.cells i=none):iK p i=(p,false):=by
 unfold iK
 split
 ·rw[hc]
 ·rfl
theorem Dc {p:Pool} {i:Int} (hp:g8 p=false):iK p i=(p,false):=by
 unfold iK
 rw[if_neg (by rw[hp];simp)]
theorem OC {p:Pool} {x:Pool×Bool} (h:x.2=false):Bk p x=(p,false):=by
 unfold Bk;rw[if_neg fun e=>by rw[h] at e;cases e.1]
theorem LZ {p:Pool} {x:Pool×Bool} (h:g8 x.1=false):Bk p x=(p,false):=by
 unfold Bk;rw[if_neg fun e=>by rw[h] at e;cases e.2]
theorem L0 {p:Pool} {x:Pool×Bool} (h1:x.2=true) (h2:g8 x.1=true):Bk p x=(x.1,true):=by
 unfold Bk;rw[if_pos ⟨h1,h2⟩]
theorem Jf {p:Pool} {i:Int} {c:Cell} (hp:g8 p=true) (hc:fu p.cells i=some c):mu c.n=true:=by
 have h:=pz hp
 simp only[cP,Bool.and_eq_true] at h
 have:=List.all_eq_true.1 h.1 c (S5 hc)
 simp only[gu,Bool.and_eq_true] at this
 exact this.2.1
theorem Rz {p:Pool} (hp:g8 p=true):p.cells.length=24:=by
 have h:=pz hp
 simp only[cP,Bool.and_eq_true,decide_eq_true_eq] at h
 exact h.2
theorem Dd (p:Pool) (i:Int) (hS:eF p≤1048576):aa C va [ki p,vI i] (WT (iK p i)) []:=by
 have hS2:eF p≤4194304:=by omega
 have hP:=lE hS2
 have htl:=kY p.t
 have hcp:=Eu p hS2
 have hok:=xH p hS2
 have hin:=Au i 0 ((p.cells.length:Int)-1)
 have hsl:c7 (Int.ofNat (p.cells.map bX).length) 1=(p.cells.length:Int)-1:=by rw[List.length_map];exact eE (by simp<;>omega)
 rw[←hsl] at hin
 refine(Ga _ _ _ _ _ _ _ _ ?_).run
 cases hg:g8 p with
 |false=>
  rw[hg] at hok
  rw[Dc hg]
  repeat' first
   |refine⟨_,_,_,_,_,_,hcp,?_⟩
   |refine⟨_,hok,?_⟩
   |refine⟨_,hin,?_⟩
   |exact rfl
   |exact⟨rfl,by first|rfl|trivial⟩
   |refine ai (by first|rfl|(rw[bw];rfl)) ?_
   |refine ay (by first|rfl|(rw[bw];rfl)) ?_
 |true=>
 rw[hg] at hok
 cases hc:fu p.cells i with
 |none=>
  have h1:iJ i 0 (c7 (Int.ofNat (p.cells.map bX).length) 1)=false:=by
   rw[hsl];unfold iJ;refine decide_eq_false fun h=> ?_
   obtain⟨a,ha⟩:=qa (l:=p.cells) h.1 (by omega)
   rw[hc] at ha;cases ha
  rw[h1] at hin
  rw[Db hc]
  repeat' first
   |refine⟨_,_,_,_,_,_,hcp,?_⟩
   |refine⟨_,hok,?_⟩
   |refine⟨_,hin,?_⟩
   |exact rfl
   |exact⟨rfl,by first|rfl|trivial⟩
   |refine ai (by first|rfl|(rw[bw];rfl)) ?_
   |refine ay (by first|rfl|(rw[bw];rfl)) ?_
 |some c=>
  have hi:0≤i∧i<p.cells.length:=Classical.byContradiction fun hn=>by rw[nj hn] at hc;cases hc
  have h1:iJ i 0 (c7 (Int.ofNat (p.cells.map bX).length) 1)=true:=by rw[hsl];unfold iJ;exact decide_eq_true (by omega)
  rw[h1] at hin
  have hrc:rowAt (p.cells.map bX) i=some [iI c.g,iB c.u,iI c.n]:=by rw[bN,hc];rfl
  cases hu:c.u with
  |false=>
   rw[hu] at hrc
   rw[oV hc fun h=>by rw[hu] at h;cases h.1]
   repeat' first
    |refine⟨_,_,_,_,_,_,hcp,?_⟩
    |refine⟨_,hok,?_⟩
    |refine⟨_,hin,?_⟩
    |refine⟨_,_,_,hrc,?_⟩
    |exact rfl
    |exact⟨rfl,by first|rfl|trivial⟩
    |refine ai (by first|rfl|(rw[bw];rfl)) ?_
    |refine ay (by first|rfl|(rw[bw];rfl)) ?_
  |true=>
  rw[hu] at hrc
  have tk:=C6 p.cells c.n (by omega)
  have hk:=xL p hS2 i
  by_cases hf:0≤cY p.cells
  ·have htk:=pg ⟨pz hg,Jf hg hc,hf⟩
   obtain⟨cs,hcs⟩: ∃cs,cs=p.cells.modify (cY p.cells).toNat (fun d=>⟨d.g,true,c.n⟩):=⟨_,rfl⟩
   rw[←hcs] at htk
   have hcl:cs.length=p.cells.length:=by rw[hcs,List.length_modify]
   obtain⟨d,hd,hgen⟩:=C9 htk
   have hrd:rowAt (cs.map bX) (cY p.cells)=some [iI d.g,iB d.u,iI d.n]:=by rw[bN,hd];rfl
   clear hcs
   rw[htk] at tk
   by_cases hle:cY p.cells≤i
   ·have cl:bH i (cY p.cells)=false:=by rw[dS];exact decide_eq_false (by omega)
    rw[Da hg hc ⟨hu,hf,hle⟩]
    have tp:=Ez p.t (mz p i c.n) (by omega)
    have fc:=C3 cs i (by omega)
    have hk:=xL p hS2 i
    have hmk:mz p i c.n=⟨(fO p i).b,(fO p i).a,(fO p i).k,cY p.cells,d.g⟩:=by unfold mz;rw[htk];simp only[];rw[hgen]
    have hX:xG p i c.n=(⟨(bC p.t (mz p i c.n)).1,p.ages,ji cs i,p.vols,p.next⟩,(bC p.t (mz p i c.n)).2):=by unfold xG;rw[htk]
    have hsz:=IZ p.t (mz p i c.n)
    have hXs:eF (xG p i c.n).1≤4194304:=by
     have h1:=CU cs i
     rw[hX];unfold eF at hS ⊢;simp only[];omega
    have pk2:=xH (xG p i c.n).1 hXs
    rw[hmk] at tp hX
    obtain⟨T,b,hT⟩: ∃T b,bC p.t ⟨(fO p i).b,(fO p i).a,(fO p i).k,cY p.cells,d.g⟩=(T,b):=⟨_,_,rfl⟩
    rw[hT] at tp hX
    cases b with
    |false=>
     rw[OC (by rw[hX])]
     repeat' first
      |refine⟨_,_,_,_,_,_,hcp,?_⟩
      |refine⟨_,hok,?_⟩
      |refine⟨_,hin,?_⟩
      |refine⟨_,_,_,hrc,?_⟩
      |refine⟨_,_,_,tk,?_⟩
      |refine⟨_,_,_,_,_,hk,?_⟩
      |refine ay cl ?_
      |refine⟨_,_,_,hrd,?_⟩
      |refine⟨_,_,_,tp,?_⟩
      |refine⟨_,fc,?_⟩
      |exact rfl
      |exact⟨rfl,by first|rfl|trivial⟩
      |refine ai (by first|rfl|(rw[bw];rfl)) ?_
      |refine ay (by first|rfl|(rw[bw];rfl)) ?_
    |true=>
     cases hg:g8 (xG p i c.n).1 with
     |false=>
      rw[LZ hg]
      rw[hg,hX] at pk2
      repeat' first
       |refine⟨_,_,_,_,_,_,hcp,?_⟩
       |refine⟨_,hok,?_⟩
       |refine⟨_,hin,?_⟩
       |refine⟨_,_,_,hrc,?_⟩
       |refine⟨_,_,_,tk,?_⟩
       |refine⟨_,_,_,_,_,hk,?_⟩
       |refine ay cl ?_
       |refine⟨_,_,_,hrd,?_⟩
       |refine⟨_,_,_,tp,?_⟩
       |refine⟨_,fc,?_⟩
       |refine⟨_,pk2,?_⟩
       |exact rfl
       |exact⟨rfl,by first|rfl|trivial⟩
       |refine ai (by first|rfl|(rw[bw];rfl)) ?_
       |refine ay (by first|rfl|(rw[bw];rfl)) ?_
     |true=>
      rw[L0 (by rw[hX]) hg,hX]
      rw[hg,hX] at pk2
      repeat' first
       |refine⟨_,_,_,_,_,_,hcp,?_⟩
       |refine⟨_,hok,?_⟩
       |refine⟨_,hin,?_⟩
       |refine⟨_,_,_,hrc,?_⟩
       |refine⟨_,_,_,tk,?_⟩
       |refine⟨_,_,_,_,_,hk,?_⟩
       |refine ay cl ?_
       |refine⟨_,_,_,hrd,?_⟩
       |refine⟨_,_,_,tp,?_⟩
       |refine⟨_,fc,?_⟩
       |refine⟨_,pk2,?_⟩
       |exact rfl
       |exact⟨rfl,by first|rfl|trivial⟩
       |refine ai (by first|rfl|(rw[bw];rfl)) ?_
       |refine ay (by first|rfl|(rw[bw];rfl)) ?_
   ·have cl:bH i (cY p.cells)=true:=by rw[dS];exact decide_eq_true (by omega)
    rw[oV hc fun h=>hle h.2.2]
    repeat' first
     |refine⟨_,_,_,_,_,_,hcp,?_⟩
     |refine⟨_,hok,?_⟩
     |refine⟨_,hin,?_⟩
     |refine⟨_,_,_,hrc,?_⟩
     |refine⟨_,_,_,tk,?_⟩
     |refine⟨_,_,_,_,_,hk,?_⟩
     |refine ai cl ?_
     |exact rfl
     |exact⟨rfl,by first|rfl|trivial⟩
     |refine ai (by first|rfl|(rw[bw];rfl)) ?_
     |refine ay (by first|rfl|(rw[bw];rfl)) ?_
  ·rw[kT fun h=>hf h.2.2] at tk
   rw[oV hc fun h=>hf h.2.1]
   repeat' first
    |refine⟨_,_,_,_,_,_,hcp,?_⟩
    |refine⟨_,hok,?_⟩
    |refine⟨_,hin,?_⟩
    |refine⟨_,_,_,hrc,?_⟩
    |refine⟨_,_,_,tk,?_⟩
    |refine⟨_,_,_,_,_,hk,?_⟩
    |exact rfl
    |exact⟨rfl,by first|rfl|trivial⟩
    |refine ai (by first|rfl|(rw[bw];rfl)) ?_
    |refine ay (by first|rfl|(rw[bw];rfl)) ?_
end Go.T.R
