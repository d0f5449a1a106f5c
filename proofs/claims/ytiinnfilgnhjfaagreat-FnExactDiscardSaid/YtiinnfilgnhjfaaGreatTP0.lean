/- What the functions answer. -/
import Derived.Test.YtiinnfilgnhjfaaGreatTR1
set_option linter.unusedVariables false
set_option linter.unusedSimpArgs false
set_option maxRecDepth 100000
set_option maxHeartbeats 4000000
namespace Go.T.R
open Go Go.T
theorem toKey (v0:Int) (v1:Int) (v2:Int) (v3:Int) (v4:Int):aa C Dj [.ag [iI v0,iI v1,iI v2,iI v3,iI v4]] (.ag [iI v0,iI v1,iI v2,iI v3,iI v4]) []:=(Pj _ _ _ _ _ _ ⟨rfl,by first|rfl|trivial⟩).run
theorem Y4 (v0:Int) (v1:Int) (v2:Int) (v3:Int) (v4:Int):aa C Dk [.ag [iI v0,iI v1,iI v2,iI v3,iI v4],.ag [iI v0,iI v1,iI v2,iI v3,iI v4]] (vB true) []:=by
 refine(Pt _ _ _ _ _ _ _ _ _ _ _ ?_).run
 simp
theorem Ya (l:List (Key)) (hl:l.length≤1099511627776):aa C ku [cJ l] (cJ l) []:=by
 refine(MY _ _ ?_).run
 simp only[List.length_map]
 refine ai (by simp;omega) ?_
 simp only[fO,yg,Int.toNat_natCast]
 refine yl (e:=bM) (z:=[iI 0,iI 0,iI 0,iI 0,iI 0]) l (fun i rows=>ah C ku aj 4 0 (pJ (l.map bM) i rows) _) (fun a=>rfl) ?_ ?_
 ·exact Am _ _ _ _ (aq (by simp) (I0 _ _ _ _ _ ⟨rfl,by first|rfl|trivial⟩))
 ·intro i rows a hi ha hr hn
  refine Am _ _ _ _ (ai (by simp;omega) ⟨_,_,_,_,_,cK ha,_,_,_,_,_,toKey _ _ _ _ _,_,_,_,_,_,hr,_,_,_,_,_,hr,?_⟩)
  rw[aJ (by omega)]
  exact hn
theorem Yb (l:List (Key)) (hl:l.length≤1099511627776):aa C kz [cJ l,cJ l] (vB true) []:=by
 refine(Nm _ _ _ ?_).run
 refine aq (by simp) ?_
 refine bD l (fun i=>ah C kz aj 4 0 (pP (l.map bM) (l.map bM) i) _) ?_ ?_
 ·exact AH _ _ _ _ (aq (by simp) (Jv _ _ _ _ _ ⟨rfl,by first|rfl|trivial⟩))
 ·intro i a hi ha _ _ hn
  refine AH _ _ _ _ (ai (by simp;omega) ⟨_,_,_,_,_,cK ha,_,_,_,_,_,cK ha,_,Y4 _ _ _ _ _,aq (by simp) ?_⟩)
  rw[aJ (by omega)]
  exact hn
theorem Y5 (v0:Int) (v1:Int):aa C De [.ag [iI v0,iI v1]] (.ag [iI v0,iI v1]) []:=(Pu _ _ _ ⟨rfl,by first|rfl|trivial⟩).run
theorem Y6 (v0:Int) (v1:Int):aa C Dg [.ag [iI v0,iI v1],.ag [iI v0,iI v1]] (vB true) []:=by
 refine(O9 _ _ _ _ _ ?_).run
 simp
theorem Yc (l:List (Age)) (hl:l.length≤1099511627776):aa C kg [ji l] (ji l) []:=by
 refine(MP _ _ ?_).run
 simp only[List.length_map]
 refine ai (by simp;omega) ?_
 simp only[fO,yg,Int.toNat_natCast]
 refine yl (e:=ek) (z:=[iI 0,iI 0]) l (fun i rows=>ah C kg aj 4 0 (pG (l.map ek) i rows) _) (fun a=>rfl) ?_ ?_
 ·exact Ae _ _ _ _ (aq (by simp) (IF _ _ _ _ _ ⟨rfl,by first|rfl|trivial⟩))
 ·intro i rows a hi ha hr hn
  refine Ae _ _ _ _ (ai (by simp;omega) ⟨_,_,cK ha,_,_,Y5 _ _,_,_,hr,_,_,hr,?_⟩)
  rw[aJ (by omega)]
  exact hn
theorem Yd (l:List (Age)) (hl:l.length≤1099511627776):aa C kj [ji l,ji l] (vB true) []:=by
 refine(M4 _ _ _ ?_).run
 refine aq (by simp) ?_
 refine bD l (fun i=>ah C kj aj 4 0 (pK (l.map ek) (l.map ek) i) _) ?_ ?_
 ·exact Ap _ _ _ _ (aq (by simp) (I3 _ _ _ _ _ ⟨rfl,by first|rfl|trivial⟩))
 ·intro i a hi ha _ _ hn
  refine Ap _ _ _ _ (ai (by simp;omega) ⟨_,_,cK ha,_,_,cK ha,_,Y6 _ _,aq (by simp) ?_⟩)
  rw[aJ (by omega)]
  exact hn
theorem toCell (v0:Int) (v1:Bool) (v2:Int):aa C Bw [.ag [iI v0,iB v1,iI v2]] (.ag [iI v0,iB v1,iI v2]) []:=(Mk _ _ _ _ ⟨rfl,by first|rfl|trivial⟩).run
theorem Ye (v0:Int) (v1:Bool) (v2:Int):aa C Bx [.ag [iI v0,iB v1,iI v2],.ag [iI v0,iB v1,iI v2]] (vB true) []:=by
 refine(Mz _ _ _ _ _ _ _ ?_).run
 simp
theorem WS (l:List (Cell)) (hl:l.length≤1099511627776):aa C jl [gQ l] (gQ l) []:=by
 refine(LH _ _ ?_).run
 simp only[List.length_map]
 refine ai (by simp;omega) ?_
 simp only[fO,yg,Int.toNat_natCast]
 refine yl (e:=cY) (z:=[iI 0,iB false,iI 0]) l (fun i rows=>ah C jl aj 4 0 (ou (l.map cY) i rows) _) (fun a=>rfl) ?_ ?_
 ·exact xI _ _ _ _ (aq (by simp) (GG _ _ _ _ _ ⟨rfl,by first|rfl|trivial⟩))
 ·intro i rows a hi ha hr hn
  refine xI _ _ _ _ (ai (by simp;omega) ⟨_,_,_,cK ha,_,_,_,toCell _ _ _,_,_,_,hr,_,_,_,hr,?_⟩)
  rw[aJ (by omega)]
  exact hn
theorem WT (l:List (Cell)) (hl:l.length≤1099511627776):aa C jm [gQ l,gQ l] (vB true) []:=by
 refine(K0 _ _ _ ?_).run
 refine aq (by simp) ?_
 refine bD l (fun i=>ah C jm aj 4 0 (nZ (l.map cY) (l.map cY) i) _) ?_ ?_
 ·exact xo _ _ _ _ (aq (by simp) (F4 _ _ _ _ _ ⟨rfl,by first|rfl|trivial⟩))
 ·intro i a hi ha _ _ hn
  refine xo _ _ _ _ (ai (by simp;omega) ⟨_,_,_,cK ha,_,_,_,cK ha,_,Ye _ _ _,aq (by simp) ?_⟩)
  rw[aJ (by omega)]
  exact hn
theorem Y7 (v0:ByteArray) (v1:Int) (v2:Int) (v3:Bool):aa C Df [.ag [iS v0,iI v1,iI v2,iB v3]] (.ag [iS v0,iI v1,iI v2,iB v3]) []:=(Ph _ _ _ _ _ ⟨rfl,by first|rfl|trivial⟩).run
theorem Y8 (v0:ByteArray) (v1:Int) (v2:Int) (v3:Bool):aa C Dh [.ag [iS v0,iI v1,iI v2,iB v3],.ag [iS v0,iI v1,iI v2,iB v3]] (vB true) []:=by
 refine(Pm _ _ _ _ _ _ _ _ _ ?_).run
 simp
theorem Yf (l:List (Vol)) (hl:l.length≤1099511627776):aa C ki [yC l] (yC l) []:=by
 refine(Mf _ _ ?_).run
 simp only[List.length_map]
 refine ai (by simp;omega) ?_
 simp only[fO,yg,Int.toNat_natCast]
 refine yl (e:=eA) (z:=[iS YV,iI 0,iI 0,iB false]) l (fun i rows=>ah C ki aj 4 0 (o6 (l.map eA) i rows) _) (fun a=>rfl) ?_ ?_
 ·exact zP _ _ _ _ (aq (by simp) (HU _ _ _ _ _ ⟨rfl,by first|rfl|trivial⟩))
 ·intro i rows a hi ha hr hn
  refine zP _ _ _ _ (ai (by simp;omega) ⟨_,_,_,_,cK ha,_,_,_,_,Y7 _ _ _ _,_,_,_,_,hr,_,_,_,_,hr,?_⟩)
  rw[aJ (by omega)]
  exact hn
theorem Yg (l:List (Vol)) (hl:l.length≤1099511627776):aa C kk [yC l,yC l] (vB true) []:=by
 refine(Mw _ _ _ ?_).run
 refine aq (by simp) ?_
 refine bD l (fun i=>ah C kk aj 4 0 (pk (l.map eA) (l.map eA) i) _) ?_ ?_
 ·exact zV _ _ _ _ (aq (by simp) (Ii _ _ _ _ _ ⟨rfl,by first|rfl|trivial⟩))
 ·intro i a hi ha _ _ hn
  refine zV _ _ _ _ (ai (by simp;omega) ⟨_,_,_,_,cK ha,_,_,_,_,cK ha,_,Y8 _ _ _ _,aq (by simp) ?_⟩)
  rw[aJ (by omega)]
  exact hn
theorem Yh (l:List (Int)) (hl:l.length≤1099511627776):aa C ko [j6 l] (j6 l) []:=by
 refine(My _ _ ?_).run
 simp only[List.length_map]
 refine ai (by simp;omega) ?_
 simp only[fO,yg,Int.toNat_natCast]
 refine yl (e:=bP) (z:=[iI 0]) l (fun i rows=>ah C ko aj 4 0 (pz (l.map bP) i rows) _) (fun a=>rfl) ?_ ?_
 ·exact zX _ _ _ _ (aq (by simp) (Iq _ _ _ _ _ ⟨rfl,by first|rfl|trivial⟩))
 ·intro i rows a hi ha hr hn
  refine zX _ _ _ _ (ai (by simp;omega) ⟨_,cK ha,_,hr,_,hr,?_⟩)
  rw[aJ (by omega)]
  exact hn
theorem Yi (l:List (Int)) (hl:l.length≤1099511627776):aa C kr [j6 l,j6 l] (vB true) []:=by
 refine(MR _ _ _ ?_).run
 refine aq (by simp) ?_
 refine bD l (fun i=>ah C kr aj 4 0 (pH (l.map bP) (l.map bP) i) _) ?_ ?_
 ·exact Af _ _ _ _ (aq (by simp) (IM _ _ _ _ _ ⟨rfl,by first|rfl|trivial⟩))
 ·intro i a hi ha _ _ hn
  refine Af _ _ _ _ (ai (by simp;omega) ⟨_,cK ha,_,cK ha,aq (by simp) ?_⟩)
  rw[aJ (by omega)]
  exact hn
theorem WU (l:List (List Key)) (hl:l.length≤1099511627776) (hs: ∀s∈l,s.length≤1099511627776):aa C jq [Eh l] (Eh l) []:=by
 refine(Lm _ _ ?_).run
 simp only[List.length_map]
 refine ai (by simp;omega) ?_
 simp only[fO,yg,Int.toNat_natCast]
 refine yl (e:=cc) (z:=[TC.sub 5 []]) l (fun i rows=>ah C jq aj 4 0 (og (l.map cc) i rows) _) (fun a=>rfl) ?_ ?_
 ·exact xD _ _ _ _ (aq (by simp) (Gt _ _ _ _ _ ⟨rfl,by first|rfl|trivial⟩))
 ·intro i rows a hi ha hr hn
  refine xD _ _ _ _ (ai (by simp;omega) ⟨_,cK ha,_,Ya _ (hs _ (List.mem_of_getElem? ha)),_,hr,_,hr,?_⟩)
  rw[aJ (by omega)]
  exact hn
def Ex (n:List (List Key)):Prop:=n.length≤1099511627776∧ ∀s∈n,s.length≤1099511627776
def Yj (l:List (List (List Key))):Prop:=l.length≤1099511627776∧ ∀n∈l,Ex n
def N6 (t:Tree):Prop:=t.lows.length≤1099511627776∧Yj t.nodes
theorem Yk (n:List (List Key)) (h:Ex n):aa C BA [fK n] (fK n) []:=(Mo _ _ ⟨_,WU n h.1 h.2,rfl,rfl⟩).run
theorem WV (l:List (List (List Key))) (hl:l.length≤1099511627776) (hs: ∀n∈l,Ex n):aa C jn [tD l] (tD l) []:=by
 refine(Lt _ _ ?_).run
 simp only[List.length_map]
 refine ai (by simp;omega) ?_
 simp only[fO,yg,Int.toNat_natCast]
 refine yl (e:=aX) (z:=[TC.sub 1 []]) l (fun i rows=>ah C jn aj 4 0 (om (l.map aX) i rows) _) (fun a=>rfl) ?_ ?_
 ·exact xF _ _ _ _ (aq (by simp) (Gv _ _ _ _ _ ⟨rfl,by first|rfl|trivial⟩))
 ·intro i rows a hi ha hr hn
  refine xF _ _ _ _ (ai (by simp;omega) ⟨_,cK ha,_,Yk _ (hs _ (List.mem_of_getElem? ha)),_,hr,_,hr,?_⟩)
  rw[aJ (by omega)]
  exact hn
theorem toTree (t:Tree) (h:N6 t):aa C Br [dj t] (dj t) []:=(Mv _ _ _ ⟨_,Yh _ h.1,_,WV _ h.2.1 h.2.2,rfl,rfl⟩).run
theorem WW (l:List (List Key)) (hl:l.length≤1099511627776) (hs: ∀s∈l,s.length≤1099511627776):aa C jr [Eh l,Eh l] (vB true) []:=by
 refine(LC _ _ _ ?_).run
 refine aq (by simp) ?_
 refine bD l (fun i=>ah C jr aj 4 0 (ot (l.map cc) (l.map cc) i) _) ?_ ?_
 ·exact xH _ _ _ _ (aq (by simp) (GF _ _ _ _ _ ⟨rfl,by first|rfl|trivial⟩))
 ·intro i a hi ha _ _ hn
  refine xH _ _ _ _ (ai (by simp;omega) ⟨_,cK ha,_,cK ha,_,Yb _ (hs _ (List.mem_of_getElem? ha)),aq (by simp) ?_⟩)
  rw[aJ (by omega)]
  exact hn
theorem Yl (n:List (List Key)) (h:Ex n):aa C BC [fK n,fK n] (vB true) []:=(MG _ _ _ ⟨_,WW n h.1 h.2,by simp⟩).run
theorem WX (l:List (List (List Key))) (hl:l.length≤1099511627776) (hs: ∀n∈l,Ex n):aa C jo [tD l,tD l] (vB true) []:=by
 refine(LI _ _ _ ?_).run
 refine aq (by simp) ?_
 refine bD l (fun i=>ah C jo aj 4 0 (ov (l.map aX) (l.map aX) i) _) ?_ ?_
 ·exact xJ _ _ _ _ (aq (by simp) (GI _ _ _ _ _ ⟨rfl,by first|rfl|trivial⟩))
 ·intro i a hi ha _ _ hn
  refine xJ _ _ _ _ (ai (by simp;omega) ⟨_,cK ha,_,cK ha,_,Yl _ (hs _ (List.mem_of_getElem? ha)),aq (by simp) ?_⟩)
  rw[aJ (by omega)]
  exact hn
theorem Ym (t:Tree) (h:N6 t):aa C Bs [dj t,dj t] (vB true) []:=(MQ _ _ _ _ _ ⟨_,Yi _ h.1,aq rfl ⟨_,WX _ h.2.1 h.2.2,by simp⟩⟩).run
structure QU (p:Pool):Prop where
 t:N6 p.t
 ages:p.ages.length≤1099511627776
 cells:p.cells.length≤1099511627776
 vols:p.vols.length≤1099511627776
theorem O2 (p:Pool) (h:QU p):aa C qa [fW p] (fW p) []:=(Mt _ _ _ _ _ _ _ ⟨_,_,toTree p.t h.t,_,Yc _ h.ages,_,WS _ h.cells,_,Yf _ h.vols,rfl,rfl⟩).run
theorem O3 (p:Pool) (h:QU p):aa C qb [fW p,fW p] (vB true) []:=(M0 _ _ _ _ _ _ _ _ _ _ _ _ _ ⟨_,Ym p.t h.t,aq rfl ⟨_,Yd _ h.ages,aq rfl ⟨_,WT _ h.cells,aq rfl ⟨_,Yg _ h.vols,aq rfl (by simp)⟩⟩⟩⟩).run
theorem Yn (l:List (Int)) (left:Int) (h0:0≤left∧left≤1048576) (hl:l.length≤140737488355328):aa C Bv [j6 l,vI left] (vI (lQ left l.length)) []:=by
 refine(Mi _ _ _ ?_).run
 simp only[List.length_map,fO]
 rw[dH (by omega)]
 unfold lQ
 simp only[ez,bF]
 by_cases h:left<(l.length:Int)
 ·rw[if_pos (by omega),if_pos h];exact⟨rfl,by first|rfl|trivial⟩
 ·rw[if_neg (by omega),if_neg h];exact⟨rfl,by first|rfl|trivial⟩
theorem Yo (l:List (Key)) (left:Int) (h0:0≤left∧left≤1048576) (hl:l.length≤140737488355328):aa C BD [cJ l,vI left] (vI (lQ left l.length)) []:=by
 refine(MO _ _ _ ?_).run
 simp only[List.length_map,fO]
 rw[dH (by omega)]
 unfold lQ
 simp only[ez,bF]
 by_cases h:left<(l.length:Int)
 ·rw[if_pos (by omega),if_pos h];exact⟨rfl,by first|rfl|trivial⟩
 ·rw[if_neg (by omega),if_neg h];exact⟨rfl,by first|rfl|trivial⟩
theorem Yp (l:List (Age)) (left:Int) (h0:0≤left∧left≤1048576) (hl:l.length≤140737488355328):aa C Bq [ji l,vI left] (vI (lQ left l.length)) []:=by
 refine(Mu _ _ _ ?_).run
 simp only[List.length_map,fO]
 rw[dH (by omega)]
 unfold lQ
 simp only[ez,bF]
 by_cases h:left<(l.length:Int)
 ·rw[if_pos (by omega),if_pos h];exact⟨rfl,by first|rfl|trivial⟩
 ·rw[if_neg (by omega),if_neg h];exact⟨rfl,by first|rfl|trivial⟩
theorem WY (l:List (Cell)) (left:Int) (h0:0≤left∧left≤1048576) (hl:l.length≤140737488355328):aa C yp [gQ l,vI left] (vI (lQ left l.length)) []:=by
 refine(Lr _ _ _ ?_).run
 simp only[List.length_map,fO]
 rw[dH (by omega)]
 unfold lQ
 simp only[ez,bF]
 by_cases h:left<(l.length:Int)
 ·rw[if_pos (by omega),if_pos h];exact⟨rfl,by first|rfl|trivial⟩
 ·rw[if_neg (by omega),if_neg h];exact⟨rfl,by first|rfl|trivial⟩
theorem WZ (l:List (List Key)) (left:Int) (h0:0≤left∧left≤1048576) (hl:l.length≤140737488355328) (hs: ∀s∈l,s.length≤140737488355328):aa C fF [Eh l,vI left] (vI (lQ left (l.length+tot bH l))) []:=by
 refine(La _ _ _ ?_).run
 simp only[List.length_map,fO]
 rw[dH (by omega)]
 simp only[ez,bF]
 by_cases h:left<(l.length:Int)
 ·rw[if_pos (by omega)]
  refine⟨?_,by first|rfl|trivial⟩
  unfold lQ
  rw[if_pos (by omega)]
 ·rw[if_neg (by omega)]
  have key: ∀cur:Int,0≤cur∧cur≤1048576→lQ cur (tot bH (l.drop 0))=lQ left (l.length+tot bH l)→ah C fF aH 4 0 (lz (l.map cc) cur ((0:Nat):Int)) (fun x st=>aF C fF aH x st fun r fs=>r=vI (lQ left (l.length+tot bH l))∧fs=[]):=by
   refine bD l (fun i=> ∀cur:Int,0≤cur∧cur≤1048576→lQ cur (tot bH (l.drop i))=lQ left (l.length+tot bH l)→ah C fF aH 4 0 (lz (l.map cc) cur i) _) ?_ ?_
   ·intro cur hc he
    refine xx _ _ _ _ (aq (by simp) (Gj _ _ _ _ _ ⟨?_,by first|rfl|trivial⟩))
    rw[←he,List.drop_length]
    unfold lQ tot
    rw[if_neg (by omega)]
    simp
   ·intro i a hi ha hd _ hn cur hc he
    rw[hd] at he
    simp only[tot] at he
    refine xx _ _ _ _ (ai (by simp;omega) ⟨_,cK ha,_,Yo a cur hc (hs a (List.mem_of_getElem? ha)),?_⟩)
    by_cases hw:cur<(bH a:Int)
    ·refine ai (by simp[lQ,bH] at hw ⊢;omega) (Gi _ ⟨?_,by first|rfl|trivial⟩)
     rw[←he]
     unfold lQ
     rw[if_pos (by omega)]
    ·have hl2:lQ cur (bH a)=cur-bH a:=if_neg hw
     refine aq (by simp[lQ,bH] at hw ⊢;omega) ?_
     rw[aJ (by omega)]
     have:=hn (cur-bH a) (by omega) (by rw[←he];unfold lQ;split<;>split<;>omega)
     rw[←hl2] at this
     exact this
  refine key (left-l.length) (by omega) ?_
  simp only[List.drop_zero]
  unfold lQ
  split<;>split<;>omega
theorem R9 (n:List (List Key)) (left:Int) (h0:0≤left∧left≤1048576) (hl:n.length≤140737488355328) (hs: ∀s∈n,s.length≤140737488355328):aa C Bz [fK n,vI left] (vI (lQ left (aQ n))) []:=by
 refine(MV _ _ _ ⟨_,WZ n left h0 hl hs,?_⟩).run
 show aD _ _ _
 unfold aQ
 simp only[ez,bF]
 split
 ·refine⟨?_,by first|rfl|trivial⟩
  unfold lQ at*
  split<;>simp_all<;>omega
 ·simp
theorem W0 (l:List (List (List Key))) (left:Int) (h0:0≤left∧left≤1048576) (hl:l.length≤140737488355328) (hs: ∀n∈l,n.length≤140737488355328∧ ∀s∈n,s.length≤140737488355328):aa C fE [tD l,vI left] (vI (lQ left (l.length+tot aQ l))) []:=by
 refine(Lh _ _ _ ?_).run
 simp only[List.length_map,fO]
 rw[dH (by omega)]
 simp only[ez,bF]
 by_cases h:left<(l.length:Int)
 ·rw[if_pos (by omega)]
  refine⟨?_,by first|rfl|trivial⟩
  unfold lQ
  rw[if_pos (by omega)]
 ·rw[if_neg (by omega)]
  have key: ∀cur:Int,0≤cur∧cur≤1048576→lQ cur (tot aQ (l.drop 0))=lQ left (l.length+tot aQ l)→ah C fE aH 4 0 (lB (l.map aX) cur ((0:Nat):Int)) (fun x st=>aF C fE aH x st fun r fs=>r=vI (lQ left (l.length+tot aQ l))∧fs=[]):=by
   refine bD l (fun i=> ∀cur:Int,0≤cur∧cur≤1048576→lQ cur (tot aQ (l.drop i))=lQ left (l.length+tot aQ l)→ah C fE aH 4 0 (lB (l.map aX) cur i) _) ?_ ?_
   ·intro cur hc he
    refine xz _ _ _ _ (aq (by simp) (Gm _ _ _ _ _ ⟨?_,by first|rfl|trivial⟩))
    rw[←he,List.drop_length]
    unfold lQ tot
    rw[if_neg (by omega)]
    simp
   ·intro i a hi ha hd _ hn cur hc he
    rw[hd] at he
    simp only[tot] at he
    refine xz _ _ _ _ (ai (by simp;omega) ⟨_,cK ha,_,R9 a cur hc (hs a (List.mem_of_getElem? ha)).1 (hs a (List.mem_of_getElem? ha)).2,?_⟩)
    by_cases hw:cur<(aQ a:Int)
    ·refine ai (by simp[lQ,aQ] at hw ⊢;omega) (Gl _ ⟨?_,by first|rfl|trivial⟩)
     rw[←he]
     unfold lQ
     rw[if_pos (by omega)]
    ·have hl2:lQ cur (aQ a)=cur-aQ a:=if_neg hw
     refine aq (by simp[lQ,aQ] at hw ⊢;omega) ?_
     rw[aJ (by omega)]
     have:=hn (cur-aQ a) (by omega) (by rw[←he];unfold lQ;split<;>split<;>omega)
     rw[←hl2] at this
     exact this
  refine key (left-l.length) (by omega) ?_
  simp only[List.drop_zero]
  unfold lQ
  split<;>split<;>omega
theorem JK {a:Int} {n m:Nat} (h: ¬lQ a n<0) (h0:0≤a):lQ (lQ a n) m=lQ a (n+m):=by unfold lQ at*;split<;>split<;>split<;>simp_all<;>omega
theorem O4 {a:Int} {n:Nat} (h: ¬lQ a n<0) (h0:0≤a∧a≤1048576):0≤lQ a n∧lQ a n≤1048576:=by unfold lQ at*;split<;>simp_all<;>omega
theorem JL {a:Int} {n m:Nat} (h:lQ a n<0) (h0:0≤a):lQ a (n+m)= -1:=by unfold lQ at*;split<;>simp_all<;>omega
structure VE (t:Tree):Prop where
 lows:t.lows.length≤140737488355328
 nodes:t.nodes.length≤140737488355328
 node: ∀n∈t.nodes,n.length≤140737488355328∧ ∀s∈n,s.length≤140737488355328
theorem Sa (t:Tree) (left:Int) (h0:0≤left∧left≤1048576) (h:VE t):aa C Bp [dj t,vI left] (vI (lQ left (cZ t))) []:=by
 refine(Me _ _ _ _ ⟨_,Yn _ left h0 h.lows,?_⟩).run
 unfold cZ qk
 refine nF (fun hb=> ?_) fun hb=>⟨_,W0 _ _ (O4 (by simpa using hb) h0) h.nodes h.node,?_⟩
 ·rw[JL (by simpa using hb) h0.1];exact⟨rfl,by first|rfl|trivial⟩
 ·have hb: ¬lQ left t.lows.length<0:=by simpa using hb
  rw[JK hb h0.1]
  refine nF (fun hc=> ?_) fun hc=>⟨rfl,by first|rfl|trivial⟩
  refine⟨?_,by first|rfl|trivial⟩
  have hc:lQ left (t.lows.length+(t.nodes.length+tot aQ t.nodes))<0:=by simpa using hc
  unfold lQ at*
  split<;>simp_all<;>omega
theorem TK (s:ByteArray) (a z:Int) (f:Bool) (left:Int) (h0:0≤left∧left≤1048576) (hl:s.size≤140737488355328):aa C Dd [.ag [iS s,iI a,iI z,iB f],vI left] (vI (lQ left s.size)) []:=by
 refine(Pk _ _ _ _ _ _ ?_).run
 simp only[FA,fO]
 rw[dH (by omega)]
 unfold lQ
 simp only[ez,bF]
 by_cases h:left<(s.size:Int)
 ·rw[if_pos (by omega),if_pos h];exact⟨rfl,by first|rfl|trivial⟩
 ·rw[if_neg (by omega),if_neg h];exact⟨rfl,by first|rfl|trivial⟩
theorem Yq (l:List (Vol)) (left:Int) (h0:0≤left∧left≤1048576) (hl:l.length≤140737488355328) (hs: ∀v∈l,v.name.size≤140737488355328):aa C gD [yC l,vI left] (vI (lQ left (l.length+tot p8 l))) []:=by
 refine(M3 _ _ _ ?_).run
 simp only[List.length_map,fO]
 rw[dH (by omega)]
 simp only[ez,bF]
 by_cases h:left<(l.length:Int)
 ·rw[if_pos (by omega)]
  refine⟨?_,by first|rfl|trivial⟩
  unfold lQ
  rw[if_pos (by omega)]
 ·rw[if_neg (by omega)]
  have key: ∀cur:Int,0≤cur∧cur≤1048576→lQ cur (tot p8 (l.drop 0))=lQ left (l.length+tot p8 l)→ah C gD aH 4 0 (mB (l.map eA) cur ((0:Nat):Int)) (fun x st=>aF C gD aH x st fun r fs=>r=vI (lQ left (l.length+tot p8 l))∧fs=[]):=by
   refine bD l (fun i=> ∀cur:Int,0≤cur∧cur≤1048576→lQ cur (tot p8 (l.drop i))=lQ left (l.length+tot p8 l)→ah C gD aH 4 0 (mB (l.map eA) cur i) _) ?_ ?_
   ·intro cur hc he
    refine Ao _ _ _ _ (aq (by simp) (I2 _ _ _ _ _ ⟨?_,by first|rfl|trivial⟩))
    rw[←he,List.drop_length]
    unfold lQ tot
    rw[if_neg (by omega)]
    simp
   ·intro i a hi ha hd _ hn cur hc he
    rw[hd] at he
    simp only[tot] at he
    refine Ao _ _ _ _ (ai (by simp;omega) ⟨_,_,_,_,cK ha,_,TK _ _ _ _ cur hc (hs a (List.mem_of_getElem? ha)),?_⟩)
    by_cases hw:cur<(p8 a:Int)
    ·refine ai (by simp[lQ,p8] at hw ⊢;omega) (I1 _ ⟨?_,by first|rfl|trivial⟩)
     rw[←he]
     unfold lQ
     rw[if_pos (by omega)]
    ·have hl2:lQ cur (p8 a)=cur-p8 a:=if_neg hw
     refine aq (by simp[lQ,p8] at hw ⊢;omega) ?_
     rw[aJ (by omega)]
     have:=hn (cur-p8 a) (by omega) (by rw[←he];unfold lQ;split<;>split<;>omega)
     rw[←hl2] at this
     exact this
  refine key (left-l.length) (by omega) ?_
  simp only[List.drop_zero]
  unfold lQ
  split<;>split<;>omega
structure S3 (p:Pool):Prop where
 t:VE p.t
 ages:p.ages.length≤140737488355328
 cells:p.cells.length≤140737488355328
 vols:p.vols.length≤140737488355328
 vol: ∀v∈p.vols,v.name.size≤140737488355328
 siz: ∀v∈p.vols,v.size≤9223372036854775807
theorem Sb (p:Pool) (left:Int) (h0:0≤left∧left≤1048576) (h:S3 p):aa C Bo [fW p,vI left] (vI (lQ left (cO p))) []:=by
 refine(MZ _ _ _ _ _ _ _ _ ⟨_,Sa p.t left h0 h.t,?_⟩).run
 unfold cO FD
 refine nF (fun hb=> ?_) fun hb=>⟨_,Yp _ _ (O4 (by simpa using hb) h0) h.ages,?_⟩
 ·rw[Nat.add_assoc,Nat.add_assoc,JL (by simpa using hb) h0.1];exact⟨rfl,by first|rfl|trivial⟩
 rw[JK (by simpa using hb) h0.1]
 refine nF (fun hb=> ?_) fun hb=>⟨_,WY _ _ (O4 (by simpa using hb) h0) h.cells,?_⟩
 ·rw[Nat.add_assoc,JL (by simpa using hb) h0.1];exact⟨rfl,by first|rfl|trivial⟩
 rw[JK (by simpa using hb) h0.1]
 refine nF (fun hb=> ?_) fun hb=>⟨_,Yq _ _ (O4 (by simpa using hb) h0) h.vols h.vol,?_⟩
 ·rw[JL (by simpa using hb) h0.1];exact⟨rfl,by first|rfl|trivial⟩
 rw[JK (by simpa using hb) h0.1]
 refine nF (fun hc=> ?_) fun hc=>⟨rfl,by first|rfl|trivial⟩
 refine⟨?_,by first|rfl|trivial⟩
 have hc:lQ left (cZ p.t+p.ages.length+p.cells.length+(p.vols.length+tot p8 p.vols))<0:=by simpa using hc
 unfold lQ at*
 split<;>simp_all<;>omega
theorem qW (a b c:Int):aa C cM [vI a,vI b,vI c] (vB (jh a b c)) []:=by
 refine(M6 _ _ _ _ ?_).run
 simp only[gX,bF,jh]
 split<;>simp_all<;>omega
theorem wL (a b c:Int):aa C ew [vI a,vI b,vI c] (vB (jh a b c)) []:=by
 refine(Q5 _ _ _ _ ?_).run
 simp only[gX,bF,jh]
 split<;>simp_all<;>omega
@[simp] theorem rG (a b c:Int) (q:Bool):aa C cM [vI a,vI b,vI c] (vB q) []↔q=jh a b c:=qS (qW a b c)
@[simp] theorem BE (a b c:Int) (q:Bool):aa C ew [vI a,vI b,vI c] (vB q) []↔q=jh a b c:=qS (wL a b c)
theorem KO (b a k c g:Int):aa C tG [.ag [iI b,iI a,iI k,iI c,iI g]] (vB (gl ⟨b,a,k,c,g⟩)) []:=by
 refine(Pw _ _ _ _ _ _ ?_).run
 simp only[rG,exists_eq_left,gl,aP,bJ,bF]
 cases jh b 0 15<;>cases jh a 1 60<;>cases jh k 0 2<;>by_cases h:k=1<;>by_cases h1:c=0<;>by_cases h2:g=0<;>cases jh c 0 23<;>simp_all
theorem KP (b a k c g:Int):aa C tF [.ag [iI b,iI a,iI k,iI c,iI g]] (vB (gl ⟨b,a,k,c,g⟩)) []:=by
 refine(Pc _ _ _ _ _ _ ?_).run
 simp only[BE,exists_eq_left,gl,aP,bJ,bF]
 cases jh b 0 15<;>cases jh a 1 60<;>cases jh k 0 2<;>by_cases h:k=1<;>by_cases h1:c=0<;>by_cases h2:g=0<;>cases jh c 0 23<;>simp_all
@[simp] theorem Ey (b a k c g:Int) (q:Bool):aa C tG [.ag [iI b,iI a,iI k,iI c,iI g]] (vB q) []↔q=gl ⟨b,a,k,c,g⟩:=qS (KO b a k c g)
@[simp] theorem Ez (b a k c g:Int) (q:Bool):aa C tF [.ag [iI b,iI a,iI k,iI c,iI g]] (vB q) []↔q=gl ⟨b,a,k,c,g⟩:=qS (KP b a k c g)
@[simp] theorem BF (b a k c g b' a' k' c' g':Int) (q:Bool):aa C sL [.ag [iI b,iI a,iI k,iI c,iI g],.ag [iI b',iI a',iI k',iI c',iI g']] (vB q) []↔q=dI ⟨b,a,k,c,g⟩ ⟨b',a',k',c',g'⟩:=qS (by
  refine(Ln _ _ _ _ _ _ _ _ _ _ _ ?_).run
  simp only[ez,aP,bF,dI]
  by_cases h1:b<b'<;>by_cases h2:b=b'<;>simp_all)
@[simp] theorem BG (b a k c g b' a' k' c' g':Int) (q:Bool):aa C sJ [.ag [iI b,iI a,iI k,iI c,iI g],.ag [iI b',iI a',iI k',iI c',iI g']] (vB q) []↔q=dI ⟨b,a,k,c,g⟩ ⟨b',a',k',c',g'⟩:=qS (by
  refine(K9 _ _ _ _ _ _ _ _ _ _ _ ?_).run
  simp only[ez,aP,bJ,bF,dI]
  by_cases h2:b=b'<;>simp_all)
@[simp] theorem Hl (b a k c g b' a' k' c' g':Int) (q:Bool):aa C oT [.ag [iI b,iI a,iI k,iI c,iI g],.ag [iI b',iI a',iI k',iI c',iI g']] (vB q) []↔q=lq ⟨b,a,k,c,g⟩ ⟨b',a',k',c',g'⟩:=qS (by
  refine(IZ _ _ _ _ _ _ _ _ _ _ _ ?_).run
  simp only[ez,aP,bJ,bF,lq]
  by_cases h2:b=b'<;>simp_all)
@[simp] theorem Ho (b a k c g b' a' k' c' g':Int) (q:Bool):aa C oS [.ag [iI b,iI a,iI k,iI c,iI g],.ag [iI b',iI a',iI k',iI c',iI g']] (vB q) []↔q=lq ⟨b,a,k,c,g⟩ ⟨b',a',k',c',g'⟩:=qS (by
  refine(IA _ _ _ _ _ _ _ _ _ _ _ ?_).run
  simp only[ez,aP,bJ,bF,lq]
  by_cases h2:b=b'<;>simp_all)
theorem mh (l:List Key) (x:Key) (hl:l.length≤1073741824):aa C bg [cJ l,AJ x] (cJ (eX l x)) []:=by
 refine(MD _ _ _ _ _ _ _ ?_).run
 have key: ∀(put:Bool) (acc:List Key),acc.length+(l.drop 0).length≤l.length+(if put then 1 else 0)→acc++eW x put (l.drop 0)=eX l x→ah C bg aH 4 0 (eT (l.map bM) put ((0:Nat):Int) x.b x.a x.k x.c x.g (acc.map bM)) (fun u st=>aF C bg aH u st fun r fs=>r=cJ (eX l x)∧fs=[]):=by
  refine bD l (fun i=> ∀(put:Bool) (acc:List Key),acc.length+(l.drop i).length≤l.length+(if put then 1 else 0)→acc++eW x put (l.drop i)=eX l x→ah C bg aH 4 0 (eT (l.map bM) put i x.b x.a x.k x.c x.g (acc.map bM)) _) ?_ ?_
  ·intro put acc hb he
   refine z5 _ _ _ _ _ _ _ _ _ _ (aq (by simp) (Ix _ _ _ _ _ _ _ _ _ _ _ ?_))
   simp only[uJ,de,lS,Bool.true_and,bJ,cr,List.length_map]
   have hb2:acc.length≤l.length+1:=by simp at hb;split at hb<;>omega
   rw[cW (by omega)]
   rw[List.drop_length] at he
   cases put<;>simp[eW] at he ⊢ <;>rw[←he]<;>simp
  ·intro i a hi ha hd _ hn put acc hb he
   rw[hd] at hb he
   simp only[List.length_cons] at hb
   have hb':acc.length+(List.drop (i+1) l).length+1≤l.length+1:=by split at hb<;>omega
   refine z5 _ _ _ _ _ _ _ _ _ _ (ai (by simp;omega) ?_)
   simp only[jN,aL,ha,Option.some.injEq,exists_eq_left',BG,Ho,exists_eq_left,bJ,de,uJ,lS,Bool.true_and,cr,List.length_map,List.length_append,List.length_singleton]
   simp (disch:=omega) only[cW,aJ,ld]
   simp only[eW] at he
   cases put<;>cases hk:dI a x<;>cases hs:lq a x<;>simp only[ld,me]<;>simp[hk,hs] at he hb<;>exact hn _ _ (by simp at hb ⊢;omega) (by simpa using he)
 exact key false [] (by simp) rfl
@[simp] theorem L3 (l:List Key) (hl:l.length≤1073741824) (b a k c g:Int) (q:RR):aa C bg [.c (.sub 5 (l.map bM)),.ag [iI b,iI a,iI k,iI c,iI g]] (.c (.sub 5 q)) []↔q=(eX l ⟨b,a,k,c,g⟩).map bM:=Qx (mh l ⟨b,a,k,c,g⟩ hl)
theorem o5 (l:List Key) (x:Key) (hl:l.length≤1073741824):aa C cC [cJ l,AJ x] (cJ (eX l x)) []:=by
 refine(Nj _ _ _ _ _ _ _ ?_).run
 have key: ∀(put:Bool) (acc:List Key),acc.length+(l.drop 0).length≤l.length+(if put then 1 else 0)→acc++eW x put (l.drop 0)=eX l x→ah C cC aH 4 0 (eU put (l.map bM) ((0:Nat):Int) x.b x.a x.k x.c x.g (acc.map bM)) (fun u st=>aF C cC aH u st fun r fs=>r=cJ (eX l x)∧fs=[]):=by
  refine bD l (fun i=> ∀(put:Bool) (acc:List Key),acc.length+(l.drop i).length≤l.length+(if put then 1 else 0)→acc++eW x put (l.drop i)=eX l x→ah C cC aH 4 0 (eU put (l.map bM) i x.b x.a x.k x.c x.g (acc.map bM)) _) ?_ ?_
  ·intro put acc hb he
   refine AE _ _ _ _ _ _ _ _ _ _ (aq (by simp) (Jr _ _ _ _ _ _ _ _ _ _ _ _ ?_))
   simp only[uJ,de,lS,Bool.true_and,bJ,cr,List.length_map]
   have hb2:acc.length≤l.length+1:=by simp at hb;split at hb<;>omega
   rw[cW (by omega)]
   rw[List.drop_length] at he
   cases put<;>simp[eW] at he ⊢ <;>rw[←he]<;>simp
  ·intro i a hi ha hd _ hn put acc hb he
   rw[hd] at hb he
   simp only[List.length_cons] at hb
   have hb':acc.length+(List.drop (i+1) l).length+1≤l.length+1:=by split at hb<;>omega
   refine AE _ _ _ _ _ _ _ _ _ _ (ai (by simp;omega) ?_)
   simp only[jN,aL,ha,Option.some.injEq,exists_eq_left',BF,Hl,exists_eq_left,bJ,de,uJ,lS,Bool.true_and,cr,List.length_map,List.length_append,List.length_singleton]
   simp (disch:=omega) only[cW,aJ,ld]
   simp only[eW] at he
   cases put<;>cases hk:dI a x<;>cases hs:lq a x<;>simp only[ld,me]<;>simp[hk,hs] at he hb<;>exact hn _ _ (by simp at hb ⊢;omega) (by simpa using he)
 exact key false [] (by simp) rfl
@[simp] theorem L4 (l:List Key) (hl:l.length≤1073741824) (b a k c g:Int) (q:RR):aa C cC [.c (.sub 5 (l.map bM)),.ag [iI b,iI a,iI k,iI c,iI g]] (.c (.sub 5 q)) []↔q=(eX l ⟨b,a,k,c,g⟩).map bM:=Qx (o5 l ⟨b,a,k,c,g⟩ hl)
theorem Dl (old new:List Key) (hl:old.length+new.length≤1073741824):aa C dR [cJ old,cJ new] (cJ (cD old new)) []:=by
 refine(GD _ _ _ ?_).run
 rw[jQ,cW (by simp;omega)]
 refine ai rfl ?_
 have key: ∀(acc:List Key),acc.length+(new.drop 0).length≤old.length+new.length→cD acc (new.drop 0)=cD old new→ah C dR aj 4 0 (jI (new.map bM) ((0:Nat):Int) (acc.map bM)) (fun u st=>aF C dR aj u st fun r fs=>r=(cJ (cD old new))∧fs=[]):=by
  refine bD new (fun i=> ∀(acc:List Key),acc.length+(new.drop i).length≤old.length+new.length→cD acc (new.drop i)=cD old new→ah C dR aj 4 0 (jI (new.map bM) i (acc.map bM)) (fun u st=>aF C dR aj u st fun r fs=>r=(cJ (cD old new))∧fs=[])) ?_ ?_
  ·intro acc h0 h1
   refine uk _ _ _ _ (aq (by simp) (DL _ _ _ _ _ ?_))
   rw[List.drop_length] at h1
   rw[←h1]
   exact⟨rfl,by first|rfl|trivial⟩
  ·intro i a hi ha hd ht hn acc h0 h1
   refine uk _ _ _ _ (ai (by simp;omega) ?_)
   rw[hd] at h0 h1
   simp only[List.length_cons] at h0
   simp only[jN,L3 acc (by omega),aL,ha,Option.some.injEq,exists_eq_left',exists_eq_left,bJ,dU,fq,de,dW,c7,dX,dY,fu,cr,natAdd,List.length_map,List.length_append,List.length_singleton,Bool.true_and,Bool.and_true]
   rw[aJ (by omega)]
   have h2:=nI acc a
   exact hn _ (by omega) (by rw[←h1];rfl)
 exact key old (by simp) rfl
theorem FE (old new:List Key) (hl:old.length+new.length≤1073741824) (q:RR):aa C dR [cJ old,cJ new] (.c (.sub 5 q)) []↔q=(cD old new).map bM:=Qx (Dl old new hl)
theorem wh (l:List Key) (hl:l.length≤1073741824):aa C bU [cJ l] (cJ (mX l)) []:=by
 refine(Q4 _ _ ?_).run
 have key: ∀(acc:List Key),acc.length+(l.drop 0).length≤l.length→acc++mX (l.drop 0)=mX l→ah C bU aj 4 0 (mO (l.map bM) ((0:Nat):Int) (acc.map bM)) (fun u st=>aF C bU aj u st fun r fs=>r=(cJ (mX l))∧fs=[]):=by
  refine bD l (fun i=> ∀(acc:List Key),acc.length+(l.drop i).length≤l.length→acc++mX (l.drop i)=mX l→ah C bU aj 4 0 (mO (l.map bM) i (acc.map bM)) (fun u st=>aF C bU aj u st fun r fs=>r=(cJ (mX l))∧fs=[])) ?_ ?_
  ·intro acc h0 h1
   refine CQ _ _ _ _ (aq (by simp) (Mm _ _ _ _ _ ?_))
   rw[List.drop_length] at h1
   simp[mX] at h1
   simp[mX,h1]
  ·intro i a hi ha hd ht hn acc h0 h1
   refine CQ _ _ _ _ (ai (by simp;omega) ?_)
   rw[hd] at h0 h1
   simp only[List.length_cons] at h0
   simp only[jN,uJ,lS,aP,bF,aL,ha,Option.some.injEq,exists_eq_left',exists_eq_left,bJ,dU,fq,de,dW,c7,dX,dY,fu,cr,natAdd,List.length_map,List.length_append,List.length_singleton,Bool.true_and,Bool.and_true]
   simp (disch:=omega) only[cW,aJ,ld]
   by_cases hk:a.k=0
   ·rw[if_pos hk]
    exact hn _ (by omega) (by rw[←h1];simp[mX,hk])
   ·rw[if_neg hk]
    exact hn (acc++[a]) (by simp only[List.length_append,List.length_singleton];omega) (by rw[←h1];simp[mX,hk])
 exact key [] (by simp) rfl
theorem uQ (n:List (List Key)) (hb:n.length≤1073741824) (hl:tot bH n≤1073741824):aa C aI [fK n] (cJ (aR n)) []:=by
 refine(IQ _ _ ?_).run
 have key: ∀(acc:List Key),acc.length+tot bH (n.drop 0)≤tot bH n→(n.drop 0).foldl cD acc=sV n→ah C aI aj 4 0 (kJ ((0:Nat):Int) (n.map cc) (acc.map bM)) (fun u st=>aF C aI aj u st fun r fs=>r=(cJ (aR n))∧fs=[]):=by
  refine bD n (fun i=> ∀(acc:List Key),acc.length+tot bH (n.drop i)≤tot bH n→(n.drop i).foldl cD acc=sV n→ah C aI aj 4 0 (kJ i (n.map cc) (acc.map bM)) (fun u st=>aF C aI aj u st fun r fs=>r=(cJ (aR n))∧fs=[])) ?_ ?_
  ·intro acc h0 h1
   refine vJ _ _ _ _ (aq (by simp) (EY _ _ _ _ _ ?_))
   rw[List.drop_length] at h0 h1
   simp only[List.foldl_nil] at h1
   refine⟨_,wh acc (by omega),?_⟩
   rw[h1]
   exact⟨rfl,by first|rfl|trivial⟩
  ·intro i a hi ha hd ht hn acc h0 h1
   refine vJ _ _ _ _ (ai (by simp;omega) ?_)
   rw[hd] at h0 h1
   simp only[tot,bH] at h0
   simp only[qR,FE acc a (by omega),aL,ha,Option.some.injEq,exists_eq_left',exists_eq_left,bJ,dU,fq,de,dW,c7,dX,dY,fu,cr,natAdd,List.length_map,List.length_append,List.length_singleton,Bool.true_and,Bool.and_true]
   rw[aJ (by omega)]
   have h2:=q8 a acc
   exact hn _ (by omega) (by rw[←h1];rfl)
 exact key [] (by simp) rfl
theorem eo (n:List (List Key)) (hb:n.length≤1073741824) (hl:tot bH n≤1073741824) (q:RR):aa C aI [.ag [.sub 1 (n.map cc)]] (.c (.sub 5 q)) []↔q=(aR n).map bM:=Qx (uQ n hb hl)
theorem qp (t:Tree) (hl:cZ t≤1073741824):aa C dZ [dj t] (cJ (bu t)) []:=by
 refine(IL _ _ _ ?_).run
 have key: ∀(acc:List Key),acc.length+tot aQ (t.nodes.drop 0)≤tot aQ t.nodes→acc++(t.nodes.drop 0).flatMap aR=bu t→ah C dZ aj 4 0 (kH ((0:Nat):Int) (t.lows.map bP) (t.nodes.map aX) (acc.map bM)) (fun u st=>aF C dZ aj u st fun r fs=>r=(cJ (bu t))∧fs=[]):=by
  refine bD t.nodes (fun i=> ∀(acc:List Key),acc.length+tot aQ (t.nodes.drop i)≤tot aQ t.nodes→acc++(t.nodes.drop i).flatMap aR=bu t→ah C dZ aj 4 0 (kH i (t.lows.map bP) (t.nodes.map aX) (acc.map bM)) (fun u st=>aF C dZ aj u st fun r fs=>r=(cJ (bu t))∧fs=[])) ?_ ?_
  ·intro acc h0 h1
   refine vH _ _ _ _ _ (aq (by simp) (EX _ _ _ _ _ _ ?_))
   rw[List.drop_length] at h1
   simp at h1
   simp[h1]
  ·intro i a hi ha hd ht hn acc h0 h1
   refine vH _ _ _ _ _ (ai (by have:=hi;unfold cZ qk at hl;simp;omega) ?_)
   have hz:a.length+tot bH a≤tot aQ t.nodes:=j8 (w:=aQ) ha
   rw[hd] at h0 h1
   simp only[tot,aQ] at h0
   unfold cZ qk at hl
   have h2:=cP a
   simp only[SY,qj,eo a (by omega) (by omega),jQ,aL,ha,Option.some.injEq,exists_eq_left',exists_eq_left,bJ,dU,fq,de,dW,c7,dX,dY,fu,cr,natAdd,List.length_map,List.length_append,List.length_singleton,Bool.true_and,Bool.and_true]
   rw[cW (by omega),aJ (by omega)]
   refine ai rfl ?_
   rw[←List.map_append]
   exact hn _ (by simp;omega) (by rw[←h1];simp)
 exact key [] (by simp) rfl
theorem Hp (t:Tree) (b:Int) (hl:cZ t≤1073741824):aa C gh [dj t,vI b] (cJ (fe t b)) []:=by
 refine(Nl _ _ _ _ ?_).run
 refine⟨_,qp t hl,?_⟩
 have key: ∀(acc:List Key),acc.length+((bu t).drop 0).length≤(bu t).length→acc++((bu t).drop 0).filter (fun k=>decide (k.b=b))=fe t b→ah C gh aH 4 0 (jW b ((0:Nat):Int) (acc.map bM) ((bu t).map bM)) (fun u st=>aF C gh aH u st fun r fs=>r=(cJ (fe t b))∧fs=[]):=by
  refine bD (bu t) (fun i=> ∀(acc:List Key),acc.length+((bu t).drop i).length≤(bu t).length→acc++((bu t).drop i).filter (fun k=>decide (k.b=b))=fe t b→ah C gh aH 4 0 (jW b i (acc.map bM) ((bu t).map bM)) (fun u st=>aF C gh aH u st fun r fs=>r=(cJ (fe t b))∧fs=[])) ?_ ?_
  ·intro acc h0 h1
   refine AG _ _ _ _ _ (aq (by simp) (Ju _ _ _ _ _ _ ?_))
   rw[List.drop_length] at h1
   simp at h1
   simp[h1]
  ·intro i a hi ha hd ht hn acc h0 h1
   refine AG _ _ _ _ _ (ai (by simp;omega) ?_)
   rw[hd] at h0 h1
   simp only[List.length_cons] at h0
   have hz:=j9 t
   simp only[jN,uJ,lS,aP,bF,aL,ha,Option.some.injEq,exists_eq_left',exists_eq_left,bJ,dU,fq,de,dW,c7,dX,dY,fu,cr,natAdd,List.length_map,List.length_append,List.length_singleton,Bool.true_and,Bool.and_true]
   simp (disch:=omega) only[cW,aJ,ld]
   by_cases hk:a.b=b
   ·rw[if_pos hk]
    exact hn (acc++[a]) (by simp only[List.length_append,List.length_singleton];omega) (by rw[←h1];simp[hk])
   ·rw[if_neg hk]
    exact hn _ (by omega) (by rw[←h1];simp[hk])
 exact key [] (by simp) rfl
theorem mY (l:List Key) (hl:l.length≤2147483648):aa C mN [cJ l] (cJ l) []:=by
 refine(Ic _ _ ?_).run
 rw[jQ,cW (by simp;omega)]
 exact⟨rfl,by first|rfl|trivial⟩
theorem Dm (old new:List Key) (hl:old.length+new.length≤1073741824):aa C dS [cJ old,cJ new] (cJ (cD old new)) []:=by
 refine(Gh _ _ _ ?_).run
 refine⟨_,mY old (by omega),?_⟩
 have key: ∀(acc:List Key),acc.length+(new.drop 0).length≤old.length+new.length→cD acc (new.drop 0)=cD old new→ah C dS aj 4 0 (jH (new.map bM) ((0:Nat):Int) (acc.map bM)) (fun u st=>aF C dS aj u st fun r fs=>r=(cJ (cD old new))∧fs=[]):=by
  refine bD new (fun i=> ∀(acc:List Key),acc.length+(new.drop i).length≤old.length+new.length→cD acc (new.drop i)=cD old new→ah C dS aj 4 0 (jH (new.map bM) i (acc.map bM)) (fun u st=>aF C dS aj u st fun r fs=>r=(cJ (cD old new))∧fs=[])) ?_ ?_
  ·intro acc h0 h1
   refine ue _ _ _ _ (aq (by simp) (DG _ _ _ _ _ _ ?_))
   rw[List.drop_length] at h1
   rw[←h1]
   exact⟨rfl,by first|rfl|trivial⟩
  ·intro i a hi ha hd ht hn acc h0 h1
   refine ue _ _ _ _ (ai (by simp;omega) ?_)
   rw[hd] at h0 h1
   simp only[List.length_cons] at h0
   simp only[jN,L4 acc (by omega),aL,ha,Option.some.injEq,exists_eq_left',exists_eq_left,bJ,dU,fq,de,dW,c7,dX,dY,fu,cr,natAdd,List.length_map,List.length_append,List.length_singleton,Bool.true_and,Bool.and_true]
   rw[aJ (by omega)]
   have h2:=nI acc a
   exact hn _ (by omega) (by rw[←h1];rfl)
 exact key old (by simp) rfl
theorem FF (old new:List Key) (hl:old.length+new.length≤1073741824) (q:RR):aa C dS [cJ old,cJ new] (.c (.sub 5 q)) []↔q=(cD old new).map bM:=Qx (Dm old new hl)
theorem CI (l:List Key) (hl:l.length≤1073741824):aa C iN [cJ l] (cJ (mX l)) []:=by
 refine(Q6 _ _ ?_).run
 have key: ∀(acc:List Key),acc.length+(l.drop 0).length≤l.length→acc++mX (l.drop 0)=mX l→ah C iN aj 4 0 (mP (l.map bM) ((0:Nat):Int) (acc.map bM)) (fun u st=>aF C iN aj u st fun r fs=>r=(cJ (mX l))∧fs=[]):=by
  refine bD l (fun i=> ∀(acc:List Key),acc.length+(l.drop i).length≤l.length→acc++mX (l.drop i)=mX l→ah C iN aj 4 0 (mP (l.map bM) i (acc.map bM)) (fun u st=>aF C iN aj u st fun r fs=>r=(cJ (mX l))∧fs=[])) ?_ ?_
  ·intro acc h0 h1
   refine CR _ _ _ _ (aq (by simp) (MK _ _ _ _ _ _ ?_))
   rw[List.drop_length] at h1
   simp[mX] at h1
   simp[mX,h1]
  ·intro i a hi ha hd ht hn acc h0 h1
   refine CR _ _ _ _ (ai (by simp;omega) ?_)
   rw[hd] at h0 h1
   simp only[List.length_cons] at h0
   simp only[jN,uJ,lS,aP,bF,aL,ha,Option.some.injEq,exists_eq_left',exists_eq_left,bJ,dU,fq,de,dW,c7,dX,dY,fu,cr,natAdd,List.length_map,List.length_append,List.length_singleton,Bool.true_and,Bool.and_true]
   simp (disch:=omega) only[cW,aJ,ld]
   by_cases hk:a.k=0
   ·rw[if_pos hk]
    exact hn _ (by omega) (by rw[←h1];simp[mX,hk])
   ·rw[if_neg hk]
    exact hn (acc++[a]) (by simp only[List.length_append,List.length_singleton];omega) (by rw[←h1];simp[mX,hk])
 exact key [] (by simp) rfl
theorem EA (n:List (List Key)) (hb:n.length≤1073741824) (hl:tot bH n≤1073741824):aa C cn [fK n] (cJ (aR n)) []:=by
 refine(IS _ _ ?_).run
 have key: ∀(acc:List Key),acc.length+tot bH (n.drop 0)≤tot bH n→(n.drop 0).foldl cD acc=sV n→ah C cn aj 4 0 (kK (n.map cc) ((0:Nat):Int) (acc.map bM)) (fun u st=>aF C cn aj u st fun r fs=>r=(cJ (aR n))∧fs=[]):=by
  refine bD n (fun i=> ∀(acc:List Key),acc.length+tot bH (n.drop i)≤tot bH n→(n.drop i).foldl cD acc=sV n→ah C cn aj 4 0 (kK (n.map cc) i (acc.map bM)) (fun u st=>aF C cn aj u st fun r fs=>r=(cJ (aR n))∧fs=[])) ?_ ?_
  ·intro acc h0 h1
   refine vK _ _ _ _ (aq (by simp) (EZ _ _ _ _ _ _ ?_))
   rw[List.drop_length] at h0 h1
   simp only[List.foldl_nil] at h1
   refine⟨_,CI acc (by omega),?_⟩
   rw[h1]
   exact⟨rfl,by first|rfl|trivial⟩
  ·intro i a hi ha hd ht hn acc h0 h1
   refine vK _ _ _ _ (ai (by simp;omega) ?_)
   rw[hd] at h0 h1
   simp only[tot,bH] at h0
   simp only[qR,FF acc a (by omega),aL,ha,Option.some.injEq,exists_eq_left',exists_eq_left,bJ,dU,fq,de,dW,c7,dX,dY,fu,cr,natAdd,List.length_map,List.length_append,List.length_singleton,Bool.true_and,Bool.and_true]
   rw[aJ (by omega)]
   have h2:=q8 a acc
   exact hn _ (by omega) (by rw[←h1];rfl)
 exact key [] (by simp) rfl
theorem iY (n:List (List Key)) (hb:n.length≤1073741824) (hl:tot bH n≤1073741824) (q:RR):aa C cn [.ag [.sub 1 (n.map cc)]] (.c (.sub 5 q)) []↔q=(aR n).map bM:=Qx (EA n hb hl)
theorem uR (t:Tree) (hl:cZ t≤1073741824):aa C ey [dj t] (cJ (bu t)) []:=by
 refine(Ip _ _ _ ?_).run
 have key: ∀(acc:List Key),acc.length+tot aQ (t.nodes.drop 0)≤tot aQ t.nodes→acc++(t.nodes.drop 0).flatMap aR=bu t→ah C ey aj 4 0 (kE (t.nodes.map aX) ((0:Nat):Int) (acc.map bM)) (fun u st=>aF C ey aj u st fun r fs=>r=(cJ (bu t))∧fs=[]):=by
  refine bD t.nodes (fun i=> ∀(acc:List Key),acc.length+tot aQ (t.nodes.drop i)≤tot aQ t.nodes→acc++(t.nodes.drop i).flatMap aR=bu t→ah C ey aj 4 0 (kE (t.nodes.map aX) i (acc.map bM)) (fun u st=>aF C ey aj u st fun r fs=>r=(cJ (bu t))∧fs=[])) ?_ ?_
  ·intro acc h0 h1
   refine vA _ _ _ _ (aq (by simp) (EO _ _ _ _ _ _ ?_))
   rw[List.drop_length] at h1
   simp at h1
   simp[h1]
  ·intro i a hi ha hd ht hn acc h0 h1
   refine vA _ _ _ _ (ai (by have:=hi;unfold cZ qk at hl;simp;omega) ?_)
   have hz:a.length+tot bH a≤tot aQ t.nodes:=j8 (w:=aQ) ha
   rw[hd] at h0 h1
   simp only[tot,aQ] at h0
   unfold cZ qk at hl
   have h2:=cP a
   simp only[SY,qj,iY a (by omega) (by omega),jQ,aL,ha,Option.some.injEq,exists_eq_left',exists_eq_left,bJ,dU,fq,de,dW,c7,dX,dY,fu,cr,natAdd,List.length_map,List.length_append,List.length_singleton,Bool.true_and,Bool.and_true]
   rw[cW (by omega),aJ (by omega)]
   refine ai rfl ?_
   rw[←List.map_append]
   exact hn _ (by simp;omega) (by rw[←h1];simp)
 exact key [] (by simp) rfl
theorem Hq (t:Tree) (b:Int) (hl:cZ t≤1073741824):aa C gi [dj t,vI b] (cJ (fe t b)) []:=by
 refine(MN _ _ _ _ ?_).run
 refine⟨_,uR t hl,?_⟩
 have key: ∀(acc:List Key),acc.length+((bu t).drop 0).length≤(bu t).length→acc++((bu t).drop 0).filter (fun k=>decide (k.b=b))=fe t b→ah C gi aj 4 0 (jR b ((bu t).map bM) ((0:Nat):Int) (acc.map bM)) (fun u st=>aF C gi aj u st fun r fs=>r=(cJ (fe t b))∧fs=[]):=by
  refine bD (bu t) (fun i=> ∀(acc:List Key),acc.length+((bu t).drop i).length≤(bu t).length→acc++((bu t).drop i).filter (fun k=>decide (k.b=b))=fe t b→ah C gi aj 4 0 (jR b ((bu t).map bM) i (acc.map bM)) (fun u st=>aF C gi aj u st fun r fs=>r=(cJ (fe t b))∧fs=[])) ?_ ?_
  ·intro acc h0 h1
   refine Ac _ _ _ _ _ (aq (by simp) (IE _ _ _ _ _ _ _ ?_))
   rw[List.drop_length] at h1
   simp at h1
   simp[h1]
  ·intro i a hi ha hd ht hn acc h0 h1
   refine Ac _ _ _ _ _ (ai (by simp;omega) ?_)
   rw[hd] at h0 h1
   simp only[List.length_cons] at h0
   have hz:=j9 t
   simp only[jN,uJ,lS,aP,bF,aL,ha,Option.some.injEq,exists_eq_left',exists_eq_left,bJ,dU,fq,de,dW,c7,dX,dY,fu,cr,natAdd,List.length_map,List.length_append,List.length_singleton,Bool.true_and,Bool.and_true]
   simp (disch:=omega) only[cW,aJ,ld]
   by_cases hk:a.b=b
   ·rw[if_pos hk]
    exact hn (acc++[a]) (by simp only[List.length_append,List.length_singleton];omega) (by rw[←h1];simp[hk])
   ·rw[if_neg hk]
    exact hn _ (by omega) (by rw[←h1];simp[hk])
 exact key [] (by simp) rfl
theorem tH (l:List Age) (id:Int) (hl:l.length≤1073741824):aa C dG [ji l,vI id] (vI (gT l id)) []:=by
 refine(Pd _ _ _ ?_).run
 have key:gy (fun a:Age=>decide (a.id=id)) (l.drop 0) ((0:Nat):Int)=gy (fun a:Age=>decide (a.id=id)) l 0→ah C dG ak 4 0 (nK (l.map ek) id ((0:Nat):Int)) (fun u st=>aF C dG ak u st fun r fs=>r=vI (gT l id)∧fs=[]):=by
  refine bD l (fun i=>gy (fun a:Age=>decide (a.id=id)) (l.drop i) (i:Int)=gy (fun a:Age=>decide (a.id=id)) l 0→ah C dG ak 4 0 (nK (l.map ek) id i) _) ?_ ?_
  ·intro h0
   refine B1 _ _ _ _ (aq (by simp) (K8 _ _ _ _ _ ?_))
   rw[List.drop_length] at h0
   simp only[gy] at h0
   change _=vI (gy (fun a:Age=>decide (a.id=id)) l 0)∧_
   rw[←h0]
   exact⟨rfl,by first|rfl|trivial⟩
  ·intro i a hi ha hd htk hn h0
   refine B1 _ _ _ _ (ai (by simp;omega) ?_)
   rw[hd] at h0
   simp only[gy] at h0
   simp only[rP,aP,bF,aL,ha,Option.some.injEq,exists_eq_left',exists_eq_left,bJ,dU,fq,de,dW,c7,dX,dY,fu,cr,natAdd,List.length_map,List.length_append,List.length_singleton,Bool.true_and,Bool.and_true]
   rw[aJ (by omega)]
   split at h0
   ·rename_i hp
    have hp:=of_decide_eq_true hp
    first|rw[if_pos hp]|rw[if_pos hp.symm]
    refine K7 _ _ ?_
    rw[h0]
    exact⟨rfl,by first|rfl|trivial⟩
   ·rename_i hp
    have hp: ¬_:=fun h=>hp (decide_eq_true h)
    first|rw[if_neg hp]|rw[if_neg (fun h=>hp h.symm)]
    exact hn h0
 exact key rfl
@[simp] theorem KQ (a b id:Int) (q:Bool):aa C sK [.ag [iI a,iI b],.bx [iI id]] (vB q) []↔q=decide (a=id):=qS (by
  refine(LF _ _ _ _ ?_).run
  simp)
theorem L5 (l:List Age) (id:Int) (hl:l.length≤1073741824):aa C cu [ji l,.fn sK [[iI id]]] (vI (gT l id)) []:=by
 refine(oV _ _ _ ?_).run
 have key:gy (fun a:Age=>decide (a.id=id)) (l.drop 0) ((0:Nat):Int)=gy (fun a:Age=>decide (a.id=id)) l 0→ah C cu ak 4 0 (cR (l.map ek) ((0:Nat):Int) id) (fun u st=>aF C cu ak u st fun r fs=>r=vI (gT l id)∧fs=[]):=by
  refine bD l (fun i=>gy (fun a:Age=>decide (a.id=id)) (l.drop i) (i:Int)=gy (fun a:Age=>decide (a.id=id)) l 0→ah C cu ak 4 0 (cR (l.map ek) i id) _) ?_ ?_
  ·intro h0
   refine iW _ _ _ _ (aq (by simp) (oC _ _ _ _ _ _ ?_))
   rw[List.drop_length] at h0
   simp only[gy] at h0
   change _=vI (gy (fun a:Age=>decide (a.id=id)) l 0)∧_
   rw[←h0]
   exact⟨rfl,by first|rfl|trivial⟩
  ·intro i a hi ha hd htk hn h0
   refine iW _ _ _ _ (ai (by simp;omega) ?_)
   rw[hd] at h0
   simp only[gy] at h0
   simp only[rP,aP,KQ,bF,aL,ha,Option.some.injEq,exists_eq_left',exists_eq_left,bJ,dU,fq,de,dW,c7,dX,dY,fu,cr,natAdd,List.length_map,List.length_append,List.length_singleton,Bool.true_and,Bool.and_true]
   rw[aJ (by omega)]
   split at h0
   ·rename_i hp
    have hp:=of_decide_eq_true hp
    first|rw[if_pos hp]|rw[if_pos hp.symm]
    refine oB _ _ _ ?_
    rw[h0]
    exact⟨rfl,by first|rfl|trivial⟩
   ·rename_i hp
    have hp: ¬_:=fun h=>hp (decide_eq_true h)
    first|rw[if_neg hp]|rw[if_neg (fun h=>hp h.symm)]
    exact hn h0
 exact key rfl
theorem BH (l:List Age) (id:Int) (hl:l.length≤1073741824):aa C iX [ji l,vI id] (vI (gT l id)) []:=(Pn _ _ _ ⟨_,L5 l id hl,rfl,by first|rfl|trivial⟩).run
theorem yu (l:List Age) (id:Int) (hl:l.length≤1073741824) (q:Int):aa C dG [ji l,vI id] (vI q) []↔q=gT l id:=Vr (tH l id hl)
theorem yw (l:List Age) (id:Int) (hl:l.length≤1073741824) (q:Int):aa C iX [ji l,vI id] (vI q) []↔q=gT l id:=Vr (BH l id hl)
theorem Hr (l:List Age) (id:Int) (hl:l.length≤1073741824):aa C iE [ji l,vI id] (j6 (pathOf l id)) []:=by
 refine(Nk _ _ _ ⟨_,tH l id hl,?_⟩).run
 have key: ∀(n:Nat) (id':Int) (acc:List Int),acc.length+n=l.length+1→acc++Bh l n id'=pathOf l id→ah C iE pZ 4 0 (pO (l.map ek) (gT l id') (acc.map bP)) (fun u st=>aF C iE pZ u st fun r fs=>r=j6 (pathOf l id)∧fs=[]):=by
  intro n
  induction n with
  |zero=>
   intro id' acc h0 h1
   simp only[Bh,List.append_nil] at h1
   refine r6 _ _ _ _ (nF (fun _=> ?_) fun _=>AF _ _ _ _ (by rw[h1];exact⟨rfl,by first|rfl|trivial⟩))
   exact aq (by simp;omega) (Js _ _ _ _ _ (by rw[h1];exact⟨rfl,by first|rfl|trivial⟩))
  |succ n ih=>
   intro id' acc h0 h1
   simp only[Bh] at h1
   by_cases h:gT l id'<0
   ·rw[if_pos h,List.append_nil] at h1
    exact r6 _ _ _ _ (aq (by simp;omega) (AF _ _ _ _ (by rw[h1];exact⟨rfl,by first|rfl|trivial⟩)))
   ·rw[if_neg h] at h1
    obtain⟨a,ha,he⟩:=NX l id' h
    rw[ha] at h1
    refine r6 _ _ _ _ (ai (by simp;omega) (ai (by simp;omega) ?_))
    simp only[rP,ha,Option.some.injEq,exists_eq_left',OQ,Bool.true_and,cr,List.length_map]
    rw[cW (by omega)]
    refine ai rfl ⟨_,tH l a.fr hl,?_⟩
    rw[JI]
    exact ih a.fr (acc++[a.id]) (by simp;omega) (by rw[←h1,he];simp)
 exact key (l.length+1) id [] (by simp) rfl
theorem Hs (l:List Age) (id:Int) (hl:l.length≤1073741824):aa C iF [ji l,vI id] (j6 (pathOf l id)) []:=by
 refine(MM _ _ _ ?_).run
 have key: ∀(n:Nat) (id':Int) (acc:List Int) (k:Nat),k+n=l.length+1→acc.length=k→acc++Bh l n id'=pathOf l id→ah C iF aj 4 0 (pF (l.map ek) id' k (acc.map bP)) (fun u st=>aF C iF aj u st fun r fs=>r=j6 (pathOf l id)∧fs=[]):=by
  intro n
  induction n with
  |zero=>
   intro id' acc k h0 h2 h1
   simp only[Bh,List.append_nil] at h1
   refine Ab _ _ _ _ _ (aq ?_ (ID _ _ _ _ _ _ _ (by rw[h1];exact⟨rfl,by first|rfl|trivial⟩)))
   rw[aJ (by simp;omega)];simp;omega
  |succ n ih=>
   intro id' acc k h0 h2 h1
   simp only[Bh] at h1
   refine Ab _ _ _ _ _ (ai (by rw[aJ (by simp;omega)];simp;omega) ⟨_,BH l id' hl,?_⟩)
   by_cases h:gT l id'<0
   ·rw[if_pos h,List.append_nil] at h1
    exact ai (by simp;omega) (IC _ _ _ _ _ _ _ _ (by rw[h1];exact⟨rfl,by first|rfl|trivial⟩))
   ·rw[if_neg h] at h1
    obtain⟨a,ha,he⟩:=NX l id' h
    rw[ha] at h1
    refine aq (by simp;omega) ?_
    simp only[rP,ha,Option.some.injEq,exists_eq_left',OQ,Bool.true_and,cr,List.length_map]
    rw[cW (by omega)]
    refine ai rfl ?_
    rw[JI,aJ (by omega)]
    exact ih a.fr (acc++[id']) (k+1) (by omega) (by simp;omega) (by rw[←h1];simp)
 exact key (l.length+1) id [] 0 (by simp) rfl rfl
theorem KR (l:List Int) (n:Int) (hl:l.length≤1073741824):aa C gZ [j6 l,vI n] (vB (Ek l n)) []:=by
 refine(Pf _ _ _ ?_).run
 have key:(l.drop 0).any (fun a:Int=>decide (a=n))=l.any (fun a:Int=>decide (a=n))→ah C gZ ak 4 0 (nL (l.map bP) n ((0:Nat):Int)) (fun u st=>aF C gZ ak u st fun r fs=>r=vB (Ek l n)∧fs=[]):=by
  refine bD l (fun i=>(l.drop i).any (fun a:Int=>decide (a=n))=l.any (fun a:Int=>decide (a=n))→ah C gZ ak 4 0 (nL (l.map bP) n i) _) ?_ ?_
  ·intro h0
   refine B2 _ _ _ _ (aq (by simp) (Ld _ _ _ _ _ ?_))
   rw[List.drop_length] at h0
   simp only[List.any_nil] at h0
   show _=vB (Ek l n)∧_
   first|unfold Ek|unfold Xl|skip
   rw[←h0]
   exact⟨rfl,by first|rfl|trivial⟩
  ·intro i a hi ha hd htk hn h0
   refine B2 _ _ _ _ (ai (by simp;omega) ?_)
   rw[hd] at h0
   simp only[List.any_cons] at h0
   simp only[rO,aP,bF,aL,ha,Option.some.injEq,exists_eq_left',exists_eq_left,bJ,dU,fq,de,dW,c7,dX,dY,fu,cr,natAdd,List.length_map,List.length_append,List.length_singleton,Bool.true_and,Bool.and_true]
   rw[aJ (by omega)]
   split
   ·rename_i hp
    refine Lc _ ?_
    have e:l.any (fun a:Int=>decide (a=n))=true:=by rw[←h0];simp[hp]
    first|unfold Ek|unfold Xl|skip
    rw[e]
    exact⟨rfl,by first|rfl|trivial⟩
   ·rename_i hp
    exact hn (by simpa [hp] using h0)
 exact key rfl
theorem QW (l:List Int) (n:Int) (hl:l.length≤1073741824):aa C dn [j6 l,vI n] (vI (gy (fun a:Int=>decide (a=n)) l 0)) []:=by
 refine(DM _ _ _ ?_).run
 have key:gy (fun a:Int=>decide (a=n)) (l.drop 0) ((0:Nat):Int)=gy (fun a:Int=>decide (a=n)) l 0→ah C dn ak 4 0 (iG (l.map bP) n ((0:Nat):Int)) (fun u st=>aF C dn ak u st fun r fs=>r=vI (gy (fun a:Int=>decide (a=n)) l 0)∧fs=[]):=by
  refine bD l (fun i=>gy (fun a:Int=>decide (a=n)) (l.drop i) (i:Int)=gy (fun a:Int=>decide (a=n)) l 0→ah C dn ak 4 0 (iG (l.map bP) n i) _) ?_ ?_
  ·intro h0
   refine rJ _ _ _ _ (aq (by simp) (Ca _ _ _ _ _ _ ?_))
   rw[List.drop_length] at h0
   simp only[gy] at h0
   change _=vI (gy (fun a:Int=>decide (a=n)) l 0)∧_
   rw[←h0]
   exact⟨rfl,by first|rfl|trivial⟩
  ·intro i a hi ha hd htk hn h0
   refine rJ _ _ _ _ (ai (by simp;omega) ?_)
   rw[hd] at h0
   simp only[gy] at h0
   simp only[rO,aP,bF,aL,ha,Option.some.injEq,exists_eq_left',exists_eq_left,bJ,dU,fq,de,dW,c7,dX,dY,fu,cr,natAdd,List.length_map,List.length_append,List.length_singleton,Bool.true_and,Bool.and_true]
   rw[aJ (by omega)]
   split at h0
   ·rename_i hp
    have hp:=of_decide_eq_true hp
    first|rw[if_pos hp]|rw[if_pos hp.symm]
    refine B9 _ _ ?_
    rw[h0]
    exact⟨rfl,by first|rfl|trivial⟩
   ·rename_i hp
    have hp: ¬_:=fun h=>hp (decide_eq_true h)
    first|rw[if_neg hp]|rw[if_neg (fun h=>hp h.symm)]
    exact hn h0
 exact key rfl
theorem O5 (l:List Int) (n:Int) (hl:l.length≤1073741824):aa C kW [j6 l,vI n] (vB (Ek l n)) []:=by
 refine(AN _ _ _ ⟨_,QW l n hl,?_⟩).run
 rw[gX,Kz _ _ _ (by omega)]
 exact⟨rfl,by first|rfl|trivial⟩
theorem Ht (t:Tree) (b:Int) (path:List Int) (hl:cZ t≤1073741824) (hp:path.length≤1073741824):aa C eO [dj t,vI b,j6 path] (NZ (near (fe t b) path)) []:=by
 refine(Ms _ _ _ _ _ ?_).run
 refine⟨_,Hp t b hl,?_⟩
 have key: ∀(pr:Key×Bool),((fe t b).drop 0).foldl (El path) pr=near (fe t b) path→ah C eO mj 4 0 (gJ (path.map bP) pr.2 ((0:Nat):Int) pr.1.b pr.1.a pr.1.k pr.1.c pr.1.g ((fe t b).map bM)) (fun u st=>aF C eO mj u st fun r fs=>r=(NZ (near (fe t b) path))∧fs=[]):=by
  refine bD (fe t b) (fun i=> ∀(pr:Key×Bool),((fe t b).drop i).foldl (El path) pr=near (fe t b) path→ah C eO mj 4 0 (gJ (path.map bP) pr.2 i pr.1.b pr.1.a pr.1.k pr.1.c pr.1.g ((fe t b).map bM)) (fun u st=>aF C eO mj u st fun r fs=>r=(NZ (near (fe t b) path))∧fs=[])) ?_ ?_
  ·intro pr h0
   refine zU _ _ _ _ _ _ _ _ _ _ (aq (by simp) (Ie _ _ _ _ _ _ _ _ _ _ _ ?_))
   rw[List.drop_length] at h0
   simp only[List.foldl_nil] at h0
   rw[h0]
   exact⟨rfl,by first|rfl|trivial⟩
  ·intro i a hi ha hd ht hn pr h0
   have hk:=Ky t b
   have hz:=j9 t
   refine zU _ _ _ _ _ _ _ _ _ _ (ai (by simp;omega) ?_)
   rw[hd] at h0
   simp only[List.foldl_cons] at h0
   obtain⟨bk,bf⟩:=pr
   have hh: ∀q,aa C gZ [j6 path,vI a.a] (vB q) []↔q=Ek path a.a:=fun q=>qS (KR path a.a hp)
   simp only[jN,hh,ez,bF,aL,ha,Option.some.injEq,exists_eq_left',exists_eq_left,bJ,dU,fq,de,dW,c7,dX,dY,fu,cr,natAdd,List.length_map,List.length_append,List.length_singleton,Bool.true_and,Bool.and_true]
   rw[aJ (by omega)]
   have e:El path (bk,bf) a=if Ek path a.a&&(!bf||decide (bk.a<a.a)) then(a,true) else(bk,bf):=rfl
   rw[e] at h0
   cases h1:Ek path a.a<;>cases bf<;>by_cases h2:bk.a<a.a<;>simp[h1,h2] at h0 ⊢ <;>first|exact hn (a,true) h0|exact hn (bk,false) h0|exact hn (bk,true) h0
 exact key (dV,false) rfl
theorem Hu (t:Tree) (b:Int) (path:List Int) (hl:cZ t≤1073741824) (hp:path.length≤1073741824):aa C eP [dj t,vI b,j6 path] (NZ (near (fe t b) path)) []:=by
 refine(MX _ _ _ _ _ ?_).run
 refine⟨_,Hq t b hl,?_⟩
 have key: ∀(pr:Key×Bool),((fe t b).drop 0).foldl (El path) pr=near (fe t b) path→ah C eP aj 4 0 (gK (path.map bP) pr.2 ((fe t b).map bM) ((0:Nat):Int) pr.1.b pr.1.a pr.1.k pr.1.c pr.1.g) (fun u st=>aF C eP aj u st fun r fs=>r=(NZ (near (fe t b) path))∧fs=[]):=by
  refine bD (fe t b) (fun i=> ∀(pr:Key×Bool),((fe t b).drop i).foldl (El path) pr=near (fe t b) path→ah C eP aj 4 0 (gK (path.map bP) pr.2 ((fe t b).map bM) i pr.1.b pr.1.a pr.1.k pr.1.c pr.1.g) (fun u st=>aF C eP aj u st fun r fs=>r=(NZ (near (fe t b) path))∧fs=[])) ?_ ?_
  ·intro pr h0
   refine Al _ _ _ _ _ _ _ _ _ _ (aq (by simp) (IY _ _ _ _ _ _ _ _ _ _ _ _ ?_))
   rw[List.drop_length] at h0
   simp only[List.foldl_nil] at h0
   rw[h0]
   exact⟨rfl,by first|rfl|trivial⟩
  ·intro i a hi ha hd ht hn pr h0
   have hk:=Ky t b
   have hz:=j9 t
   refine Al _ _ _ _ _ _ _ _ _ _ (ai (by simp;omega) ?_)
   rw[hd] at h0
   simp only[List.foldl_cons] at h0
   obtain⟨bk,bf⟩:=pr
   have hh: ∀q,aa C kW [j6 path,vI a.a] (vB q) []↔q=Ek path a.a:=fun q=>qS (O5 path a.a hp)
   simp only[jN,hh,ez,bF,aL,ha,Option.some.injEq,exists_eq_left',exists_eq_left,bJ,dU,fq,de,dW,c7,dX,dY,fu,cr,natAdd,List.length_map,List.length_append,List.length_singleton,Bool.true_and,Bool.and_true]
   rw[aJ (by omega)]
   have e:El path (bk,bf) a=if Ek path a.a&&(!bf||decide (bk.a<a.a)) then(a,true) else(bk,bf):=rfl
   rw[e] at h0
   cases h1:Ek path a.a<;>cases bf<;>by_cases h2:bk.a<a.a<;>simp[h1,h2] at h0 ⊢ <;>first|exact hn (a,true) h0|exact hn (bk,false) h0|exact hn (bk,true) h0
 exact key (dV,false) rfl
@[simp] theorem L6 (a:Int) (q:Bool):aa C Bt [vI a] (vB q) []↔q=Ei a:=qS ((M7 _ _ ⟨_,wL _ _ _,rfl,by first|rfl|trivial⟩).run)
theorem Hv (l:List Cell) (i gen:Int) (hl:l.length≤1073741824):aa C rD [gQ l,vI i,vI gen] (ZK (cellAt l i gen)) []:=by
 refine(MH _ _ _ _ ?_).run
 simp only[BE,exists_eq_left,List.length_map,Int.ofNat_eq_natCast,bJ,oZ]
 rw[dH (by omega)]
 by_cases h:0≤i∧i<l.length
 ·obtain⟨a,ha⟩:=sP h.1 h.2
  have e:jh i 0 ((l.length:Int)-1)=true:=decide_eq_true (by omega)
  simp only[e,ld,ha,Option.some.injEq,exists_eq_left',aP,bF,cellAt]
  cases h1:a.u<;>by_cases h2:a.g=gen<;>simp[h1,h2]
 ·have e:jh i 0 ((l.length:Int)-1)=false:=decide_eq_false (by omega)
  have hn:gP l i=none:=nT h
  simp[e,cellAt,hn]
theorem L7 (l:List Cell) (hl:l.length≤1073741824) (i gen:Int) (n:Int) (q:Bool):aa C rD [gQ l,vI i,vI gen] (.tu [(0,[iI n]),(0,[iB q])]) []↔n=(cellAt l i gen).1∧q=(cellAt l i gen).2:=Xk (Hv l i gen hl)
theorem Dn (l:List Cell) (hl:l.length≤1073741824):aa C dP [gQ l] (vI (bQ l)) []:=by
 refine(GB _ _ ?_).run
 have key: ∀(n:Nat),n+(l.drop 0).length≤l.length→n+bQ (l.drop 0)=bQ l→ah C dP aj 4 0 (hJ (l.map cY) n ((0:Nat):Int)) (fun u st=>aF C dP aj u st fun r fs=>r=(vI (bQ l))∧fs=[]):=by
  refine bD l (fun i=> ∀(n:Nat),n+(l.drop i).length≤l.length→n+bQ (l.drop i)=bQ l→ah C dP aj 4 0 (hJ (l.map cY) n i) (fun u st=>aF C dP aj u st fun r fs=>r=(vI (bQ l))∧fs=[])) ?_ ?_
  ·intro n h0 h1
   refine uh _ _ _ _ (aq (by simp) (DJ _ _ _ _ _ ?_))
   rw[List.drop_length] at h1
   simp[bQ] at h1
   simp[h1,bQ]
  ·intro i a hi ha hd ht hn n h0 h1
   refine uh _ _ _ _ (ai (by simp;omega) ?_)
   rw[hd] at h0 h1
   simp only[List.length_cons] at h0
   simp only[oZ,aL,ha,Option.some.injEq,exists_eq_left',exists_eq_left,bJ,dU,fq,de,dW,c7,dX,dY,fu,cr,natAdd,List.length_map,List.length_append,List.length_singleton,Bool.true_and,Bool.and_true]
   rw[aJ (by omega),aJ (by omega)]
   cases hu:a.u
   ·exact hn n (by omega) (by rw[←h1];simp[bQ,hu])
   ·exact hn (n+1) (by omega) (by rw[←h1];simp[bQ,hu];omega)
 exact key 0 (by simp) (by simp)
theorem FG (l:List Cell) (hl:l.length≤1073741824):aa C dg [gQ l] (vB ((l.all gY&&decide (l.length=24)))) []:=by
 refine(LJ _ _ ?_).run
 have key:((l.drop 0).all gY&&decide (l.length=24))=(l.all gY&&decide (l.length=24))→ah C dg ak 4 0 (ia (l.map cY) ((0:Nat):Int)) (fun u st=>aF C dg ak u st fun r fs=>r=vB ((l.all gY&&decide (l.length=24)))∧fs=[]):=by
  refine bD l (fun i=>((l.drop i).all gY&&decide (l.length=24))=(l.all gY&&decide (l.length=24))→ah C dg ak 4 0 (ia (l.map cY) i) (fun u st=>aF C dg ak u st fun r fs=>r=vB ((l.all gY&&decide (l.length=24)))∧fs=[])) ?_ ?_
  ·intro h0
   refine xK _ _ _ (aq (by simp) (GK _ _ _ _ ?_))
   rw[List.drop_length] at h0
   simp only[List.all_nil,Bool.true_and] at h0
   rw[←h0]
   simp[aP]
   try omega
  ·intro i a hi ha hd htk hn h0
   have gO:gY a=false→(l.all gY&&decide (l.length=24))=false:=fun e=>by rw[←h0,hd];simp[e]
   have gN:gY a=true→ah C dg ak 4 0 (ia (l.map cY) ((i:Int)+1)) (fun u st=>aF C dg ak u st fun r fs=>r=vB ((l.all gY&&decide (l.length=24)))∧fs=[]):=fun e=>hn (by rw[←h0,hd];simp[e])
   refine xK _ _ _ (ai (by simp;omega) ?_)
   simp only[oZ,BE,L6,aP,aL,ha,Option.some.injEq,exists_eq_left',exists_eq_left,bJ,dU,fq,de,dW,c7,dX,dY,fu,cr,natAdd,List.length_map,List.length_append,List.length_singleton,Bool.true_and,Bool.and_true]
   rw[aJ (by omega)]
   cases h1:jh a.g 0 999<;>cases h2:Ei a.n<;>cases h3:a.u<;>by_cases h4:a.n=0<;>simp only[h1,h2,h3,h4,ld,me,decide_true,decide_false,not_true_eq_false,not_false_eq_true,Bool.not_true,Bool.not_false]<;>first|exact gN (by unfold gY;rw[h1,h2,h3];simp[h4])|exact GJ _ (by rw[gO (by unfold gY;rw[h1,h2,h3];simp[h4])];exact⟨rfl,by first|rfl|trivial⟩)
 exact key rfl
theorem BI (l:List Cell) (hl:l.length≤1073741824) (q:Bool):aa C dg [gQ l] (vB q) []↔q=eE l:=qS (FG l hl)
@[simp] theorem L8 (a:Int) (q:Bool):aa C Bu [vI a] (vB q) []↔q=Ei a:=qS ((Mh _ _ ⟨_,qW _ _ _,rfl,by first|rfl|trivial⟩).run)
theorem Hw (l:List Cell) (i gen:Int) (hl:l.length≤1073741824):aa C rE [gQ l,vI i,vI gen] (ZK (cellAt l i gen)) []:=by
 refine(MI _ _ _ _ ?_).run
 simp only[rG,exists_eq_left,List.length_map,Int.ofNat_eq_natCast,bJ,oZ]
 rw[dH (by omega)]
 by_cases h:0≤i∧i<l.length
 ·obtain⟨a,ha⟩:=sP h.1 h.2
  have e:jh i 0 ((l.length:Int)-1)=true:=decide_eq_true (by omega)
  simp only[e,ld,ha,Option.some.injEq,exists_eq_left',aP,bF,cellAt]
  cases h1:a.u<;>by_cases h2:a.g=gen<;>simp[h1,h2]
 ·have e:jh i 0 ((l.length:Int)-1)=false:=decide_eq_false (by omega)
  have hn:gP l i=none:=nT h
  simp[e,cellAt,hn]
theorem L9 (l:List Cell) (hl:l.length≤1073741824) (i gen:Int) (n:Int) (q:Bool):aa C rE [gQ l,vI i,vI gen] (.tu [(0,[iI n]),(0,[iB q])]) []↔n=(cellAt l i gen).1∧q=(cellAt l i gen).2:=Xk (Hw l i gen hl)
theorem Dp (l:List Cell) (hl:l.length≤1073741824):aa C dQ [gQ l] (vI (bQ l)) []:=by
 refine(GC _ _ ?_).run
 have key: ∀(n:Nat),n+(l.drop 0).length≤l.length→n+bQ (l.drop 0)=bQ l→ah C dQ aj 4 0 (h9 n (l.map cY) ((0:Nat):Int)) (fun u st=>aF C dQ aj u st fun r fs=>r=(vI (bQ l))∧fs=[]):=by
  refine bD l (fun i=> ∀(n:Nat),n+(l.drop i).length≤l.length→n+bQ (l.drop i)=bQ l→ah C dQ aj 4 0 (h9 n (l.map cY) i) (fun u st=>aF C dQ aj u st fun r fs=>r=(vI (bQ l))∧fs=[])) ?_ ?_
  ·intro n h0 h1
   refine uj _ _ _ _ (aq (by simp) (DK _ _ _ _ _ _ ?_))
   rw[List.drop_length] at h1
   simp[bQ] at h1
   simp[h1,bQ]
  ·intro i a hi ha hd ht hn n h0 h1
   refine uj _ _ _ _ (ai (by simp;omega) ?_)
   rw[hd] at h0 h1
   simp only[List.length_cons] at h0
   simp only[oZ,aL,ha,Option.some.injEq,exists_eq_left',exists_eq_left,bJ,dU,fq,de,dW,c7,dX,dY,fu,cr,natAdd,List.length_map,List.length_append,List.length_singleton,Bool.true_and,Bool.and_true]
   rw[aJ (by omega),aJ (by omega)]
   cases hu:a.u
   ·exact hn n (by omega) (by rw[←h1];simp[bQ,hu])
   ·exact hn (n+1) (by omega) (by rw[←h1];simp[bQ,hu];omega)
 exact key 0 (by simp) (by simp)
theorem FH (l:List Cell) (hl:l.length≤1073741824):aa C dh [gQ l] (vB ((l.all gY&&decide (l.length=24)))) []:=by
 refine(Lv _ _ ?_).run
 have key:((l.drop 0).all gY&&decide (l.length=24))=(l.all gY&&decide (l.length=24))→ah C dh ak 4 0 (hD (l.map cY) ((0:Nat):Int)) (fun u st=>aF C dh ak u st fun r fs=>r=vB ((l.all gY&&decide (l.length=24)))∧fs=[]):=by
  refine bD l (fun i=>((l.drop i).all gY&&decide (l.length=24))=(l.all gY&&decide (l.length=24))→ah C dh ak 4 0 (hD (l.map cY) i) (fun u st=>aF C dh ak u st fun r fs=>r=vB ((l.all gY&&decide (l.length=24)))∧fs=[])) ?_ ?_
  ·intro h0
   refine xG _ _ _ (aq (by simp) (Gy _ _ _ _ _ ?_))
   rw[List.drop_length] at h0
   simp only[List.all_nil,Bool.true_and] at h0
   rw[←h0]
   simp[aP]
   try omega
  ·intro i a hi ha hd htk hn h0
   have gO:gY a=false→(l.all gY&&decide (l.length=24))=false:=fun e=>by rw[←h0,hd];simp[e]
   have gN:gY a=true→ah C dh ak 4 0 (hD (l.map cY) ((i:Int)+1)) (fun u st=>aF C dh ak u st fun r fs=>r=vB ((l.all gY&&decide (l.length=24)))∧fs=[]):=fun e=>hn (by rw[←h0,hd];simp[e])
   refine xG _ _ _ (ai (by simp;omega) ?_)
   simp only[oZ,rG,L8,aP,aL,ha,Option.some.injEq,exists_eq_left',exists_eq_left,bJ,dU,fq,de,dW,c7,dX,dY,fu,cr,natAdd,List.length_map,List.length_append,List.length_singleton,Bool.true_and,Bool.and_true]
   rw[aJ (by omega)]
   cases h1:jh a.g 0 999<;>cases h2:Ei a.n<;>cases h3:a.u<;>by_cases h4:a.n=0<;>simp only[h1,h2,h3,h4,ld,me,decide_true,decide_false,not_true_eq_false,not_false_eq_true,Bool.not_true,Bool.not_false]<;>first|exact gN (by unfold gY;rw[h1,h2,h3];simp[h4])|exact Gx _ _ _ _ (by rw[gO (by unfold gY;rw[h1,h2,h3];simp[h4])];exact⟨rfl,by first|rfl|trivial⟩)
 exact key rfl
theorem BJ (l:List Cell) (hl:l.length≤1073741824) (q:Bool):aa C dh [gQ l] (vB q) []↔q=eE l:=qS (FH l hl)
theorem Hy (s:ByteArray) (hl:s.size≤140737488355328):aa C dK [vS s] (vB ((cH s.size (dO s)&&jh s.size 1 6))) []:=by
 refine(M9 _ _ ?_).run
 have key:((List.range' 0 (s.size-0)).all (dO s)&&jh s.size 1 6)=(cH s.size (dO s)&&jh s.size 1 6)→ah C dK ak 4 0 (je s ((0:Nat):Int)) (fun u st=>aF C dK ak u st fun r fs=>r=vB ((cH s.size (dO s)&&jh s.size 1 6))∧fs=[]):=by
  refine nH (s.size) (fun i=>((List.range' i (s.size-i)).all (dO s)&&jh s.size 1 6)=(cH s.size (dO s)&&jh s.size 1 6)→ah C dK ak 4 0 (je s i) (fun u st=>aF C dK ak u st fun r fs=>r=vB ((cH s.size (dO s)&&jh s.size 1 6))∧fs=[])) ?_ ?_
  ·intro h0
   refine At _ _ _ (aq (by simp) (Je _ _ _ _ ?_))
   rw[Nat.sub_self] at h0
   simp only[List.range'_zero,List.all_nil,Bool.true_and] at h0
   rw[←h0]
   simp only[BE,exists_eq_left,FA,Int.ofNat_eq_natCast]
   simp
  ·intro i hi hn h0
   rw[jC hi,List.all_cons] at h0
   have gO:(dO s) i=false→(cH s.size (dO s)&&jh s.size 1 6)=false:=fun e=>by rw[←h0,e];rfl
   have gN:(dO s) i=true→ah C dK ak 4 0 (je s ((i:Int)+1)) (fun u st=>aF C dK ak u st fun r fs=>r=vB ((cH s.size (dO s)&&jh s.size 1 6))∧fs=[]):=fun e=>hn (by rw[←h0,e];rfl)
   refine At _ _ _ (ai (by simp;omega) ?_)
   obtain⟨n,hb,hn0,hn1⟩:=NV hi
   have hw:r7 .i64 n=n:=Qy (by omega)
   simp only[hb,Option.some.injEq,exists_eq_left',BE,exists_eq_left,hw,bJ]
   rw[aJ (by omega)]
   have e:dO s i=(jh n 97 122||jh n 48 57):=by unfold dO;rw[hb];rfl
   rw[e] at gO gN
   cases h1:jh n 97 122<;>cases h2:jh n 48 57<;>simp only[ld,me]<;>first|exact gN (by rw[h1,h2];rfl)|exact Jd _ (by rw[gO (by rw[h1,h2];rfl)];exact⟨rfl,by first|rfl|trivial⟩)
 exact key rfl
theorem CJ (s:ByteArray) (hl:s.size≤140737488355328) (q:Bool):aa C dK [vS s] (vB q) []↔q=qT s:=qS (Hy s hl)
theorem Xn (l:List Age): ∀(id:Int),id=0→jj l id=[]:=fun id h=>if_pos h
theorem Hz (l:List Age) (id:Int) (hl:l.length≤1073741824):aa C eJ [ji l,vI id] (j6 (jj l id)) []:=by
 refine(MU _ _ _ ?_).run
 have key: ∀(acc:List Int),acc.length+(l.drop 0).length≤l.length→acc++jj (l.drop 0) id=jj l id→ah C eJ aj 4 0 (jd (l.map ek) id ((0:Nat):Int) (acc.map bP)) (fun u st=>aF C eJ aj u st fun r fs=>r=(j6 (jj l id))∧fs=[]):=by
  refine bD l (fun i=> ∀(acc:List Int),acc.length+(l.drop i).length≤l.length→acc++jj (l.drop i) id=jj l id→ah C eJ aj 4 0 (jd (l.map ek) id i (acc.map bP)) (fun u st=>aF C eJ aj u st fun r fs=>r=(j6 (jj l id))∧fs=[])) ?_ ?_
  ·intro acc h0 h1
   refine Aj _ _ _ _ _ (aq (by simp) (IU _ _ _ _ _ _ ?_))
   rw[List.drop_length] at h1
   simp[jj] at h1
   simp[jj,h1]
  ·intro i a hi ha hd ht hn acc h0 h1
   refine Aj _ _ _ _ _ (ai (by simp;omega) ?_)
   rw[hd] at h0 h1
   simp only[List.length_cons] at h0
   simp only[rP,JI,OQ,aP,bF,aL,ha,Option.some.injEq,exists_eq_left',exists_eq_left,bJ,dU,fq,de,dW,c7,dX,dY,fu,cr,natAdd,List.length_map,List.length_append,List.length_singleton,Bool.true_and,Bool.and_true]
   simp (disch:=omega) only[cW,aJ,ld]
   by_cases hz:id=0
   ·rw[Xn _ _ hz] at h1
    have e: ∀(A B:Prop),(if a.fr=id then(if id=0 then A else B) else A)=if a.fr=id then A else A:=fun A B=>by rw[if_pos hz]
    rw[e,ite_self]
    exact hn _ (by omega) (by rw[Xn _ _ hz,←h1])
   by_cases hk:a.fr=id
   ·rw[if_pos hk,if_neg hz]
    exact hn (acc++[a.id]) (by simp only[List.length_append,List.length_singleton];omega) (by rw[←h1];simp[jj,hk,hz])
   ·rw[if_neg hk]
    exact hn _ (by omega) (by rw[←h1];simp[jj,hk,hz])
 exact key [] (by simp) rfl
theorem FI (l:List Key) (hl:l.length≤1073741824):aa C gu [cJ l] (vB (cH l.length (gC l dI))) []:=by
 refine(Lo _ _ ?_).run
 have key: ∀(k i:Nat),i+k=l.length→1≤i→(List.range' i k).all (gC l dI)=cH l.length (gC l dI)→ah C gu ak 4 0 (oh (l.map bM) i) (fun u st=>aF C gu ak u st fun r fs=>r=vB (cH l.length (gC l dI))∧fs=[]):=by
  intro k
  induction k with
  |zero=>
   intro i h h1 h0
   refine qY _ _ _ (aq (by simp;omega) (xE _ _ _ _ ?_))
   simp only[List.range'_zero,List.all_nil] at h0
   rw[←h0];exact⟨rfl,by first|rfl|trivial⟩
  |succ k ih=>
   intro i h h1 h0
   obtain⟨j,rfl⟩: ∃j,i=j+1:=⟨i-1,by omega⟩
   have hj:l[j]?=some l[j]:=List.getElem?_eq_getElem (by omega)
   have hj1:l[j+1]?=some l[j+1]:=List.getElem?_eq_getElem (by omega)
   have e:gC l dI (j+1)=dI l[j] l[j+1]:=by simp only[gC,hj,hj1]
   rw[List.range'_succ,List.all_cons,e] at h0
   refine qY _ _ _ (ai (by simp;omega) ?_)
   rw[dH (by omega),show((j+1:Nat):Int)-1=(j:Int) by omega]
   simp only[jN,aL,hj,hj1,Option.some.injEq,exists_eq_left',BG,exists_eq_left,de,bJ]
   rw[aJ (by omega)]
   cases hb:dI l[j] l[j+1] with
   |true=>
    rw[hb,Bool.true_and] at h0
    exact ai rfl (ih (j+1+1) (by omega) (by omega) h0)
   |false=>
    rw[hb,Bool.false_and] at h0
    refine aq rfl (Gu _ ?_)
    rw[←h0];exact⟨rfl,by first|rfl|trivial⟩
 cases hz:l.length with
 |zero=>
  have:l=[]:=List.eq_nil_of_length_eq_zero hz
  subst this
  exact qY _ _ _ (aq (by simp) (xE _ _ _ _ ⟨rfl,by first|rfl|trivial⟩))
 |succ n=>
  rw[hz] at key
  exact key n 1 (by omega) (by omega) (by unfold cH;rw[List.range'_succ,List.all_cons];rfl)
theorem KS (l:List Key) (hl:l.length≤1073741824):aa C eC [cJ l] (vB ((l.all gl&&(cH l.length (gC l dI)&&decide (l.length≤60))))) []:=by
 refine(Px _ _ ?_).run
 have key:((l.drop 0).all gl&&(cH l.length (gC l dI)&&decide (l.length≤60)))=(l.all gl&&(cH l.length (gC l dI)&&decide (l.length≤60)))→ah C eC ak 4 0 (lF (l.map bM) ((0:Nat):Int)) (fun u st=>aF C eC ak u st fun r fs=>r=vB ((l.all gl&&(cH l.length (gC l dI)&&decide (l.length≤60))))∧fs=[]):=by
  refine bD l (fun i=>((l.drop i).all gl&&(cH l.length (gC l dI)&&decide (l.length≤60)))=(l.all gl&&(cH l.length (gC l dI)&&decide (l.length≤60)))→ah C eC ak 4 0 (lF (l.map bM) i) (fun u st=>aF C eC ak u st fun r fs=>r=vB ((l.all gl&&(cH l.length (gC l dI)&&decide (l.length≤60))))∧fs=[])) ?_ ?_
  ·intro h0
   refine Cb _ _ _ (aq (by simp) (LL _ _ _ _ ?_))
   rw[List.drop_length] at h0
   simp only[List.all_nil,Bool.true_and] at h0
   rw[←h0]
   refine⟨_,FI l hl,?_⟩
   simp only[gX,List.length_map,Int.ofNat_eq_natCast]
   cases cH l.length (gC l dI)<;>simp
   omega
  ·intro i a hi ha hd htk hn h0
   have gO:gl a=false→(l.all gl&&(cH l.length (gC l dI)&&decide (l.length≤60)))=false:=fun e=>by rw[←h0,hd];simp[e]
   have gN:gl a=true→ah C eC ak 4 0 (lF (l.map bM) ((i:Int)+1)) (fun u st=>aF C eC ak u st fun r fs=>r=vB ((l.all gl&&(cH l.length (gC l dI)&&decide (l.length≤60))))∧fs=[]):=fun e=>hn (by rw[←h0,hd];simp[e])
   refine Cb _ _ _ (ai (by simp;omega) ?_)
   simp only[jN,Ez,aL,ha,Option.some.injEq,exists_eq_left',exists_eq_left,bJ,dU,fq,de,dW,c7,dX,dY,fu,cr,natAdd,List.length_map,List.length_append,List.length_singleton,Bool.true_and,Bool.and_true]
   rw[aJ (by omega)]
   cases h1:gl a<;>simp only[ld,me]<;>first|exact gN (by assumption)|exact LK _ (by rw[gO (by assumption)];exact⟨rfl,by first|rfl|trivial⟩)
 exact key rfl
theorem HA (l:List Key) (hl:l.length≤1073741824):aa C eC [cJ l] (vB (Bg l)) []:=by
 have:=KS l hl
 rw[Kx]
 exact this
theorem O6 (l:List Key) (hl:l.length≤1073741824) (q:Bool):aa C eC [cJ l] (vB q) []↔q=Bg l:=qS (HA l hl)
theorem HB (s:ByteArray) (hl:s.size≤140737488355328):aa C dL [vS s] (vB ((cH s.size (dO s)&&jh s.size 1 6))) []:=by
 refine(Na _ _ ?_).run
 have key:((List.range' 0 (s.size-0)).all (dO s)&&jh s.size 1 6)=(cH s.size (dO s)&&jh s.size 1 6)→ah C dL ak 4 0 (jf s ((0:Nat):Int)) (fun u st=>aF C dL ak u st fun r fs=>r=vB ((cH s.size (dO s)&&jh s.size 1 6))∧fs=[]):=by
  refine nH (s.size) (fun i=>((List.range' i (s.size-i)).all (dO s)&&jh s.size 1 6)=(cH s.size (dO s)&&jh s.size 1 6)→ah C dL ak 4 0 (jf s i) (fun u st=>aF C dL ak u st fun r fs=>r=vB ((cH s.size (dO s)&&jh s.size 1 6))∧fs=[])) ?_ ?_
  ·intro h0
   refine Au _ _ _ (aq (by simp) (Jg _ _ _ _ ?_))
   rw[Nat.sub_self] at h0
   simp only[List.range'_zero,List.all_nil,Bool.true_and] at h0
   rw[←h0]
   simp only[rG,exists_eq_left,FA,Int.ofNat_eq_natCast]
   simp
  ·intro i hi hn h0
   rw[jC hi,List.all_cons] at h0
   have gO:(dO s) i=false→(cH s.size (dO s)&&jh s.size 1 6)=false:=fun e=>by rw[←h0,e];rfl
   have gN:(dO s) i=true→ah C dL ak 4 0 (jf s ((i:Int)+1)) (fun u st=>aF C dL ak u st fun r fs=>r=vB ((cH s.size (dO s)&&jh s.size 1 6))∧fs=[]):=fun e=>hn (by rw[←h0,e];rfl)
   refine Au _ _ _ (ai (by simp;omega) ?_)
   obtain⟨n,hb,hn0,hn1⟩:=NV hi
   have hw:r7 .i64 n=n:=Qy (by omega)
   simp only[hb,Option.some.injEq,exists_eq_left',rG,exists_eq_left,hw,bJ]
   rw[aJ (by omega)]
   have e:dO s i=(jh n 97 122||jh n 48 57):=by unfold dO;rw[hb];rfl
   rw[e] at gO gN
   cases h1:jh n 97 122<;>cases h2:jh n 48 57<;>simp only[ld,me]<;>first|exact gN (by rw[h1,h2];rfl)|exact Jf _ (by rw[gO (by rw[h1,h2];rfl)];exact⟨rfl,by first|rfl|trivial⟩)
 exact key rfl
theorem CK (s:ByteArray) (hl:s.size≤140737488355328) (q:Bool):aa C dL [vS s] (vB q) []↔q=qT s:=qS (HB s hl)
theorem HC (l:List Age) (id:Int) (hl:l.length≤1073741824):aa C eK [ji l,vI id] (j6 (jj l id)) []:=by
 refine(Nf _ _ _ ?_).run
 unfold jj
 by_cases hz:id=0
 ·refine ai (by simp[hz]) ?_
  rw[if_pos hz]
  exact⟨rfl,by first|rfl|trivial⟩
 refine aq (by simp[hz]) ?_
 rw[if_neg hz]
 have key: ∀(acc:List Int),acc.length+(l.drop 0).length≤l.length→acc++((l.drop 0).filter fun a=>decide (a.fr=id)).map (·.id)=(l.filter fun a=>decide (a.fr=id)).map (·.id)→ah C eK aH 4 0 (jU id (l.map ek) ((0:Nat):Int) (acc.map bP)) (fun u st=>aF C eK aH u st fun r fs=>r=j6 ((l.filter fun a=>decide (a.fr=id)).map (·.id))∧fs=[]):=by
  refine bD l (fun i=> ∀(acc:List Int),acc.length+(l.drop i).length≤l.length→acc++((l.drop i).filter fun a=>decide (a.fr=id)).map (·.id)=(l.filter fun a=>decide (a.fr=id)).map (·.id)→ah C eK aH 4 0 (jU id (l.map ek) i (acc.map bP)) (fun u st=>aF C eK aH u st fun r fs=>r=j6 ((l.filter fun a=>decide (a.fr=id)).map (·.id))∧fs=[])) ?_ ?_
  ·intro acc h0 h1
   refine Aw _ _ _ _ _ (aq (by simp) (Jl _ _ _ _ _ _ _ ?_))
   rw[List.drop_length] at h1
   simp only[List.filter_nil,List.map_nil,List.append_nil] at h1
   rw[h1]
   exact⟨rfl,by first|rfl|trivial⟩
  ·intro i a hi ha hd ht hn acc h0 h1
   refine Aw _ _ _ _ _ (ai (by simp;omega) ?_)
   rw[hd] at h0 h1
   simp only[List.length_cons] at h0
   simp only[rP,JI,OQ,aP,bF,aL,ha,Option.some.injEq,exists_eq_left',exists_eq_left,bJ,dU,fq,de,dW,c7,dX,dY,fu,cr,natAdd,List.length_map,List.length_append,List.length_singleton,Bool.true_and,Bool.and_true]
   simp (disch:=omega) only[cW,aJ,ld]
   by_cases hk:a.fr=id
   ·rw[if_pos hk]
    exact hn (acc++[a.id]) (by simp only[List.length_append,List.length_singleton];omega) (by rw[←h1];simp[hk])
   ·rw[if_neg hk]
    exact hn _ (by omega) (by rw[←h1];simp[hk])
 exact key [] (by simp) rfl
theorem HD (l:List Key) (hl:l.length≤1073741824):aa C eB [cJ l] (vB ((cH l.length (kU l)&&decide (l.length≤60)))) []:=by
 refine(Pq _ _ ?_).run
 have key:((List.range' 0 (l.length-0)).all (kU l)&&decide (l.length≤60))=(cH l.length (kU l)&&decide (l.length≤60))→ah C eB ak 4 0 (jJ (l.map bM) ((0:Nat):Int)) (fun u st=>aF C eB ak u st fun r fs=>r=vB ((cH l.length (kU l)&&decide (l.length≤60)))∧fs=[]):=by
  refine nH (l.length) (fun i=>((List.range' i (l.length-i)).all (kU l)&&decide (l.length≤60))=(cH l.length (kU l)&&decide (l.length≤60))→ah C eB ak 4 0 (jJ (l.map bM) i) (fun u st=>aF C eB ak u st fun r fs=>r=vB ((cH l.length (kU l)&&decide (l.length≤60)))∧fs=[])) ?_ ?_
  ·intro h0
   refine B7 _ _ _ (aq (by simp) (LD _ _ _ _ _ ?_))
   rw[Nat.sub_self] at h0
   simp only[List.range'_zero,List.all_nil,Bool.true_and] at h0
   rw[←h0]
   simp[gX]
   omega
  ·intro i hi hn h0
   rw[jC hi,List.all_cons] at h0
   have gO:(kU l) i=false→(cH l.length (kU l)&&decide (l.length≤60))=false:=fun e=>by rw[←h0,e];rfl
   have gN:(kU l) i=true→ah C eB ak 4 0 (jJ (l.map bM) ((i:Int)+1)) (fun u st=>aF C eB ak u st fun r fs=>r=vB ((cH l.length (kU l)&&decide (l.length≤60)))∧fs=[]):=fun e=>hn (by rw[←h0,e];rfl)
   refine B7 _ _ _ (ai (by simp;omega) ?_)
   have ha:l[i]?=some l[i]:=List.getElem?_eq_getElem hi
   simp only[jN,Ey,BF,aL,ha,Option.some.injEq,exists_eq_left',exists_eq_left,bJ,dU,fq,de,dW,c7,dX,dY,fu,cr,natAdd,List.length_map,List.length_append,List.length_singleton,Bool.true_and,Bool.and_true]
   rw[aJ (by omega)]
   cases i with
   |zero=>
    have e:kU l 0=gl l[0]:=by simp[kU,T8,gC,hi]
    simp only[e] at gO gN
    cases h1:gl l[0]<;>simp only[h1,ld,me,ez,bF,Int.natCast_zero,Int.lt_irrefl,if_false]<;>first|exact gN h1|exact B8 _ _ _ _ _ _ (by rw[gO h1];exact⟨rfl,by first|rfl|trivial⟩)
   |succ k=>
    have hk:l[k]?=some l[k]:=List.getElem?_eq_getElem (by omega)
    have e:kU l (k+1)=(gl l[k+1]&&dI l[k] l[k+1]):=by simp only[kU,T8,gC,hk,ha]
    simp only[e] at gO gN
    rw[dH (by omega),show((k+1:Nat):Int)-1=(k:Int) by omega]
    simp only[aL,hk,Option.some.injEq,exists_eq_left',de,ez,bF]
    rw[if_pos (by omega)]
    cases h1:gl l[k+1]<;>cases h2:dI l[k] l[k+1]<;>simp only[ld,me]<;>first|exact gN (by rw[h1,h2];rfl)|exact B8 _ _ _ _ _ _ (by rw[gO (by rw[h1,h2];rfl)];exact⟨rfl,by first|rfl|trivial⟩)
 exact key rfl
theorem O7 (l:List Key) (hl:l.length≤1073741824) (q:Bool):aa C eB [cJ l] (vB q) []↔q=Bg l:=qS (HD l hl)
theorem Dq (t:Tree) (l:List Age) (b id:Int) (hl:cZ t≤1073741824) (ha:l.length≤1073741823):aa C qn [dj t,ji l,vI b,vI id] (NZ (p9 t l b id)) []:=by
 refine(Gz _ _ _ _ _ _ ?_).run
 have hp:=KA l id
 refine⟨_,Hr l id (by omega),?_⟩
 simp only[List.length_map,Int.ofNat_eq_natCast,aP,bF,cz]
 unfold p9
 by_cases h:(pathOf l id).length=0
 ·rw[if_pos (by omega),List.eq_nil_of_length_eq_zero h]
  simp[Vt,dV]
 ·rw[if_neg (by omega)]
  refine ai (by simp;omega) ⟨_,_,_,_,_,_,Ht t b _ hl (by simp;omega),?_⟩
  have e:List.drop (Int.toNat 1) (List.take (Int.toNat ((pathOf l id).length:Int)) (pathOf l id))=(pathOf l id).drop 1:=by rw[Int.toNat_natCast,List.take_length];rfl
  rw[e]
  exact⟨rfl,by first|rfl|trivial⟩
theorem Dr (t:Tree) (l:List Age) (b id:Int) (hl:cZ t≤1073741824) (ha:l.length≤1073741823):aa C qo [dj t,ji l,vI b,vI id] (NZ (p9 t l b id)) []:=by
 refine(GM _ _ _ _ _ _ ?_).run
 have hp:=KA l id
 refine⟨_,Hs l id (by omega),?_⟩
 simp only[List.length_map,Int.ofNat_eq_natCast,cz,Wz]
 unfold p9
 have e: ∀m:Int,((m=1∧1≤(pathOf l id).length)∨(m=0∧(pathOf l id).length=0))→List.drop m.toNat (List.take (Int.toNat ((pathOf l id).length:Int)) (pathOf l id))=(pathOf l id).drop 1:=fun m hm=>by
  rw[Int.toNat_natCast,List.take_length]
  rcases hm with⟨rfl,_⟩|⟨rfl,h⟩
  ·rfl
  ·rw[List.eq_nil_of_length_eq_zero h];rfl
 have hm:(if((pathOf l id).length:Int)<1 then((pathOf l id).length:Int) else 1)=1∧1≤(pathOf l id).length∨((if((pathOf l id).length:Int)<1 then((pathOf l id).length:Int) else 1)=0∧(pathOf l id).length=0):=by split<;>omega
 revert hm
 generalize (if((pathOf l id).length:Int)<1 then((pathOf l id).length:Int) else 1)=m
 intro hm
 rw[e m hm]
 refine ai (by simp;omega) ⟨_,_,_,_,_,_,Hu t b _ hl (by simp;omega),?_⟩
 exact⟨rfl,by first|rfl|trivial⟩
theorem tI (p:Pool) (s:ByteArray) (hl:p.vols.length≤1073741824):aa C fP [fW p,vS s] (vI (nJ p.vols s)) []:=by
 refine(Pg _ _ _ _ _ _ _ _ ?_).run
 have key:gy (fun v:Vol=>decide (v.name=s)) (p.vols.drop 0) ((0:Nat):Int)=gy (fun v:Vol=>decide (v.name=s)) p.vols 0→ah C fP ak 4 0 (nM s ((0:Nat):Int) (p.t.lows.map bP) (p.t.nodes.map aX) (p.ages.map ek) (p.cells.map cY) (p.vols.map eA) p.next) (fun u st=>aF C fP ak u st fun r fs=>r=vI (nJ p.vols s)∧fs=[]):=by
  refine bD p.vols (fun i=>gy (fun v:Vol=>decide (v.name=s)) (p.vols.drop i) (i:Int)=gy (fun v:Vol=>decide (v.name=s)) p.vols 0→ah C fP ak 4 0 (nM s i (p.t.lows.map bP) (p.t.nodes.map aX) (p.ages.map ek) (p.cells.map cY) (p.vols.map eA) p.next) _) ?_ ?_
  ·intro h0
   refine B3 _ _ _ _ _ _ _ _ _ (aq (by simp) (Lg _ _ _ _ _ _ _ _ _ _ ?_))
   rw[List.drop_length] at h0
   simp only[gy] at h0
   change _=vI (gy (fun v:Vol=>decide (v.name=s)) p.vols 0)∧_
   rw[←h0]
   exact⟨rfl,by first|rfl|trivial⟩
  ·intro i a hi ha hd htk hn h0
   refine B3 _ _ _ _ _ _ _ _ _ (ai (by simp;omega) ?_)
   rw[hd] at h0
   simp only[gy] at h0
   simp only[Be,Fy,bF,aL,ha,Option.some.injEq,exists_eq_left',exists_eq_left,bJ,dU,fq,de,dW,c7,dX,dY,fu,cr,natAdd,List.length_map,List.length_append,List.length_singleton,Bool.true_and,Bool.and_true]
   rw[aJ (by omega)]
   split at h0
   ·rename_i hp
    have hp:=of_decide_eq_true hp
    first|rw[if_pos hp]|rw[if_pos hp.symm]
    refine Lf _ _ _ _ _ _ _ _ ?_
    rw[h0]
    exact⟨rfl,by first|rfl|trivial⟩
   ·rename_i hp
    have hp: ¬_:=fun h=>hp (decide_eq_true h)
    first|rw[if_neg hp]|rw[if_neg (fun h=>hp h.symm)]
    exact hn h0
 exact key rfl
@[simp] theorem KT (n:ByteArray) (a z:Int) (f:Bool) (s:ByteArray) (q:Bool):aa C sH [.ag [iS n,iI a,iI z,iB f],.bx [iS s]] (vB q) []↔q=decide (n=s):=qS (by
  refine(Le _ _ _ _ _ _ ?_).run
  simp)
theorem Ma (l:List Vol) (s:ByteArray) (hl:l.length≤1073741824):aa C aV [yC l,.fn sH [[iS s]]] (vI (nJ l s)) []:=by
 refine(oU _ _ _ ?_).run
 have key:gy (fun v:Vol=>decide (v.name=s)) (l.drop 0) ((0:Nat):Int)=gy (fun v:Vol=>decide (v.name=s)) l 0→ah C aV ak 4 0 (cQ (l.map eA) ((0:Nat):Int) s) (fun u st=>aF C aV ak u st fun r fs=>r=vI (nJ l s)∧fs=[]):=by
  refine bD l (fun i=>gy (fun v:Vol=>decide (v.name=s)) (l.drop i) (i:Int)=gy (fun v:Vol=>decide (v.name=s)) l 0→ah C aV ak 4 0 (cQ (l.map eA) i s) _) ?_ ?_
  ·intro h0
   refine iV _ _ _ _ (aq (by simp) (oA _ _ _ _ _ _ ?_))
   rw[List.drop_length] at h0
   simp only[gy] at h0
   change _=vI (gy (fun v:Vol=>decide (v.name=s)) l 0)∧_
   rw[←h0]
   exact⟨rfl,by first|rfl|trivial⟩
  ·intro i a hi ha hd htk hn h0
   refine iV _ _ _ _ (ai (by simp;omega) ?_)
   rw[hd] at h0
   simp only[gy] at h0
   simp only[Be,aP,KT,bF,aL,ha,Option.some.injEq,exists_eq_left',exists_eq_left,bJ,dU,fq,de,dW,c7,dX,dY,fu,cr,natAdd,List.length_map,List.length_append,List.length_singleton,Bool.true_and,Bool.and_true]
   rw[aJ (by omega)]
   split at h0
   ·rename_i hp
    have hp:=of_decide_eq_true hp
    first|rw[if_pos hp]|rw[if_pos hp.symm]
    refine oz _ _ _ ?_
    rw[h0]
    exact⟨rfl,by first|rfl|trivial⟩
   ·rename_i hp
    have hp: ¬_:=fun h=>hp (decide_eq_true h)
    first|rw[if_neg hp]|rw[if_neg (fun h=>hp h.symm)]
    exact hn h0
 exact key rfl
theorem BK (p:Pool) (s:ByteArray) (hl:p.vols.length≤1073741824):aa C Di [fW p,vS s] (vI (nJ p.vols s)) []:=(Pb _ _ _ _ _ _ _ _ ⟨_,Ma p.vols s hl,rfl,by first|rfl|trivial⟩).run
@[simp] theorem HE (n:ByteArray) (a z:Int) (f:Bool) (s:ByteArray) (a' z':Int) (f':Bool) (q:Bool):aa C mM [.ag [iS n,iI a,iI z,iB f],.bx [iS s,iI a',iI z',iB f']] (vB q) []↔q=decide (a=a'):=qS (by
  refine(Jw _ _ _ _ _ _ _ _ _ ?_).run
  simp)
theorem AK (l:List Vol) (s:ByteArray) (a' z':Int) (f':Bool) (hl:l.length≤1073741824):aa C aV [yC l,.fn mM [[iS s,iI a',iI z',iB f']]] (vI (gy (fun v:Vol=>decide (v.age=a')) l 0)) []:=by
 refine(oL _ _ _ _ _ _ ?_).run
 have key:gy (fun v:Vol=>decide (v.age=a')) (l.drop 0) ((0:Nat):Int)=gy (fun v:Vol=>decide (v.age=a')) l 0→ah C aV ak 4 0 (cN (l.map eA) ((0:Nat):Int) s a' z' f') (fun u st=>aF C aV ak u st fun r fs=>r=vI (gy (fun v:Vol=>decide (v.age=a')) l 0)∧fs=[]):=by
  refine bD l (fun i=>gy (fun v:Vol=>decide (v.age=a')) (l.drop i) (i:Int)=gy (fun v:Vol=>decide (v.age=a')) l 0→ah C aV ak 4 0 (cN (l.map eA) i s a' z' f') _) ?_ ?_
  ·intro h0
   refine iK _ _ _ _ _ _ _ (aq (by simp) (nO _ _ _ _ _ _ _ _ _ ?_))
   rw[List.drop_length] at h0
   simp only[gy] at h0
   change _=vI (gy (fun v:Vol=>decide (v.age=a')) l 0)∧_
   rw[←h0]
   exact⟨rfl,by first|rfl|trivial⟩
  ·intro i a hi ha hd htk hn h0
   refine iK _ _ _ _ _ _ _ (ai (by simp;omega) ?_)
   rw[hd] at h0
   simp only[gy] at h0
   simp only[Be,aP,HE,bF,aL,ha,Option.some.injEq,exists_eq_left',exists_eq_left,bJ,dU,fq,de,dW,c7,dX,dY,fu,cr,natAdd,List.length_map,List.length_append,List.length_singleton,Bool.true_and,Bool.and_true]
   rw[aJ (by omega)]
   split at h0
   ·rename_i hp
    have hp:=of_decide_eq_true hp
    first|rw[if_pos hp]|rw[if_pos hp.symm]
    refine nN _ _ _ _ _ _ ?_
    rw[h0]
    exact⟨rfl,by first|rfl|trivial⟩
   ·rename_i hp
    have hp: ¬_:=fun h=>hp (decide_eq_true h)
    first|rw[if_neg hp]|rw[if_neg (fun h=>hp h.symm)]
    exact hn h0
 exact key rfl
theorem AL (l:List Vol) (s:ByteArray) (a' z':Int) (f':Bool) (hl:l.length≤1073741824):aa C ga [yC l,.fn mM [[iS s,iI a',iI z',iB f']]] (vB (l.any (fun v:Vol=>decide (v.age=a')))) []:=by
 refine(nr _ _ _ _ _ _ ⟨_,AK l s a' z' f' hl,?_⟩).run
 rw[gX,Kz _ _ _ (by omega)]
 exact⟨rfl,by first|rfl|trivial⟩
theorem FJ (n:List (List Key)) (hb:n.length≤1073741824) (hl:tot bH n≤1073741824):aa C fG [fK n] (vI (cm n)) []:=by
 refine(Lb _ _ ?_).run
 have key: ∀(c:Nat),c+tot bH (n.drop 0)=cm n→ah C fG aj 4 0 (lA c ((0:Nat):Int) (n.map cc)) (fun u st=>aF C fG aj u st fun r fs=>r=(vI (cm n))∧fs=[]):=by
  refine bD n (fun i=> ∀(c:Nat),c+tot bH (n.drop i)=cm n→ah C fG aj 4 0 (lA c i (n.map cc)) (fun u st=>aF C fG aj u st fun r fs=>r=(vI (cm n))∧fs=[])) ?_ ?_
  ·intro c h0
   refine xy _ _ _ _ (aq (by simp) (Gk _ _ _ _ _ ?_))
   rw[List.drop_length] at h0
   simp only[tot,Nat.add_zero] at h0
   rw[h0]
   exact⟨rfl,by first|rfl|trivial⟩
  ·intro i a hi ha hd ht hn c h0
   refine xy _ _ _ _ (ai (by simp;omega) ?_)
   rw[hd] at h0
   have e5:tot bH (a::n.drop (i+1))=a.length+tot bH (n.drop (i+1)):=rfl
   rw[e5] at h0
   unfold cm at h0
   simp only[qR,aL,ha,Option.some.injEq,exists_eq_left',exists_eq_left,bJ,dU,fq,de,dW,c7,dX,dY,fu,cr,natAdd,List.length_map,List.length_append,List.length_singleton,Bool.true_and,Bool.and_true]
   rw[aJ (by simp only[Int.ofNat_eq_natCast];omega),aJ (by omega)]
   exact hn (c+a.length) (by unfold cm;omega)
 exact key 0 (by simp[cm])
theorem FK (n:List (List Key)) (hs:tot bH n≤1073741824) (hl:n.length≤1073741824):aa C bL [fK n] (vB ((n.all cX&&(decide (n.length≤3)&&decide (cm n≤8))))) []:=by
 refine(Nh _ _ ?_).run
 have key:((n.drop 0).all cX&&(decide (n.length≤3)&&decide (cm n≤8)))=(n.all cX&&(decide (n.length≤3)&&decide (cm n≤8)))→ah C bL ak 4 0 (jV ((0:Nat):Int) (n.map cc)) (fun u st=>aF C bL ak u st fun r fs=>r=vB ((n.all cX&&(decide (n.length≤3)&&decide (cm n≤8))))∧fs=[]):=by
  refine bD n (fun i=>((n.drop i).all cX&&(decide (n.length≤3)&&decide (cm n≤8)))=(n.all cX&&(decide (n.length≤3)&&decide (cm n≤8)))→ah C bL ak 4 0 (jV i (n.map cc)) (fun u st=>aF C bL ak u st fun r fs=>r=vB ((n.all cX&&(decide (n.length≤3)&&decide (cm n≤8))))∧fs=[])) ?_ ?_
  ·intro h0
   refine Az _ _ _ (aq (by simp) (Jp _ _ _ _ ?_))
   rw[List.drop_length] at h0
   simp only[List.all_nil,Bool.true_and] at h0
   rw[←h0]
   simp only[gX,List.length_map,Int.ofNat_eq_natCast,bF]
   by_cases h3:n.length≤3
   ·rw[if_pos (by omega)]
    refine⟨_,FJ n hl hs,?_⟩
    simp[h3]
    omega
   ·rw[if_neg (by omega)]
    simp[h3]
  ·intro i a hi ha hd htk hn h0
   have gO:cX a=false→(n.all cX&&(decide (n.length≤3)&&decide (cm n≤8)))=false:=fun e=>by rw[←h0,hd];simp[e]
   have gN:cX a=true→ah C bL ak 4 0 (jV ((i:Int)+1) (n.map cc)) (fun u st=>aF C bL ak u st fun r fs=>r=vB ((n.all cX&&(decide (n.length≤3)&&decide (cm n≤8))))∧fs=[]):=fun e=>hn (by rw[←h0,hd];simp[e])
   refine Az _ _ _ (ai (by simp;omega) ?_)
   have hz:a.length≤tot bH n:=j8 (w:=bH) ha
   have hh: ∀q,aa C eC [cJ a] (vB q) []↔q=Bg a:=fun q=>O6 a (by omega) q
   simp only[qR,hh,aP,Int.ofNat_eq_natCast,bF,aL,ha,Option.some.injEq,exists_eq_left',exists_eq_left,bJ,dU,fq,de,dW,c7,dX,dY,fu,cr,natAdd,List.length_map,List.length_append,List.length_singleton,Bool.true_and,Bool.and_true]
   rw[aJ (by omega)]
   cases h1:Bg a<;>by_cases h2:a.length=0<;>simp only[ld,me]<;>first|(rw[if_pos (by omega)];exact AA _ _ (by rw[gO (by simp[cX,h1,h2])];exact⟨rfl,by first|rfl|trivial⟩))|(rw[if_neg (by omega)];exact gN (by simp[cX,h1,h2]))|exact AA _ _ (by rw[gO (by simp[cX,h1,h2])];exact⟨rfl,by first|rfl|trivial⟩)
 exact key rfl
theorem rS (n:List (List Key)) (hb:n.length≤1073741824) (hl:tot bH n≤1073741824):aa C bL [fK n] (vB (eY n)) []:=by
 have:=FK n hl hb
 rw[N0]
 exact this
theorem HF (l:List Age) (hl:l.length≤1073741824):aa C dx [ji l] (vB ((cH l.length (ef l)&&decide (l.length≤16)))) []:=by
 refine(MS _ _ ?_).run
 have key:((List.range' 0 (l.length-0)).all (ef l)&&decide (l.length≤16))=(cH l.length (ef l)&&decide (l.length≤16))→ah C dx ak 4 0 (fJ (l.map ek) ((0:Nat):Int)) (fun u st=>aF C dx ak u st fun r fs=>r=vB ((cH l.length (ef l)&&decide (l.length≤16)))∧fs=[]):=by
  refine nH (l.length) (fun i=>((List.range' i (l.length-i)).all (ef l)&&decide (l.length≤16))=(cH l.length (ef l)&&decide (l.length≤16))→ah C dx ak 4 0 (fJ (l.map ek) i) (fun u st=>aF C dx ak u st fun r fs=>r=vB ((cH l.length (ef l)&&decide (l.length≤16)))∧fs=[])) ?_ ?_
  ·intro h0
   refine Ag _ _ _ (aq (by simp) (IN _ _ _ _ ?_))
   rw[Nat.sub_self] at h0
   simp only[List.range'_zero,List.all_nil,Bool.true_and] at h0
   rw[←h0]
   simp[gX]
   omega
  ·intro i hi hn h0
   rw[jC hi,List.all_cons] at h0
   have gO:(ef l) i=false→(cH l.length (ef l)&&decide (l.length≤16))=false:=fun e=>by rw[←h0,e];rfl
   have gN:(ef l) i=true→ah C dx ak 4 0 (fJ (l.map ek) ((i:Int)+1)) (fun u st=>aF C dx ak u st fun r fs=>r=vB ((cH l.length (ef l)&&decide (l.length≤16)))∧fs=[]):=fun e=>hn (by rw[←h0,e];rfl)
   refine Ag _ _ _ (ai (by simp;omega) ?_)
   have ha:l[i]?=some l[i]:=List.getElem?_eq_getElem hi
   have hh: ∀q,aa C dG [ji (l.take i),vI l[i].fr] (vI q) []↔q=gT (l.take i) l[i].fr:=fun q=>yu (l.take i) l[i].fr (by simp;omega) q
   have hcut:ax (l.map ek) 0 (i:Int)=(l.take i).map ek:=by rw[cz,Int.toNat_natCast];rfl
   have hin:cE 0 (i:Int) (l.length:Int)=true:=by simp;omega
   simp only[rP,BE,hcut,aL,ha,Option.some.injEq,exists_eq_left',exists_eq_left,bJ,dU,fq,de,dW,c7,dX,dY,fu,cr,natAdd,List.length_map,List.length_append,List.length_singleton,Bool.true_and,Bool.and_true]
   simp only[ha,hin,hh,exists_eq_left,Option.some.injEq,exists_eq_left',ld,aP,gX,ez,bF,Int.ofNat_eq_natCast,List.length_map]
   rw[aJ (by omega)]
   cases i with
   |zero=>
    have e:ef l 0=(jh l[0].id 1 60&&(decide (l[0].fr=0)|| !decide (gT (l.take 0) l[0].fr<0))):=by simp[ef,T8,gC,hi]
    rw[e] at gO gN
    have hz: ¬((0:Int)<((0:Nat):Int)):=by omega
    simp only[if_neg hz]
    cases h1:jh l[0].id 1 60 with
    |false=>simp only[me];exact mF _ (by rw[gO (by rw[h1];simp)];exact⟨rfl,by first|rfl|trivial⟩)
    |true=>
     simp only[ld]
     by_cases h2:l[0].fr=0
     ·rw[if_pos h2];exact gN (by rw[h1,decide_eq_true h2];simp)
     ·rw[if_neg h2]
      by_cases h3:gT (l.take 0) l[0].fr<0
      ·rw[if_pos h3];exact mF _ (by rw[gO (by rw[decide_eq_false h2,decide_eq_true h3];simp)];exact⟨rfl,by first|rfl|trivial⟩)
      ·rw[if_neg h3];exact gN (by rw[h1,decide_eq_false h3];simp)
   |succ k=>
    have hk:l[k]?=some l[k]:=List.getElem?_eq_getElem (by omega)
    have e:ef l (k+1)=(jh l[k+1].id 1 60&&(decide (l[k].id<l[k+1].id)&&(decide (l[k+1].fr=0)|| !decide (gT (l.take (k+1)) l[k+1].fr<0)))):=by simp only[ef,T8,gC,hk,ha]
    rw[e] at gO gN
    rw[dH (by omega),show((k+1:Nat):Int)-1=(k:Int) by omega]
    simp only[aL,hk,Option.some.injEq,exists_eq_left']
    rw[if_pos (by omega)]
    cases h1:jh l[k+1].id 1 60 with
    |false=>simp only[me];exact mF _ (by rw[gO (by rw[h1];simp)];exact⟨rfl,by first|rfl|trivial⟩)
    |true=>
     simp only[ld]
     by_cases h4:l[k].id<l[k+1].id
     ·rw[if_neg (by omega)]
      by_cases h2:l[k+1].fr=0
      ·rw[if_pos h2];exact gN (by rw[h1,decide_eq_true h4,decide_eq_true h2];simp)
      ·rw[if_neg h2]
       by_cases h3:gT (l.take (k+1)) l[k+1].fr<0
       ·rw[if_pos h3];exact mF _ (by rw[gO (by rw[decide_eq_false h2,decide_eq_true h3];simp)];exact⟨rfl,by first|rfl|trivial⟩)
       ·rw[if_neg h3];exact gN (by rw[h1,decide_eq_true h4,decide_eq_false h3];simp)
     ·rw[if_pos (by omega)];exact mF _ (by rw[gO (by rw[decide_eq_false h4];simp)];exact⟨rfl,by first|rfl|trivial⟩)
 exact key rfl
theorem Mb (l:List Age) (hl:l.length≤1073741824) (q:Bool):aa C dx [ji l] (vB q) []↔q=lR l:=qS (HF l hl)
theorem FL (n:List (List Key)) (hb:n.length≤1073741824) (hl:tot bH n≤1073741824):aa C bn [fK n] (vB (n.all cX&&(decide (n.length≤3)&&decide (cm n≤8)))) []:=by
 refine(Mr _ _ ?_).run
 have key: ∀(c:Nat),c+tot bH (n.drop 0)=cm n→((n.drop 0).all cX&&(decide (n.length≤3)&&decide (cm n≤8)))=(n.all cX&&(decide (n.length≤3)&&decide (cm n≤8)))→ah C bn aj 4 0 (mm c (n.map cc) ((0:Nat):Int)) (fun u st=>aF C bn aj u st fun r fs=>r=(vB (n.all cX&&(decide (n.length≤3)&&decide (cm n≤8))))∧fs=[]):=by
  refine bD n (fun i=> ∀(c:Nat),c+tot bH (n.drop i)=cm n→((n.drop i).all cX&&(decide (n.length≤3)&&decide (cm n≤8)))=(n.all cX&&(decide (n.length≤3)&&decide (cm n≤8)))→ah C bn aj 4 0 (mm c (n.map cc) i) (fun u st=>aF C bn aj u st fun r fs=>r=(vB (n.all cX&&(decide (n.length≤3)&&decide (cm n≤8))))∧fs=[])) ?_ ?_
  ·intro c h0 h1
   refine zT _ _ _ _ (aq (by simp) (Ia _ _ _ _ _ _ ?_))
   rw[List.drop_length] at h0 h1
   simp only[tot,Nat.add_zero] at h0
   simp only[List.all_nil,Bool.true_and] at h1
   rw[←h1]
   simp only[gX,List.length_map,Int.ofNat_eq_natCast,bF]
   by_cases h3:n.length≤3
   ·rw[if_pos (by omega)]
    simp[h3]
    omega
   ·rw[if_neg (by omega)]
    simp[h3]
  ·intro i a hi ha hd ht hn c h0 h1
   refine zT _ _ _ _ (ai (by simp;omega) ?_)
   have hz:a.length≤tot bH n:=j8 (w:=bH) ha
   have hh: ∀q,aa C eB [cJ a] (vB q) []↔q=Bg a:=fun q=>O7 a (by omega) q
   rw[hd] at h0 h1
   have e5:tot bH (a::n.drop (i+1))=a.length+tot bH (n.drop (i+1)):=rfl
   rw[e5] at h0
   unfold cm at h0
   have hO:cX a=false→aF C bn aj TX.ret (o9 (n.map cc)) (fun r fs=>r=vB (n.all cX&&(decide (n.length≤3)&&decide (cm n≤8)))∧fs=[]):=fun e=>H9 _ _ (by rw[←h1];simp only[List.all_cons,e];exact⟨rfl,by first|rfl|trivial⟩)
   simp only[qR,hh,aP,Int.ofNat_eq_natCast,bF,aL,ha,Option.some.injEq,exists_eq_left',exists_eq_left,bJ,dU,fq,de,dW,c7,dX,dY,fu,cr,natAdd,List.length_map,List.length_append,List.length_singleton,Bool.true_and,Bool.and_true]
   rw[aJ (by omega),aJ (by omega)]
   cases h2:Bg a<;>by_cases h3:a.length=0<;>simp only[ld,me]
   ·exact hO (by simp[cX,h2])
   ·exact hO (by simp[cX,h2])
   ·rw[if_pos (by omega)];exact hO (by simp[cX,h3])
   ·rw[if_neg (by omega)]
    exact hn (c+a.length) (by unfold cm;omega) (by rw[←h1];simp[cX,h2,h3])
 exact key 0 (by simp[cm]) rfl
theorem rT (n:List (List Key)) (hb:n.length≤1073741824) (hl:tot bH n≤1073741824):aa C bn [fK n] (vB (eY n)) []:=by
 have:=FL n hb hl
 rw[N0]
 exact this
theorem Mc (n:List (List Key)) (hb:n.length≤1073741824) (hl:tot bH n≤1073741824) (q:Bool):aa C bn [.ag [.sub 1 (n.map cc)]] (vB q) []↔q=eY n:=qS (rT n hb hl)
theorem HG (l:List Age) (hl:l.length≤1073741824):aa C dy [ji l] (vB ((cH l.length (ef l)&&decide (l.length≤16)))) []:=by
 refine(MC _ _ ?_).run
 have key:((List.range' 0 (l.length-0)).all (ef l)&&decide (l.length≤16))=(cH l.length (ef l)&&decide (l.length≤16))→ah C dy ak 4 0 (fI (l.map ek) ((0:Nat):Int)) (fun u st=>aF C dy ak u st fun r fs=>r=vB ((cH l.length (ef l)&&decide (l.length≤16)))∧fs=[]):=by
  refine nH (l.length) (fun i=>((List.range' i (l.length-i)).all (ef l)&&decide (l.length≤16))=(cH l.length (ef l)&&decide (l.length≤16))→ah C dy ak 4 0 (fI (l.map ek) i) (fun u st=>aF C dy ak u st fun r fs=>r=vB ((cH l.length (ef l)&&decide (l.length≤16)))∧fs=[])) ?_ ?_
  ·intro h0
   refine zZ _ _ _ (aq (by simp) (Iv _ _ _ _ _ ?_))
   rw[Nat.sub_self] at h0
   simp only[List.range'_zero,List.all_nil,Bool.true_and] at h0
   rw[←h0]
   simp[gX]
   omega
  ·intro i hi hn h0
   rw[jC hi,List.all_cons] at h0
   have gO:(ef l) i=false→(cH l.length (ef l)&&decide (l.length≤16))=false:=fun e=>by rw[←h0,e];rfl
   have gN:(ef l) i=true→ah C dy ak 4 0 (fI (l.map ek) ((i:Int)+1)) (fun u st=>aF C dy ak u st fun r fs=>r=vB ((cH l.length (ef l)&&decide (l.length≤16)))∧fs=[]):=fun e=>hn (by rw[←h0,e];rfl)
   refine zZ _ _ _ (ai (by simp;omega) ?_)
   have ha:l[i]?=some l[i]:=List.getElem?_eq_getElem hi
   have hh: ∀q,aa C iX [ji (l.take i),vI l[i].fr] (vI q) []↔q=gT (l.take i) l[i].fr:=fun q=>yw (l.take i) l[i].fr (by simp;omega) q
   have hcut:ax (l.map ek) 0 (i:Int)=(l.take i).map ek:=by rw[cz,Int.toNat_natCast];rfl
   have hin:cE 0 (i:Int) (l.length:Int)=true:=by simp;omega
   simp only[rP,rG,hcut,aL,ha,Option.some.injEq,exists_eq_left',exists_eq_left,bJ,dU,fq,de,dW,c7,dX,dY,fu,cr,natAdd,List.length_map,List.length_append,List.length_singleton,Bool.true_and,Bool.and_true]
   simp only[ha,hin,hh,exists_eq_left,Option.some.injEq,exists_eq_left',ld,aP,gX,ez,bF,Int.ofNat_eq_natCast,List.length_map]
   rw[aJ (by omega)]
   cases i with
   |zero=>
    have e:ef l 0=(jh l[0].id 1 60&&(decide (l[0].fr=0)|| !decide (gT (l.take 0) l[0].fr<0))):=by simp[ef,T8,gC,hi]
    rw[e] at gO gN
    have hz: ¬((0:Int)<((0:Nat):Int)):=by omega
    simp only[if_neg hz]
    cases h1:jh l[0].id 1 60 with
    |false=>simp only[me];exact mE _ _ _ (by rw[gO (by rw[h1];simp)];exact⟨rfl,by first|rfl|trivial⟩)
    |true=>
     simp only[ld]
     by_cases h2:l[0].fr=0
     ·rw[if_pos h2];exact gN (by rw[h1,decide_eq_true h2];simp)
     ·rw[if_neg h2]
      by_cases h3:gT (l.take 0) l[0].fr<0
      ·rw[if_pos h3];exact mE _ _ _ (by rw[gO (by rw[decide_eq_false h2,decide_eq_true h3];simp)];exact⟨rfl,by first|rfl|trivial⟩)
      ·rw[if_neg h3];exact gN (by rw[h1,decide_eq_false h3];simp)
   |succ k=>
    have hk:l[k]?=some l[k]:=List.getElem?_eq_getElem (by omega)
    have e:ef l (k+1)=(jh l[k+1].id 1 60&&(decide (l[k].id<l[k+1].id)&&(decide (l[k+1].fr=0)|| !decide (gT (l.take (k+1)) l[k+1].fr<0)))):=by simp only[ef,T8,gC,hk,ha]
    rw[e] at gO gN
    rw[dH (by omega),show((k+1:Nat):Int)-1=(k:Int) by omega]
    simp only[aL,hk,Option.some.injEq,exists_eq_left']
    rw[if_pos (by omega)]
    cases h1:jh l[k+1].id 1 60 with
    |false=>simp only[me];exact mE _ _ _ (by rw[gO (by rw[h1];simp)];exact⟨rfl,by first|rfl|trivial⟩)
    |true=>
     simp only[ld]
     by_cases h4:l[k].id<l[k+1].id
     ·rw[if_neg (by omega)]
      by_cases h2:l[k+1].fr=0
      ·rw[if_pos h2];exact gN (by rw[h1,decide_eq_true h4,decide_eq_true h2];simp)
      ·rw[if_neg h2]
       by_cases h3:gT (l.take (k+1)) l[k+1].fr<0
       ·rw[if_pos h3];exact mE _ _ _ (by rw[gO (by rw[decide_eq_false h2,decide_eq_true h3];simp)];exact⟨rfl,by first|rfl|trivial⟩)
       ·rw[if_neg h3];exact gN (by rw[h1,decide_eq_true h4,decide_eq_false h3];simp)
     ·rw[if_pos (by omega)];exact mE _ _ _ (by rw[gO (by rw[decide_eq_false h4];simp)];exact⟨rfl,by first|rfl|trivial⟩)
 exact key rfl
theorem Md (l:List Age) (hl:l.length≤1073741824) (q:Bool):aa C dy [ji l] (vB q) []↔q=lR l:=qS (HG l hl)
@[simp] theorem CL (b a q:Int):aa C uP [vI b,vI a] (vI q) []↔q=gm b a:=Vr ((MJ _ _ _ ⟨rfl,by first|rfl|trivial⟩).run)
@[simp] theorem CM (b a k c g q:Int):aa C dB [.ag [iI b,iI a,iI k,iI c,iI g]] (vI q) []↔q=gm b a:=Vr (by
  refine(Nc _ _ _ _ _ _ ?_).run
  simp only[CL,exists_eq_left]
  simp)
@[simp] theorem wj (b a q:Int):aa C qc [vI b,vI a] (vI q) []↔q=gm b a:=Vr ((Mn _ _ _ ⟨rfl,by first|rfl|trivial⟩).run)
theorem FM (t:Tree) (i:Nat) (n:List (List Key)) (hi:i<t.lows.length) (hl:cZ t≤1073741824) (hn:n.length≤1073741824) (hz:tot bH n≤1073741824):ah C bA aH 4 0 (gH i ((0:Nat):Int) (t.lows.map bP) (t.nodes.map aX) (n.map cc)) (fun u st=>aF C bA aH u st fun r fs=>r=vB (n.all (bT t.lows i))∧fs=[]):=by
 have hll:t.lows.length≤1073741824:=by unfold cZ at hl;omega
 have hlo:t.lows[i]?=some t.lows[i]:=List.getElem?_eq_getElem hi
 have key:(n.drop 0).all (bT t.lows i)=n.all (bT t.lows i)→ah C bA aH 4 0 (gH i ((0:Nat):Int) (t.lows.map bP) (t.nodes.map aX) (n.map cc)) (fun u st=>aF C bA aH u st fun r fs=>r=vB (n.all (bT t.lows i))∧fs=[]):=by
  refine bD n (fun k=>(n.drop k).all (bT t.lows i)=n.all (bT t.lows i)→ah C bA aH 4 0 (gH i k (t.lows.map bP) (t.nodes.map aX) (n.map cc)) (fun u st=>aF C bA aH u st fun r fs=>r=vB (n.all (bT t.lows i))∧fs=[])) ?_ ?_
  ·intro h0
   refine zR _ _ _ _ _ _ (aq (by simp) (HZ _ _ _ _ _ _ _ ?_))
   rw[List.drop_length] at h0
   simp only[List.all_nil] at h0
   rw[←h0]
   exact⟨rfl,by first|rfl|trivial⟩
  ·intro k s hk hs hd htk hnext h0
   have hsl:s.length≤tot bH n:=j8 (w:=bH) hs
   rw[hd,List.all_cons] at h0
   refine zR _ _ _ _ _ _ (ai (by simp;omega) ?_)
   have keyI:(s.drop 0).all (fX t.lows i)=s.all (fX t.lows i)→ah C bA kP 3 2 (ja i k ((0:Nat):Int) (t.lows.map bP) (t.nodes.map aX) (n.map cc)) (fun u st=>qA C bA aH 4 0 DA u st (fun u st=>aF C bA aH u st fun r fs=>r=vB (n.all (bT t.lows i))∧fs=[])):=by
    refine bD s (fun j=>(s.drop j).all (fX t.lows i)=s.all (fX t.lows i)→ah C bA kP 3 2 (ja i k j (t.lows.map bP) (t.nodes.map aX) (n.map cc)) (fun u st=>qA C bA aH 4 0 DA u st (fun u st=>aF C bA aH u st fun r fs=>r=vB (n.all (bT t.lows i))∧fs=[]))) ?_ ?_
    ·intro h1
     rw[List.drop_length] at h1
     simp only[List.all_nil] at h1
     refine zS _ _ _ _ _ _ _ (⟨_,cK hs,aq (by simp) (H7 _ _ _ _ _ _ _ _ ?_)⟩)
     rw[aJ (by omega)]
     exact hnext (by rw[←h0];unfold bT;rw[←h1];simp)
    ·intro j x hj hx hdj htj hn2 h1
     rw[hdj,List.all_cons] at h1
     have gO:fX t.lows i x=false→qA C bA aH 4 0 DA TX.ret (o8 (t.lows.map bP) (t.nodes.map aX) (n.map cc)) (fun u st=>aF C bA aH u st fun r fs=>r=vB (n.all (bT t.lows i))∧fs=[]):=fun e=>H6 _ _ _ _ (H8 _ _ _ _ (by
      have e2:bT t.lows i s=false:=by unfold bT;rw[←h1,e];rfl
      rw[←h0,e2];exact⟨rfl,by first|rfl|trivial⟩))
     have gN:fX t.lows i x=true→ah C bA kP 3 2 (ja i k ((j:Int)+1) (t.lows.map bP) (t.nodes.map aX) (n.map cc)) (fun u st=>qA C bA aH 4 0 DA u st (fun u st=>aF C bA aH u st fun r fs=>r=vB (n.all (bT t.lows i))∧fs=[])):=fun e=>hn2 (by rw[←h1,e];rfl)
     have e:fX t.lows i x=(!decide (gm x.b x.a<t.lows[i])&&(match t.lows[i+1]? with|some hi=>decide (gm x.b x.a<hi)|none=>true)):=by simp only[fX,RY,hlo];rfl
     rw[e] at gO gN
     refine zS _ _ _ _ _ _ _ (⟨_,cK hs,ai (by simp;omega) ⟨_,cK hs,?_⟩⟩)
     rw[aJ (a:=(i:Int)) (by omega),aJ (a:=(j:Int)) (by omega)]
     simp only[jN,rO,aL,hx,hlo,Option.some.injEq,exists_eq_left',CM,exists_eq_left,ez,gX,bF,List.length_map,Int.ofNat_eq_natCast]
     by_cases h2:gm x.b x.a<t.lows[i]
     ·rw[if_pos h2]
      exact gO (by rw[decide_eq_true h2];rfl)
     ·rw[if_neg h2]
      by_cases h3:i+1<t.lows.length
      ·have hhi:t.lows[i+1]?=some t.lows[i+1]:=List.getElem?_eq_getElem h3
       rw[if_pos (by omega),show((i:Int)+1)=((i+1:Nat):Int) by omega,aL,hhi]
       simp only[Option.some.injEq,exists_eq_left']
       rw[hhi] at gO gN
       by_cases h4:gm x.b x.a<t.lows[i+1]
       ·rw[if_neg (by omega)]
        exact gN (by rw[decide_eq_false h2];simp[h4])
       ·rw[if_pos (by omega)]
        exact gO (by simp[h4])
      ·rw[if_neg (by omega)]
       have hno:t.lows[i+1]?=none:=List.getElem?_eq_none (by omega)
       rw[hno] at gN
       exact gN (by rw[decide_eq_false h2];rfl)
   exact keyI rfl
 exact key rfl
theorem Ds (t:Tree) (i:Nat) (n:List (List Key)) (hi:i<t.lows.length) (hl:cZ t≤1073741824) (hn:n.length≤1073741824) (hz:tot bH n≤1073741824):ah C bh ak 4 0 (iR i (n.map cc) (n.length:Int) ((0:Nat):Int) (t.lows.map bP) (t.nodes.map aX)) (fun u st=>aF C bh ak u st fun r fs=>r=vB (n.all (bT t.lows i))∧fs=[]):=by
 have hll:t.lows.length≤1073741824:=by unfold cZ at hl;omega
 have hlo:t.lows[i]?=some t.lows[i]:=List.getElem?_eq_getElem hi
 have key:(n.drop 0).all (bT t.lows i)=n.all (bT t.lows i)→ah C bh ak 4 0 (iR i (n.map cc) (n.length:Int) ((0:Nat):Int) (t.lows.map bP) (t.nodes.map aX)) (fun u st=>aF C bh ak u st fun r fs=>r=vB (n.all (bT t.lows i))∧fs=[]):=by
  refine bD n (fun k=>(n.drop k).all (bT t.lows i)=n.all (bT t.lows i)→ah C bh ak 4 0 (iR i (n.map cc) (n.length:Int) k (t.lows.map bP) (t.nodes.map aX)) (fun u st=>aF C bh ak u st fun r fs=>r=vB (n.all (bT t.lows i))∧fs=[])) ?_ ?_
  ·intro h0
   refine vF _ _ _ _ _ _ _ (aq (by simp) (ET _ _ _ _ _ _ _ _ ?_))
   rw[List.drop_length] at h0
   simp only[List.all_nil] at h0
   rw[←h0]
   exact⟨rfl,by first|rfl|trivial⟩
  ·intro k s hk hs hd htk hnext h0
   have hsl:s.length≤tot bH n:=j8 (w:=bH) hs
   rw[hd,List.all_cons] at h0
   refine vF _ _ _ _ _ _ _ (ai (by simp;omega) ⟨_,cK hs,?_⟩)
   have keyI:(s.drop 0).all (fX t.lows i)=s.all (fX t.lows i)→ah C bh kO 3 2 (gv i (n.map cc) (n.length:Int) k (s.map bM) ((0:Nat):Int) (t.lows.map bP) (t.nodes.map aX)) (fun u st=>qA C bh ak 4 0 tM u st (fun u st=>aF C bh ak u st fun r fs=>r=vB (n.all (bT t.lows i))∧fs=[])):=by
    refine bD s (fun j=>(s.drop j).all (fX t.lows i)=s.all (fX t.lows i)→ah C bh kO 3 2 (gv i (n.map cc) (n.length:Int) k (s.map bM) j (t.lows.map bP) (t.nodes.map aX)) (fun u st=>qA C bh ak 4 0 tM u st (fun u st=>aF C bh ak u st fun r fs=>r=vB (n.all (bT t.lows i))∧fs=[]))) ?_ ?_
    ·intro h1
     rw[List.drop_length] at h1
     simp only[List.all_nil] at h1
     refine vG _ _ _ _ _ _ _ _ _ (aq (by simp) (EV _ _ _ _ _ _ _ _ _ _ _ ?_))
     rw[aJ (by omega)]
     exact hnext (by rw[←h0];unfold bT;rw[←h1];simp)
    ·intro j x hj hx hdj htj hn2 h1
     rw[hdj,List.all_cons] at h1
     have gO:fX t.lows i x=false→qA C bh ak 4 0 tM TX.ret (ng (t.lows.map bP) (t.nodes.map aX) x.b x.a x.k x.c x.g) (fun u st=>aF C bh ak u st fun r fs=>r=vB (n.all (bT t.lows i))∧fs=[]):=fun e=>EU _ _ _ _ _ _ _ _ (EW _ _ _ _ _ _ _ _ (by
      have e2:bT t.lows i s=false:=by unfold bT;rw[←h1,e];rfl
      rw[←h0,e2];exact⟨rfl,by first|rfl|trivial⟩))
     have gN:fX t.lows i x=true→ah C bh kO 3 2 (gv i (n.map cc) (n.length:Int) k (s.map bM) ((j:Int)+1) (t.lows.map bP) (t.nodes.map aX)) (fun u st=>qA C bh ak 4 0 tM u st (fun u st=>aF C bh ak u st fun r fs=>r=vB (n.all (bT t.lows i))∧fs=[])):=fun e=>hn2 (by rw[←h1,e];rfl)
     have e:fX t.lows i x=(!decide (gm x.b x.a<t.lows[i])&&(match t.lows[i+1]? with|some hi=>decide (gm x.b x.a<hi)|none=>true)):=by simp only[fX,RY,hlo];rfl
     rw[e] at gO gN
     refine vG _ _ _ _ _ _ _ _ _ (ai (by simp;omega) ?_)
     rw[aJ (a:=(i:Int)) (by omega),aJ (a:=(j:Int)) (by omega)]
     simp only[jN,rO,aL,hx,hlo,Option.some.injEq,exists_eq_left',wj,exists_eq_left,ez,gX,bF,List.length_map,Int.ofNat_eq_natCast]
     by_cases h2:gm x.b x.a<t.lows[i]
     ·rw[if_pos h2]
      exact gO (by rw[decide_eq_true h2];rfl)
     ·rw[if_neg h2]
      by_cases h3:i+1<t.lows.length
      ·have hhi:t.lows[i+1]?=some t.lows[i+1]:=List.getElem?_eq_getElem h3
       rw[if_pos (by omega),show((i:Int)+1)=((i+1:Nat):Int) by omega,aL,hhi]
       simp only[Option.some.injEq,exists_eq_left']
       rw[hhi] at gO gN
       by_cases h4:gm x.b x.a<t.lows[i+1]
       ·rw[if_neg (by omega)]
        exact gN (by rw[decide_eq_false h2];simp[h4])
       ·rw[if_pos (by omega)]
        exact gO (by simp[h4])
      ·rw[if_neg (by omega)]
       have hno:t.lows[i+1]?=none:=List.getElem?_eq_none (by omega)
       rw[hno] at gN
       exact gN (by rw[decide_eq_false h2];rfl)
   exact keyI rfl
 exact key rfl
theorem HH (t:Tree) (i:Nat) (n:List (List Key)) (ha:t.nodes[i]?=some n) (hlo:i<t.lows.length) (hl:cZ t≤1073741824):aa C bA [dj t,vI i] (vB (eY n&&((decide (i=0)|| !decide ((aR n).length=0))&&n.all (bT t.lows i)))) []:=by
 have hz:aQ n≤tot aQ t.nodes:=j8 (w:=aQ) ha
 have e1:aQ n=n.length+tot bH n:=rfl
 have e2:cZ t=t.lows.length+(t.nodes.length+tot aQ t.nodes):=rfl
 have hnk:=cP n
 refine(Mq _ _ _ _ ⟨_,cK (e:=aX) ha,_,rS n (by omega) (by omega),?_⟩).run
 cases h1:eY n with
 |false=>exact ai rfl ⟨rfl,by first|rfl|trivial⟩
 |true=>
  refine aq rfl ?_
  have hloop:=FM t i n hlo hl (by omega) (by omega)
  have conv: ∀B:Bool,B=n.all (bT t.lows i)→ah C bA aH 4 0 (gH i 0 (t.lows.map bP) (t.nodes.map aX) (n.map cc)) (fun u st=>aF C bA aH u st fun r fs=>r=vB B∧fs=[]):=fun B hB=>by subst hB;exact hloop
  cases i with
  |zero=>exact aq (by simp) (conv _ (by simp))
  |succ k=>
   refine ai (by first|(simp;done)|(simp;omega)) ⟨_,uQ n (by omega) (by omega),?_⟩
   by_cases h2:(aR n).length=0
   ·refine ai (by simp[h2]) ?_
    simp[h2]
   ·exact aq (by simpa using h2) (conv _ (by simp[h2]))
theorem rU (t:Tree) (hl:cZ t≤1073741824):aa C an [dj t] (vB (eg t)) []:=by
 have e2:cZ t=t.lows.length+(t.nodes.length+tot aQ t.nodes):=rfl
 refine(MA _ _ _ ?_).run
 simp only[BE,exists_eq_left,List.length_map,Int.ofNat_eq_natCast,aP,bJ]
 unfold eg
 cases h1:jh (t.nodes.length:Int) 1 20 with
 |false=>exact aq rfl ⟨rfl,by first|rfl|trivial⟩
 |true=>
  refine ai rfl ?_
  have hn1:1≤t.nodes.length:=by have:=of_decide_eq_true h1;omega
  by_cases h2:t.lows.length=t.nodes.length
  ·refine ai (by simp[h2]) ?_
   have h0:t.lows[0]?=some t.lows[0]:=List.getElem?_eq_getElem (by omega)
   have hz0:gP t.lows 0=some t.lows[0]:=by rw[show(0:Int)=((0:Nat):Int) from rfl,aL];exact h0
   simp only[rO,hz0,h0,Option.some.injEq,exists_eq_left',bF]
   by_cases h3:t.lows[0]=0
   ·rw[if_pos (by simpa using h3)]
    have hw:(true&&(decide (t.lows.length=t.nodes.length)&&((decide (t.lows[0]=0))&&(cH t.nodes.length (cL t)&&decide ((bu t).length≤60)))))=(cH t.nodes.length (cL t)&&decide ((bu t).length≤60)):=by simp[h2,h3]
    rw[hw]
    have key:((List.range' 0 (t.nodes.length-0)).all (cL t)&&decide ((bu t).length≤60))=(cH t.nodes.length (cL t)&&decide ((bu t).length≤60))→ah C an aj 4 0 (jb ((0:Nat):Int) (t.lows.map bP) (t.nodes.map aX)) (fun u st=>aF C an aj u st fun r fs=>r=vB (cH t.nodes.length (cL t)&&decide ((bu t).length≤60))∧fs=[]):=by
     refine nH t.nodes.length (fun i=>((List.range' i (t.nodes.length-i)).all (cL t)&&decide ((bu t).length≤60))=(cH t.nodes.length (cL t)&&decide ((bu t).length≤60))→ah C an aj 4 0 (jb i (t.lows.map bP) (t.nodes.map aX)) _) ?_ ?_
     ·intro h0
      rw[Nat.sub_self] at h0
      simp only[List.range'_zero,List.all_nil,Bool.true_and] at h0
      refine zY _ _ _ _ (aq (by simp) (Iu _ _ _ _ _ ⟨_,qp t hl,?_⟩))
      rw[←h0]
      simp[gX]
      omega
     ·intro i hi hn h0
      rw[jC hi,List.all_cons] at h0
      have ha:t.nodes[i]?=some t.nodes[i]:=List.getElem?_eq_getElem hi
      have hli:t.lows[i]?=some t.lows[i]:=List.getElem?_eq_getElem (by omega)
      have gO:cL t i=false→aF C an aj TX.ret (mq (t.lows.map bP) (t.nodes.map aX)) (fun r fs=>r=vB (cH t.nodes.length (cL t)&&decide ((bu t).length≤60))∧fs=[]):=fun e=>Is _ _ _ (by rw[←h0,e];exact⟨rfl,by first|rfl|trivial⟩)
      have gN:cL t i=true→ah C an aj 4 0 (jb ((i:Int)+1) (t.lows.map bP) (t.nodes.map aX)) (fun u st=>aF C an aj u st fun r fs=>r=vB (cH t.nodes.length (cL t)&&decide ((bu t).length≤60))∧fs=[]):=fun e=>hn (by rw[←h0,e];rfl)
      have hh: ∀q,aa C bA [dj t,vI i] (vB q) []↔q=_:=fun q=>qS (HH t i t.nodes[i] ha (by omega) hl)
      refine zY _ _ _ _ (ai (by simp;omega) ?_)
      rw[aJ (by omega)]
      simp only[hh,exists_eq_left,ez,gX,bF,bJ]
      cases i with
      |zero=>
       have e:cL t 0=(eY t.nodes[0]&&((decide (0=0)|| !decide ((aR t.nodes[0]).length=0))&&t.nodes[0].all (bT t.lows 0))):=by simp only[cL,gC,ha,Bool.true_and]
       rw[e] at gO gN
       rw[if_neg (by omega)]
       exact nF gN gO
      |succ k=>
       have hk:t.lows[k]?=some t.lows[k]:=List.getElem?_eq_getElem (by omega)
       have e:cL t (k+1)=(decide (t.lows[k]<t.lows[k+1])&&(eY t.nodes[k+1]&&((decide (k+1=0)|| !decide ((aR t.nodes[k+1]).length=0))&&t.nodes[k+1].all (bT t.lows (k+1))))):=by simp only[cL,gC,ha,hk,hli]
       rw[e] at gO gN
       rw[if_pos (by omega),dH (by omega),show((k+1:Nat):Int)-1=(k:Int) by omega]
       simp only[rO,aL,hk,hli,Option.some.injEq,exists_eq_left']
       by_cases h4:t.lows[k]<t.lows[k+1]
       ·rw[if_neg (by omega)]
        rw[decide_eq_true h4,Bool.true_and] at gO gN
        exact nF gN gO
       ·rw[if_pos (by omega)]
        exact gO (by rw[decide_eq_false h4];rfl)
    exact key rfl
   ·rw[if_neg (by simpa using h3)]
    simp[h3]
  ·refine aq (by simp;omega) ?_
   simp[h2]
theorem EB (t:Tree) (i:Nat) (n:List (List Key)) (ha:t.nodes[i]?=some n) (hlo:i<t.lows.length) (hl:cZ t≤1073741824):aa C bh [dj t,vI i] (vB (n.all (bT t.lows i))) []:=by
 have hz:aQ n≤tot aQ t.nodes:=j8 (w:=aQ) ha
 have e1:aQ n=n.length+tot bH n:=rfl
 have e2:cZ t=t.lows.length+(t.nodes.length+tot aQ t.nodes):=rfl
 refine(Iz _ _ _ _ ⟨_,cK (e:=aX) ha,?_⟩).run
 simp only[List.length_map,Int.ofNat_eq_natCast]
 exact Ds t i n hlo hl (by omega) (by omega)
theorem rV (t:Tree) (hl:cZ t≤1073741824):aa C bI [dj t] (vB (eg t)) []:=by
 have e2:cZ t=t.lows.length+(t.nodes.length+tot aQ t.nodes):=rfl
 refine(Ml _ _ _ ?_).run
 simp only[rG,exists_eq_left,List.length_map,Int.ofNat_eq_natCast,aP,bJ]
 unfold eg
 cases h1:jh (t.nodes.length:Int) 1 20 with
 |false=>exact aq rfl ⟨rfl,by first|rfl|trivial⟩
 |true=>
  refine ai rfl ?_
  have hn1:1≤t.nodes.length:=by have:=of_decide_eq_true h1;omega
  by_cases h2:t.lows.length=t.nodes.length
  ·refine ai (by simp[h2]) ?_
   have h0:t.lows[0]?=some t.lows[0]:=List.getElem?_eq_getElem (by omega)
   have hz0:gP t.lows 0=some t.lows[0]:=by rw[show(0:Int)=((0:Nat):Int) from rfl,aL];exact h0
   simp only[rO,hz0,h0,Option.some.injEq,exists_eq_left',bF]
   by_cases h3:t.lows[0]=0
   ·rw[if_pos (by simpa using h3)]
    have hw:(true&&(decide (t.lows.length=t.nodes.length)&&((decide (t.lows[0]=0))&&(cH t.nodes.length (cL t)&&decide ((bu t).length≤60)))))=(cH t.nodes.length (cL t)&&decide ((bu t).length≤60)):=by simp[h2,h3]
    rw[hw]
    have key: ∀c:Nat,c+((t.nodes.drop 0).flatMap aR).length=(bu t).length→((List.range' 0 (t.nodes.length-0)).all (cL t)&&decide ((bu t).length≤60))=(cH t.nodes.length (cL t)&&decide ((bu t).length≤60))→ah C bI aH 4 0 (fH c (t.nodes.map aX) ((0:Nat):Int) (t.lows.map bP)) (fun u st=>aF C bI aH u st fun r fs=>r=vB (cH t.nodes.length (cL t)&&decide ((bu t).length≤60))∧fs=[]):=by
     refine nH t.nodes.length (fun i=> ∀c:Nat,c+((t.nodes.drop i).flatMap aR).length=(bu t).length→((List.range' i (t.nodes.length-i)).all (cL t)&&decide ((bu t).length≤60))=(cH t.nodes.length (cL t)&&decide ((bu t).length≤60))→ah C bI aH 4 0 (fH c (t.nodes.map aX) i (t.lows.map bP)) _) ?_ ?_
     ·intro c hc h0
      rw[Nat.sub_self] at h0
      simp only[List.range'_zero,List.all_nil,Bool.true_and] at h0
      rw[List.drop_length] at hc
      simp at hc
      refine zQ _ _ _ _ _ (aq (by simp) (HY _ _ _ _ _ _ _ ?_))
      rw[←h0]
      simp[gX]
      omega
     ·intro i hi hn c hc h0
      rw[jC hi,List.all_cons] at h0
      have ha:t.nodes[i]?=some t.nodes[i]:=List.getElem?_eq_getElem hi
      have hli:t.lows[i]?=some t.lows[i]:=List.getElem?_eq_getElem (by omega)
      rw[List.drop_eq_getElem_cons hi,List.flatMap_cons,List.length_append] at hc
      have hz:aQ t.nodes[i]≤tot aQ t.nodes:=j8 (w:=aQ) ha
      have e1:aQ t.nodes[i]=t.nodes[i].length+tot bH t.nodes[i]:=rfl
      have hnk:=cP t.nodes[i]
      have htk:=j9 t
      have gO1:cL t i=false→aF C bI aH TX.ret (iZ (t.lows.map bP) (t.nodes.map aX) (t.nodes[i].map cc)) (fun r fs=>r=vB (cH t.nodes.length (cL t)&&decide ((bu t).length≤60))∧fs=[]):=fun e=>HW _ _ _ _ (by rw[←h0,e];exact⟨rfl,by first|rfl|trivial⟩)
      have gO2:cL t i=false→aF C bI aH TX.ret (o7 (t.lows.map bP) (t.nodes.map aX) (t.nodes[i].map cc) ((aR t.nodes[i]).map bM)) (fun r fs=>r=vB (cH t.nodes.length (cL t)&&decide ((bu t).length≤60))∧fs=[]):=fun e=>HX _ _ _ _ _ (by rw[←h0,e];exact⟨rfl,by first|rfl|trivial⟩)
      have gN:cL t i=true→ah C bI aH 4 0 (fH ((c:Int)+((aR t.nodes[i]).length:Int)) (t.nodes.map aX) ((i:Int)+1) (t.lows.map bP)) (fun u st=>aF C bI aH u st fun r fs=>r=vB (cH t.nodes.length (cL t)&&decide ((bu t).length≤60))∧fs=[]):=fun e=>hn (c+(aR t.nodes[i]).length) (by omega) (by rw[←h0,e];rfl)
      have hb: ∀q,aa C bh [dj t,vI i] (vB q) []↔q=_:=fun q=>qS (EB t i t.nodes[i] ha (by omega) hl)
      have hk: ∀q,aa C cn [fK t.nodes[i]] (.c (.sub 5 q)) []↔q=(aR t.nodes[i]).map bM:=fun q=>iY t.nodes[i] (by omega) (by omega) q
      have ho: ∀q,aa C bn [fK t.nodes[i]] (vB q) []↔q=eY t.nodes[i]:=fun q=>Mc t.nodes[i] (by omega) (by omega) q
      refine zQ _ _ _ _ _ (ai (by simp;omega) ?_)
      simp only[qj,aL,ha,Option.some.injEq,exists_eq_left',hb,hk,ho,exists_eq_left,ez,gX,aP,bF,bJ,List.length_map,Int.ofNat_eq_natCast]
      rw[aJ (a:=(c:Int)) (by omega),aJ (a:=(i:Int)) (by omega)]
      cases i with
      |zero=>
       have e:cL t 0=(eY t.nodes[0]&&((decide (0=0)|| !decide ((aR t.nodes[0]).length=0))&&t.nodes[0].all (bT t.lows 0))):=by simp only[cL,gC,ha,Bool.true_and]
       rw[e] at gO1 gN
       have hzz: ¬((0:Int)<((0:Nat):Int)):=by omega
       simp only[if_neg hzz]
       cases h4:eY t.nodes[0] with
       |false=>exact aq rfl (gO1 (by rw[h4];rfl))
       |true=>
        refine ai rfl ?_
        cases h5:t.nodes[0].all (bT t.lows 0) with
        |false=>exact aq rfl (gO1 (by rw[h4,h5];simp))
        |true=>exact ai rfl (gN (by rw[h4,h5];simp))
      |succ k=>
       have hk1:t.lows[k]?=some t.lows[k]:=List.getElem?_eq_getElem (by omega)
       have e:cL t (k+1)=(decide (t.lows[k]<t.lows[k+1])&&(eY t.nodes[k+1]&&((decide (k+1=0)|| !decide ((aR t.nodes[k+1]).length=0))&&t.nodes[k+1].all (bT t.lows (k+1))))):=by simp only[cL,gC,ha,hk1,hli]
       rw[e] at gO1 gO2 gN
       have hzz:(0:Int)<((k+1:Nat):Int):=by omega
       simp only[if_pos hzz]
       rw[dH (by omega),show((k+1:Nat):Int)-1=(k:Int) by omega]
       simp only[rO,aL,hk1,hli,Option.some.injEq,exists_eq_left']
       by_cases h6:t.lows[k]<t.lows[k+1]
       ·rw[if_neg (by omega)]
        cases h4:eY t.nodes[k+1] with
        |false=>exact aq rfl (gO1 (by rw[h4];simp))
        |true=>
         refine ai rfl ?_
         cases h5:t.nodes[k+1].all (bT t.lows (k+1)) with
         |false=>exact aq rfl (gO1 (by rw[h4,h5];simp))
         |true=>
          refine ai rfl ?_
          by_cases h7:(aR t.nodes[k+1]).length=0
          ·rw[if_pos (by omega)];exact gO2 (by rw[h4,h5];simp[h7])
          ·rw[if_neg (by omega)];exact gN (by rw[h4,h5,decide_eq_true h6];simp[h7])
       ·rw[if_pos (by omega)]
        exact gO1 (by rw[decide_eq_false h6];rfl)
    exact key 0 (by simp[bu]) rfl
   ·rw[if_neg (by simpa using h3)]
    simp[h3]
  ·refine aq (by simp;omega) ?_
   simp[h2]
theorem FN (p:Pool) (hS:cO p≤4194304):aa C bw [fW p] (vB (gn p)) []:=by
 have hP:=gU hS
 have hname: ∀v∈p.vols,v.name.size≤140737488355328:=fun v hv=>by have:=mW (w:=p8) hv;have e:p8 v=v.name.size:=rfl;omega
 refine(K2 _ _ _ _ _ _ _ ?_).run
 unfold gn
 have key:((List.range' 0 (p.vols.length-0)).all (bZ p)&&decide (p.vols.length≤6))=(cH p.vols.length (bZ p)&&decide (p.vols.length≤6))→ah C bw ak 4 0 (jw ((0:Nat):Int) (p.t.lows.map bP) (p.t.nodes.map aX) (p.ages.map ek) (p.cells.map cY) (p.vols.map eA) p.next) (fun u st=>aF C bw ak u st fun r fs=>r=vB (cH p.vols.length (bZ p)&&decide (p.vols.length≤6))∧fs=[]):=by
  refine nH p.vols.length (fun i=>((List.range' i (p.vols.length-i)).all (bZ p)&&decide (p.vols.length≤6))=(cH p.vols.length (bZ p)&&decide (p.vols.length≤6))→ah C bw ak 4 0 (jw i (p.t.lows.map bP) (p.t.nodes.map aX) (p.ages.map ek) (p.cells.map cY) (p.vols.map eA) p.next) (fun u st=>aF C bw ak u st fun r fs=>r=vB (cH p.vols.length (bZ p)&&decide (p.vols.length≤6))∧fs=[])) ?_ ?_
  ·intro h0
   rw[Nat.sub_self] at h0
   simp only[List.range'_zero,List.all_nil,Bool.true_and] at h0
   refine xp _ _ _ _ _ _ _ _ (aq (by simp) (Ga _ _ _ _ _ _ _ _ _ ?_))
   rw[←h0]
   simp[gX]
   omega
  ·intro i hi hn h0
   rw[jC hi,List.all_cons] at h0
   have ha:p.vols[i]?=some p.vols[i]:=List.getElem?_eq_getElem hi
   have hv:=hname p.vols[i] (List.getElem_mem hi)
   have hkl:=KB p.ages p.vols[i].age
   have gO1:bZ p i=false→aF C bw ak TX.ret (jx (p.t.lows.map bP) (p.t.nodes.map aX) (p.ages.map ek) (p.cells.map cY) (p.vols.map eA) p.next p.vols[i].name p.vols[i].age p.vols[i].size p.vols[i].fx) (fun r fs=>r=vB (cH p.vols.length (bZ p)&&decide (p.vols.length≤6))∧fs=[]):=fun e=>F8 _ _ _ _ _ _ _ _ _ _ _ (by rw[←h0,e];exact⟨rfl,by first|rfl|trivial⟩)
   have gO2:bZ p i=false→aF C bw ak TX.ret (oc (p.t.lows.map bP) (p.t.nodes.map aX) (p.ages.map ek) (p.cells.map cY) (p.vols.map eA) p.next p.vols[i].name p.vols[i].age p.vols[i].size p.vols[i].fx ((jj p.ages p.vols[i].age).map bP)) (fun r fs=>r=vB (cH p.vols.length (bZ p)&&decide (p.vols.length≤6))∧fs=[]):=fun e=>F9 _ _ _ _ _ _ _ _ _ _ _ _ (by rw[←h0,e];exact⟨rfl,by first|rfl|trivial⟩)
   have gN:bZ p i=true→ah C bw ak 4 0 (jw ((i:Int)+1) (p.t.lows.map bP) (p.t.nodes.map aX) (p.ages.map ek) (p.cells.map cY) (p.vols.map eA) p.next) (fun u st=>aF C bw ak u st fun r fs=>r=vB (cH p.vols.length (bZ p)&&decide (p.vols.length≤6))∧fs=[]):=fun e=>hn (by rw[←h0,e];rfl)
   have hin: ∀b:Bool,((p.vols.take i).any fun u=>decide (u.age=p.vols[i].age))=b→(b=true→bZ p i=false)→(b=false→bZ p i=true)→ah C bw kN 3 2 (g6 i 0 (p.t.lows.map bP) (p.t.nodes.map aX) (p.ages.map ek) (p.cells.map cY) (p.vols.map eA) p.next p.vols[i].name p.vols[i].age p.vols[i].size p.vols[i].fx) (fun u st=>qA C bw ak 4 0 tL u st (fun u st=>aF C bw ak u st fun r fs=>r=vB (cH p.vols.length (bZ p)&&decide (p.vols.length≤6))∧fs=[])):=by
    intro b hb hbt hbf
    have keyI:(((p.vols.take i).drop 0).any fun u=>decide (u.age=p.vols[i].age))=b→ah C bw kN 3 2 (g6 i ((0:Nat):Int) (p.t.lows.map bP) (p.t.nodes.map aX) (p.ages.map ek) (p.cells.map cY) (p.vols.map eA) p.next p.vols[i].name p.vols[i].age p.vols[i].size p.vols[i].fx) (fun u st=>qA C bw ak 4 0 tL u st (fun u st=>aF C bw ak u st fun r fs=>r=vB (cH p.vols.length (bZ p)&&decide (p.vols.length≤6))∧fs=[])):=by
     have hle:(p.vols.take i).length=i:=by simp;omega
     refine bD (p.vols.take i) (fun k=>(((p.vols.take i).drop k).any fun u=>decide (u.age=p.vols[i].age))=b→ah C bw kN 3 2 (g6 i k (p.t.lows.map bP) (p.t.nodes.map aX) (p.ages.map ek) (p.cells.map cY) (p.vols.map eA) p.next p.vols[i].name p.vols[i].age p.vols[i].size p.vols[i].fx) (fun u st=>qA C bw ak 4 0 tL u st (fun u st=>aF C bw ak u st fun r fs=>r=vB (cH p.vols.length (bZ p)&&decide (p.vols.length≤6))∧fs=[]))) ?_ ?_
     ·intro h1
      rw[List.drop_length] at h1
      simp only[List.any_nil] at h1
      refine xq _ _ _ _ _ _ _ _ _ _ _ _ _ (aq (by simp;omega) (Gc _ _ _ _ _ _ _ _ _ _ _ _ _ ?_))
      rw[aJ (by omega)]
      exact gN (hbf h1.symm)
     ·intro k u hk hu hd htk hn2 h1
      have hu':p.vols[k]?=some u:=by rw[←hu,List.getElem?_take];simp;omega
      rw[hd,List.any_cons] at h1
      refine xq _ _ _ _ _ _ _ _ _ _ _ _ _ (ai (by simp;omega) ?_)
      rw[aJ (by omega)]
      simp only[Be,aL,hu',Option.some.injEq,exists_eq_left',aP,bF]
      by_cases h2:u.age=p.vols[i].age
      ·rw[if_pos h2]
       rw[decide_eq_true h2,Bool.true_or] at h1
       exact Gb _ _ _ _ _ _ _ _ _ _ _ (gO1 (hbt h1.symm))
      ·rw[if_neg h2]
       rw[decide_eq_false h2,Bool.false_or] at h1
       exact hn2 h1
    exact keyI hb
   have hage: ∀z,aa C dG [ji p.ages,vI p.vols[i].age] (vI z) []↔z=gT p.ages p.vols[i].age:=fun z=>yu p.ages p.vols[i].age (by omega) z
   have hkid: ∀z,aa C eJ [ji p.ages,vI p.vols[i].age] (.c (.sub 1 z)) []↔z=(jj p.ages p.vols[i].age).map bP:=fun z=>Qx (Hz p.ages p.vols[i].age (by omega))
   refine xp _ _ _ _ _ _ _ _ (ai (by simp;omega) ?_)
   simp only[Be,aL,ha,Option.some.injEq,exists_eq_left',CJ p.vols[i].name hv,BE,hage,hkid,exists_eq_left,bJ,ez,bF,List.length_map,Int.ofNat_eq_natCast]
   cases h1:qT p.vols[i].name with
   |false=>exact aq rfl (gO1 (by simp[bZ,ha,h1]))
   |true=>
    refine ai rfl ?_
    cases h2:jh p.vols[i].size 1 12 with
    |false=>exact aq rfl (gO1 (by simp[bZ,ha,h2]))
    |true=>
     refine ai rfl ?_
     by_cases h3:gT p.ages p.vols[i].age<0
     ·rw[if_pos h3];exact gO1 (by simp[bZ,ha,h3])
     ·rw[if_neg h3]
      by_cases h4:(jj p.ages p.vols[i].age).length=0
      ·rw[if_neg (by omega)]
       cases i with
       |zero=>
        rw[if_neg (by omega)]
        exact hin _ rfl (fun e=>by simp at e) (fun e=>by simp[bZ,ha,h1,h2,h3,h4,gC])
       |succ k=>
        have hk:p.vols[k]?=some p.vols[k]:=List.getElem?_eq_getElem (by omega)
        rw[if_pos (by omega),dH (by omega),show((k+1:Nat):Int)-1=(k:Int) by omega]
        simp only[aL,hk,Option.some.injEq,exists_eq_left']
        cases h5:LM p.vols[k].name p.vols[k+1].name with
        |false=>exact aq rfl (gO2 (by simp[bZ,ha,hk,gC,h5]))
        |true=>exact ai rfl (hin _ rfl (fun e=>by simp only[bZ,ha,e];simp) (fun e=>by simp only[bZ,ha,hk,gC,h5,h1,h2,e];simp[h3,h4]))
      ·rw[if_pos (by omega)];exact gO2 (by simp[bZ,ha,h4])
 exact key rfl
theorem HI (p:Pool) (hS:cO p≤4194304):aa C dz [fW p] (vB (gn p)) []:=by
 have hP:=gU hS
 have hname: ∀v∈p.vols,v.name.size≤140737488355328:=fun v hv=>by have:=mW (w:=p8) hv;have e:p8 v=v.name.size:=rfl;omega
 refine(Nb _ _ _ _ _ _ _ ?_).run
 unfold gn
 have key:((List.range' 0 (p.vols.length-0)).all (bZ p)&&decide (p.vols.length≤6))=(cH p.vols.length (bZ p)&&decide (p.vols.length≤6))→ah C dz ak 4 0 (jg (p.vols.map eA) ((0:Nat):Int) (p.t.lows.map bP) (p.t.nodes.map aX) (p.ages.map ek) (p.cells.map cY) p.next) (fun u st=>aF C dz ak u st fun r fs=>r=vB (cH p.vols.length (bZ p)&&decide (p.vols.length≤6))∧fs=[]):=by
  refine nH p.vols.length (fun i=>((List.range' i (p.vols.length-i)).all (bZ p)&&decide (p.vols.length≤6))=(cH p.vols.length (bZ p)&&decide (p.vols.length≤6))→ah C dz ak 4 0 (jg (p.vols.map eA) i (p.t.lows.map bP) (p.t.nodes.map aX) (p.ages.map ek) (p.cells.map cY) p.next) (fun u st=>aF C dz ak u st fun r fs=>r=vB (cH p.vols.length (bZ p)&&decide (p.vols.length≤6))∧fs=[])) ?_ ?_
  ·intro h0
   rw[Nat.sub_self] at h0
   simp only[List.range'_zero,List.all_nil,Bool.true_and] at h0
   refine Av _ _ _ _ _ _ _ _ (aq (by simp) (Jj _ _ _ _ _ _ _ _ _ _ ?_))
   rw[←h0]
   simp[gX]
   omega
  ·intro i hi hn h0
   rw[jC hi,List.all_cons] at h0
   have ha:p.vols[i]?=some p.vols[i]:=List.getElem?_eq_getElem hi
   have hv:=hname p.vols[i] (List.getElem_mem hi)
   have hkl:=KB p.ages p.vols[i].age
   have gO1:bZ p i=false→aF C dz ak TX.ret (gL (p.t.lows.map bP) (p.t.nodes.map aX) (p.ages.map ek) (p.cells.map cY) (p.vols.map eA) p.next p.vols[i].name p.vols[i].age p.vols[i].size p.vols[i].fx) (fun r fs=>r=vB (cH p.vols.length (bZ p)&&decide (p.vols.length≤6))∧fs=[]):=fun e=>Jh _ _ _ _ _ _ _ _ _ _ _ (by rw[←h0,e];exact⟨rfl,by first|rfl|trivial⟩)
   have gO2:bZ p i=false→aF C dz ak TX.ret (jT (p.t.lows.map bP) (p.t.nodes.map aX) (p.ages.map ek) (p.cells.map cY) (p.vols.map eA) p.next p.vols[i].name p.vols[i].age p.vols[i].size p.vols[i].fx ((jj p.ages p.vols[i].age).map bP)) (fun r fs=>r=vB (cH p.vols.length (bZ p)&&decide (p.vols.length≤6))∧fs=[]):=fun e=>Ji _ _ _ _ _ _ _ _ _ _ _ _ (by rw[←h0,e];exact⟨rfl,by first|rfl|trivial⟩)
   have gN:bZ p i=true→ah C dz ak 4 0 (jg (p.vols.map eA) ((i:Int)+1) (p.t.lows.map bP) (p.t.nodes.map aX) (p.ages.map ek) (p.cells.map cY) p.next) (fun u st=>aF C dz ak u st fun r fs=>r=vB (cH p.vols.length (bZ p)&&decide (p.vols.length≤6))∧fs=[]):=fun e=>hn (by rw[←h0,e];rfl)
   have hage: ∀z,aa C iX [ji p.ages,vI p.vols[i].age] (vI z) []↔z=gT p.ages p.vols[i].age:=fun z=>yw p.ages p.vols[i].age (by omega) z
   have hkid: ∀z,aa C eK [ji p.ages,vI p.vols[i].age] (.c (.sub 1 z)) []↔z=(jj p.ages p.vols[i].age).map bP:=fun z=>Qx (HC p.ages p.vols[i].age (by omega))
   have hcut:ax (p.vols.map eA) 0 (i:Int)=(p.vols.take i).map eA:=by rw[cz,Int.toNat_natCast];rfl
   have hcin:cE 0 (i:Int) (p.vols.length:Int)=true:=by simp;omega
   have hhas: ∀z,aa C ga [yC (p.vols.take i),.fn mM [[iS p.vols[i].name,iI p.vols[i].age,iI p.vols[i].size,iB p.vols[i].fx]]] (vB z) []↔z=(p.vols.take i).any fun u=>decide (u.age=p.vols[i].age):=fun z=>qS (AL (p.vols.take i) _ _ _ _ (by simp;omega))
   refine Av _ _ _ _ _ _ _ _ (ai (by simp;omega) ?_)
   simp only[hcut,Be,aL,ha,Option.some.injEq,exists_eq_left',CK p.vols[i].name hv,rG,hage,hkid,hhas,exists_eq_left,bJ,ez,bF,List.length_map,Int.ofNat_eq_natCast]
   rw[aJ (by omega)]
   cases h1:qT p.vols[i].name with
   |false=>exact aq rfl (gO1 (by simp[bZ,ha,h1]))
   |true=>
    refine ai rfl ?_
    cases i with
    |zero=>
     rw[if_neg (by omega)]
     cases h2:jh p.vols[0].size 1 12 with
     |false=>exact aq rfl (gO1 (by simp[bZ,ha,h2]))
     |true=>
      refine ai rfl ?_
      by_cases h3:gT p.ages p.vols[0].age<0
      ·rw[if_pos h3];exact gO1 (by simp[bZ,ha,h3])
      ·rw[if_neg h3]
       by_cases h4:(jj p.ages p.vols[0].age).length=0
       ·rw[if_neg (by omega)]
        refine ai hcin ?_
        cases h6:(p.vols.take (0)).any fun u=>decide (u.age=p.vols[0].age) with
        |true=>exact ai rfl (gO2 (by simp only[bZ,ha,h6];simp))
        |false=>exact aq rfl (gN (by simp only[bZ,ha,h6,h1,h2,gC];simp[h3,h4]))
       ·rw[if_pos (by omega)];exact gO2 (by simp[bZ,ha,h4])
    |succ k=>
     have hk:p.vols[k]?=some p.vols[k]:=List.getElem?_eq_getElem (by omega)
     rw[if_pos (by omega),dH (by omega),show((k+1:Nat):Int)-1=(k:Int) by omega]
     simp only[aL,hk,Option.some.injEq,exists_eq_left']
     cases h5:LM p.vols[k].name p.vols[k+1].name with
     |false=>exact aq rfl (gO1 (by simp[bZ,ha,hk,gC,h5]))
     |true=>
      refine ai rfl ?_
      cases h2:jh p.vols[k+1].size 1 12 with
      |false=>exact aq rfl (gO1 (by simp[bZ,ha,h2]))
      |true=>
       refine ai rfl ?_
       by_cases h3:gT p.ages p.vols[k+1].age<0
       ·rw[if_pos h3];exact gO1 (by simp[bZ,ha,h3])
       ·rw[if_neg h3]
        by_cases h4:(jj p.ages p.vols[k+1].age).length=0
        ·rw[if_neg (by omega)]
         refine ai hcin ?_
         cases h6:(p.vols.take (k+1)).any fun u=>decide (u.age=p.vols[k+1].age) with
         |true=>exact ai rfl (gO2 (by simp only[bZ,ha,h6];simp))
         |false=>exact aq rfl (gN (by simp only[bZ,ha,h6,h1,h2,gC,hk,h5];simp[h3,h4]))
        ·rw[if_pos (by omega)];exact gO2 (by simp[bZ,ha,h4])
 exact key rfl
theorem VF:oG 24=24:=by unfold oG;rfl
theorem ZO {n:Nat} (h:n≤1000):(true&&cU 24 24&&oD 0 24&&fits (oG 24) n)=true:=by rw[VF,cW (by omega)];simp
theorem Yr:(nU []).map G2=List.replicate 24 [iB false]:=by rw[QA];rfl
theorem FO (p:Pool) (hS:cO p≤4194304):aa C bG [fW p] (vB (ie p)) []:=by
 have hP:=gU hS
 have htl:=j9 p.t
 refine(Li _ _ _ _ _ _ _ ?_).run
 refine⟨_,qp p.t (by omega),?_⟩
 unfold ie
 generalize bu p.t=L at*
 have hdk:cg L≤L.length:=List.length_filter_le _ _
 have key: ∀c:Nat,c+cg (L.drop 0)=cg L→((List.range' 0 (L.length-0)).all (cF p L)&&decide ((bQ p.cells:Int)=cg L))=(cH L.length (cF p L)&&decide ((bQ p.cells:Int)=cg L))→ah C bG aH 4 0 (g8 (c:Int) ((0:Nat):Int) (p.t.lows.map bP) (p.t.nodes.map aX) (p.ages.map ek) (p.cells.map cY) (p.vols.map eA) p.next (L.map bM)) (fun u st=>aF C bG aH u st fun r fs=>r=vB (cH L.length (cF p L)&&decide ((bQ p.cells:Int)=cg L))∧fs=[]):=by
  refine nH L.length (fun i=> ∀c:Nat,c+cg (L.drop i)=cg L→((List.range' i (L.length-i)).all (cF p L)&&decide ((bQ p.cells:Int)=cg L))=(cH L.length (cF p L)&&decide ((bQ p.cells:Int)=cg L))→ah C bG aH 4 0 (g8 (c:Int) i (p.t.lows.map bP) (p.t.nodes.map aX) (p.ages.map ek) (p.cells.map cY) (p.vols.map eA) p.next (L.map bM)) (fun u st=>aF C bG aH u st fun r fs=>r=vB (cH L.length (cF p L)&&decide ((bQ p.cells:Int)=cg L))∧fs=[])) ?_ ?_
  ·intro c hc h0
   rw[Nat.sub_self] at h0
   simp only[List.range'_zero,List.all_nil,Bool.true_and] at h0
   rw[List.drop_length] at hc
   have hc0:c=cg L:=by simpa [cg] using hc
   subst hc0
   refine xA _ _ _ _ _ _ _ _ _ _ (aq (by simp) (Gp _ _ _ _ _ _ _ _ _ _ _ ⟨_,Dn p.cells (by omega),?_⟩))
   rw[←h0]
   refine⟨?_,by first|rfl|trivial⟩
   simp[aP,eq_comm]
  ·intro i hi hn c hc h0
   rw[jC hi,List.all_cons] at h0
   have ha:L[i]?=some L[i]:=List.getElem?_eq_getElem hi
   rw[List.drop_eq_getElem_cons hi,CF] at hc
   have gO1:cF p L i=false→aF C bG aH TX.ret (lC (p.t.lows.map bP) (p.t.nodes.map aX) (p.ages.map ek) (p.cells.map cY) (p.vols.map eA) p.next (L.map bM)) (fun r fs=>r=vB (cH L.length (cF p L)&&decide ((bQ p.cells:Int)=cg L))∧fs=[]):=fun e=>Gn _ _ _ _ _ _ _ _ (by rw[←h0,e];exact⟨rfl,by first|rfl|trivial⟩)
   have gN: ∀c':Nat,c'+cg (L.drop (i+1))=cg L→cF p L i=true→ah C bG aH 4 0 (g8 (c':Int) ((i:Int)+1) (p.t.lows.map bP) (p.t.nodes.map aX) (p.ages.map ek) (p.cells.map cY) (p.vols.map eA) p.next (L.map bM)) (fun u st=>aF C bG aH u st fun r fs=>r=vB (cH L.length (cF p L)&&decide ((bQ p.cells:Int)=cg L))∧fs=[]):=fun c' e' e=>hn c' e' (by rw[←h0,e];rfl)
   have hin: ∀b:Bool,((L.take i).any fun x=>decide (x.k=1)&&decide (x.c=L[i].c))=b→(b=true→cF p L i=false)→(b=false→cF p L i=true)→L[i].k=1→ah C bG fR 3 2 (g9 c i 0 (p.t.lows.map bP) (p.t.nodes.map aX) (p.ages.map ek) (p.cells.map cY) (p.vols.map eA) p.next (L.map bM)) (fun u st=>qA C bG aH 4 0 qd u st (fun u st=>aF C bG aH u st fun r fs=>r=vB (cH L.length (cF p L)&&decide ((bQ p.cells:Int)=cg L))∧fs=[])):=by
    intro b hb hbt hbf hk1
    rw[if_pos hk1] at hc
    have keyI:(((L.take i).drop 0).any fun x=>decide (x.k=1)&&decide (x.c=L[i].c))=b→ah C bG fR 3 2 (g9 c i ((0:Nat):Int) (p.t.lows.map bP) (p.t.nodes.map aX) (p.ages.map ek) (p.cells.map cY) (p.vols.map eA) p.next (L.map bM)) (fun u st=>qA C bG aH 4 0 qd u st (fun u st=>aF C bG aH u st fun r fs=>r=vB (cH L.length (cF p L)&&decide ((bQ p.cells:Int)=cg L))∧fs=[])):=by
     have hle:(L.take i).length=i:=by simp;omega
     refine bD (L.take i) (fun k=>(((L.take i).drop k).any fun x=>decide (x.k=1)&&decide (x.c=L[i].c))=b→ah C bG fR 3 2 (g9 c i k (p.t.lows.map bP) (p.t.nodes.map aX) (p.ages.map ek) (p.cells.map cY) (p.vols.map eA) p.next (L.map bM)) (fun u st=>qA C bG aH 4 0 qd u st (fun u st=>aF C bG aH u st fun r fs=>r=vB (cH L.length (cF p L)&&decide ((bQ p.cells:Int)=cg L))∧fs=[]))) ?_ ?_
     ·intro h1
      rw[List.drop_length] at h1
      simp only[List.any_nil] at h1
      refine xB _ _ _ _ _ _ _ _ _ _ _ (aq (by simp;omega) (Gr _ _ _ _ _ _ _ _ _ _ _ ?_))
      rw[aJ (by omega),aJ (by omega)]
      exact gN (c+1) (by omega) (hbf h1.symm)
     ·intro k u hk hu hd htk hn2 h1
      have hu':L[k]?=some u:=by rw[←hu,List.getElem?_take];simp;omega
      rw[hd,List.any_cons] at h1
      refine xB _ _ _ _ _ _ _ _ _ _ _ (ai (by simp;omega) ?_)
      rw[aJ (by omega)]
      simp only[jN,aL,hu',ha,Option.some.injEq,exists_eq_left',aP,bF]
      by_cases h3:u.k=1
      ·rw[if_pos h3]
       by_cases h2:u.c=L[i].c
       ·rw[if_pos h2]
        rw[decide_eq_true h3,decide_eq_true h2,Bool.and_self,Bool.true_or] at h1
        exact Gq _ _ _ _ _ _ _ _ (gO1 (hbt h1.symm))
       ·rw[if_neg h2]
        rw[decide_eq_false h2,Bool.and_false,Bool.false_or] at h1
        exact hn2 h1
      ·rw[if_neg h3]
       rw[decide_eq_false h3,Bool.false_and,Bool.false_or] at h1
       exact hn2 h1
    exact keyI hb
   have hage: ∀z,aa C dG [ji p.ages,vI L[i].a] (vI z) []↔z=gT p.ages L[i].a:=fun z=>yu p.ages L[i].a (by omega) z
   have hcell: ∀n b,aa C rD [gQ p.cells,vI L[i].c,vI L[i].g] (.tu [(0,[iI n]),(0,[iB b])]) []↔n=(cellAt p.cells L[i].c L[i].g).1∧b=(cellAt p.cells L[i].c L[i].g).2:=fun n b=>L7 p.cells (by omega) _ _ n b
   refine xA _ _ _ _ _ _ _ _ _ _ (ai (by simp;omega) ?_)
   simp only[jN,aL,ha,Option.some.injEq,exists_eq_left',hage,hcell,and_assoc,exists_and_left,exists_eq_left,ez,aP,bJ,bF]
   rw[aJ (a:=(i:Int)) (by omega)]
   by_cases h1:gT p.ages L[i].a<0
   ·rw[if_pos h1];exact gO1 (by simp[cF,ha,h1])
   ·rw[if_neg h1]
    by_cases h2:L[i].k=1
    ·rw[if_pos h2]
     cases h3:(cellAt p.cells L[i].c L[i].g).2 with
     |false=>exact aq rfl (gO1 (by simp[cF,ha,h2,h3]))
     |true=>
      refine ai rfl ?_
      exact hin _ rfl (fun e=>by simp only[cF,ha,e,h2];simp) (fun e=>by simp only[cF,ha,e,h2,h3];simp[h1]) h2
    ·rw[if_neg h2]
     rw[if_neg h2] at hc
     exact gN c (by omega) (by simp[cF,ha,h1,h2])
 exact key 0 (by simp) rfl
theorem FP (p:Pool) (hS:cO p≤4194304) (h24:p.cells.length=24):aa C dA [fW p] (vB (ie p)) []:=by
 have hP:=gU hS
 have htl:=j9 p.t
 refine(K3 _ _ _ _ _ _ _ ?_).run
 refine ai (ZO (by omega)) ⟨_,uR p.t (by omega),?_⟩
 unfold ie
 generalize bu p.t=L at*
 have hdk:cg L≤L.length:=List.length_filter_le _ _
 have key: ∀c:Nat,c+cg (L.drop 0)=cg L→((List.range' 0 (L.length-0)).all (cF p L)&&decide ((bQ p.cells:Int)=cg L))=(cH L.length (cF p L)&&decide ((bQ p.cells:Int)=cg L))→ah C dA aH 4 0 (g7 (c:Int) (L.map bM) ((0:Nat):Int) (p.t.lows.map bP) (p.t.nodes.map aX) (p.ages.map ek) (p.cells.map cY) (p.vols.map eA) p.next ((nU (L.take 0)).map G2)) (fun u st=>aF C dA aH u st fun r fs=>r=vB (cH L.length (cF p L)&&decide ((bQ p.cells:Int)=cg L))∧fs=[]):=by
  refine nH L.length (fun i=> ∀c:Nat,c+cg (L.drop i)=cg L→((List.range' i (L.length-i)).all (cF p L)&&decide ((bQ p.cells:Int)=cg L))=(cH L.length (cF p L)&&decide ((bQ p.cells:Int)=cg L))→ah C dA aH 4 0 (g7 (c:Int) (L.map bM) i (p.t.lows.map bP) (p.t.nodes.map aX) (p.ages.map ek) (p.cells.map cY) (p.vols.map eA) p.next ((nU (L.take i)).map G2)) (fun u st=>aF C dA aH u st fun r fs=>r=vB (cH L.length (cF p L)&&decide ((bQ p.cells:Int)=cg L))∧fs=[])) ?_ ?_
  ·intro c hc h0
   rw[Nat.sub_self] at h0
   simp only[List.range'_zero,List.all_nil,Bool.true_and] at h0
   rw[List.drop_length] at hc
   have hc0:c=cg L:=by simpa [cg] using hc
   subst hc0
   refine xu _ _ _ _ _ _ _ _ _ _ _ (aq (by simp) (Ge _ _ _ _ _ _ _ _ _ _ _ _ _ ⟨_,Dp p.cells (by omega),?_⟩))
   rw[←h0]
   refine⟨?_,by first|rfl|trivial⟩
   simp[aP,eq_comm]
  ·intro i hi hn c hc h0
   rw[jC hi,List.all_cons] at h0
   have ha:L[i]?=some L[i]:=List.getElem?_eq_getElem hi
   rw[List.drop_eq_getElem_cons hi,CF] at hc
   have gO1: ∀u,cF p L i=false→aF C dA aH TX.ret (lu (p.t.lows.map bP) (p.t.nodes.map aX) (p.ages.map ek) (p.cells.map cY) (p.vols.map eA) p.next L[i].b L[i].a L[i].k L[i].c L[i].g u (L.map bM)) (fun r fs=>r=vB (cH L.length (cF p L)&&decide ((bQ p.cells:Int)=cg L))∧fs=[]):=fun u e=>Gd _ _ _ _ _ _ _ _ _ _ _ _ _ _ (by rw[←h0,e];exact⟨rfl,by first|rfl|trivial⟩)
   have ht1:L.take (i+1)=L.take i++[L[i]]:=by rw[List.take_add_one,ha];rfl
   have gN: ∀c':Nat,c'+cg (L.drop (i+1))=cg L→cF p L i=true→ah C dA aH 4 0 (g7 (c':Int) (L.map bM) ((i:Int)+1) (p.t.lows.map bP) (p.t.nodes.map aX) (p.ages.map ek) (p.cells.map cY) (p.vols.map eA) p.next ((nU (L.take (i+1))).map G2)) (fun u st=>aF C dA aH u st fun r fs=>r=vB (cH L.length (cF p L)&&decide ((bQ p.cells:Int)=cg L))∧fs=[]):=fun c' e' e=>hn c' e' (by rw[←h0,e];rfl)
   have hage: ∀z,aa C iX [ji p.ages,vI L[i].a] (vI z) []↔z=gT p.ages L[i].a:=fun z=>yw p.ages L[i].a (by omega) z
   have hcell: ∀n b,aa C rE [gQ p.cells,vI L[i].c,vI L[i].g] (.tu [(0,[iI n]),(0,[iB b])]) []↔n=(cellAt p.cells L[i].c L[i].g).1∧b=(cellAt p.cells L[i].c L[i].g).2:=fun n b=>L9 p.cells (by omega) _ _ n b
   refine xu _ _ _ _ _ _ _ _ _ _ _ (ai (by simp;omega) ?_)
   simp only[jN,aL,ha,Option.some.injEq,exists_eq_left',hage,hcell,and_assoc,exists_and_left,exists_eq_left,ez,aP,bJ,bF]
   rw[aJ (a:=(i:Int)) (by omega)]
   by_cases h1:gT p.ages L[i].a<0
   ·rw[if_pos h1];exact gO1 _ (by simp[cF,ha,h1])
   ·rw[if_neg h1]
    by_cases h2:L[i].k=1
    ·rw[if_pos h2]
     cases h3:(cellAt p.cells L[i].c L[i].g).2 with
     |false=>exact aq rfl (gO1 _ (by simp[cF,ha,h2,h3]))
     |true=>
      refine ai rfl ?_
      have hci:=Tz h3
      rw[h24] at hci
      simp only[WI,QB (L.take i) hci,Option.some.injEq,exists_eq_left',exists_eq_left,WJ]
      cases h4:(L.take i).any fun x=>decide (x.k=1)&&decide (x.c=L[i].c) with
      |true=>exact ai rfl (gO1 _ (by simp only[cF,ha,h4,h2];simp))
      |false=>
       refine aq rfl ?_
       rw[QC (L.take i) L[i] h2 hci,←ht1,aJ (a:=(c:Int)) (by omega)]
       rw[if_pos h2] at hc
       exact gN (c+1) (by omega) (by simp only[cF,ha,h4,h2,h3];simp[h1])
    ·rw[if_neg h2]
     rw[if_neg h2] at hc
     have hg:=gN c (by omega) (by simp[cF,ha,h1,h2])
     rw[ht1,OS _ _ h2] at hg
     exact hg
 rw[VF,←Yr];exact key 0 (by simp) rfl
def jt (n:Int) (a:Age):Bool:=decide (a.id<n)
theorem TL (p:Pool):mU p=(p.ages.all (jt p.next)&&(eg p.t&&(lR p.ages&&(eE p.cells&&(jh p.next 1 61&&(gn p&&ie p)))))):=rfl
theorem W1 {l:List Cell} (h:eE l=true):l.length=24:=by simp[eE] at h;omega
theorem FQ (p:Pool) (hS:cO p≤4194304):aa C ee [fW p] (vB ((p.ages.all (jt p.next)&&(eg p.t&&(lR p.ages&&(eE p.cells&&(jh p.next 1 61&&(gn p&&ie p)))))))) []:=by
 refine(M5 _ _ _ _ _ _ _ ?_).run
 have hP:=gU hS
 have htl:=j9 p.t
 have key:((p.ages.drop 0).all (jt p.next)&&(eg p.t&&(lR p.ages&&(eE p.cells&&(jh p.next 1 61&&(gn p&&ie p))))))=(p.ages.all (jt p.next)&&(eg p.t&&(lR p.ages&&(eE p.cells&&(jh p.next 1 61&&(gn p&&ie p))))))→ah C ee ak 4 0 (jS ((0:Nat):Int) (p.t.lows.map bP) (p.t.nodes.map aX) (p.ages.map ek) (p.cells.map cY) (p.vols.map eA) p.next) (fun u st=>aF C ee ak u st fun r fs=>r=vB ((p.ages.all (jt p.next)&&(eg p.t&&(lR p.ages&&(eE p.cells&&(jh p.next 1 61&&(gn p&&ie p)))))))∧fs=[]):=by
  refine bD p.ages (fun i=>((p.ages.drop i).all (jt p.next)&&(eg p.t&&(lR p.ages&&(eE p.cells&&(jh p.next 1 61&&(gn p&&ie p))))))=(p.ages.all (jt p.next)&&(eg p.t&&(lR p.ages&&(eE p.cells&&(jh p.next 1 61&&(gn p&&ie p))))))→ah C ee ak 4 0 (jS i (p.t.lows.map bP) (p.t.nodes.map aX) (p.ages.map ek) (p.cells.map cY) (p.vols.map eA) p.next) (fun u st=>aF C ee ak u st fun r fs=>r=vB ((p.ages.all (jt p.next)&&(eg p.t&&(lR p.ages&&(eE p.cells&&(jh p.next 1 61&&(gn p&&ie p)))))))∧fs=[])) ?_ ?_
  ·intro h0
   refine Aq _ _ _ _ _ _ _ _ (aq (by simp) (I8 _ _ _ _ _ _ _ _ _ ?_))
   rw[List.drop_length] at h0
   simp only[List.all_nil,Bool.true_and] at h0
   rw[←h0]
   refine⟨_,rU p.t (by omega),?_⟩
   cases h1:eg p.t with
   |false=>exact aq rfl ⟨rfl,by first|rfl|trivial⟩
   |true=>
    refine ai rfl ⟨_,(Mb p.ages (by omega) (lR p.ages)).2 rfl,?_⟩
    cases h2:lR p.ages with
    |false=>exact aq rfl ⟨rfl,by first|rfl|trivial⟩
    |true=>
     refine ai rfl ⟨_,(BI p.cells (by omega) (eE p.cells)).2 rfl,?_⟩
     cases h3:eE p.cells with
     |false=>exact aq rfl ⟨rfl,by first|rfl|trivial⟩
     |true=>
      refine ai rfl ⟨_,wL p.next 1 61,?_⟩
      cases h4:jh p.next 1 61 with
      |false=>exact aq rfl ⟨rfl,by first|rfl|trivial⟩
      |true=>
       refine ai rfl ⟨_,FN p hS,?_⟩
       cases h5:gn p with
       |false=>exact aq rfl ⟨rfl,by first|rfl|trivial⟩
       |true=>exact ai rfl ⟨_,FO p hS,⟨rfl,by first|rfl|trivial⟩⟩
  ·intro i a hi ha hd htk hn h0
   have gO:(jt p.next) a=false→(p.ages.all (jt p.next)&&(eg p.t&&(lR p.ages&&(eE p.cells&&(jh p.next 1 61&&(gn p&&ie p))))))=false:=fun e=>by rw[←h0,hd];simp[e]
   have gN:(jt p.next) a=true→ah C ee ak 4 0 (jS ((i:Int)+1) (p.t.lows.map bP) (p.t.nodes.map aX) (p.ages.map ek) (p.cells.map cY) (p.vols.map eA) p.next) (fun u st=>aF C ee ak u st fun r fs=>r=vB ((p.ages.all (jt p.next)&&(eg p.t&&(lR p.ages&&(eE p.cells&&(jh p.next 1 61&&(gn p&&ie p)))))))∧fs=[]):=fun e=>hn (by rw[←h0,hd];simp[e])
   refine Aq _ _ _ _ _ _ _ _ (ai (by simp;omega) ?_)
   simp only[rP,aL,ha,Option.some.injEq,exists_eq_left',gX,bF]
   rw[aJ (by omega)]
   by_cases h1:p.next≤a.id
   ·rw[if_pos h1];exact I7 _ _ _ _ _ _ _ (by rw[gO (by simp[jt];omega)];exact⟨rfl,by first|rfl|trivial⟩)
   ·rw[if_neg h1];exact gN (by simp[jt];omega)
 exact key rfl
theorem yE (p:Pool) (hS:cO p≤4194304):aa C ee [fW p] (vB (mU p)) []:=FQ p hS
theorem yF (p:Pool) (hS:cO p≤4194304):aa C fh [fW p] (vB (mU p)) []:=by
 have hP:=gU hS
 rw[TL]
 refine(Mx _ _ _ _ _ _ _ ?_).run
 refine⟨_,rV p.t (by omega),?_⟩
 cases h1:eg p.t with
 |false=>exact ai rfl ⟨by simp,by first|rfl|trivial⟩
 |true=>
  refine aq rfl ⟨_,(Md p.ages (by omega) (lR p.ages)).2 rfl,?_⟩
  cases h2:lR p.ages with
  |false=>exact ai rfl ⟨by simp,by first|rfl|trivial⟩
  |true=>
   refine aq rfl ⟨_,(BJ p.cells (by omega) (eE p.cells)).2 rfl,?_⟩
   cases h3:eE p.cells with
   |false=>exact ai rfl ⟨by simp,by first|rfl|trivial⟩
   |true=>
    refine aq rfl ⟨_,qW p.next 1 61,?_⟩
    cases h4:jh p.next 1 61 with
    |false=>exact ai rfl ⟨by simp,by first|rfl|trivial⟩
    |true=>
     refine aq rfl ?_
     simp only[Bool.true_and]
     have key:((p.ages.drop 0).all (jt p.next)&&(gn p&&ie p))=(p.ages.all (jt p.next)&&(gn p&&ie p))→ah C fh aj 4 0 (mo (p.ages.map ek) ((0:Nat):Int) (p.t.lows.map bP) (p.t.nodes.map aX) (p.cells.map cY) (p.vols.map eA) p.next) (fun u st=>aF C fh aj u st fun r fs=>r=vB (p.ages.all (jt p.next)&&(gn p&&ie p))∧fs=[]):=by
      refine bD p.ages (fun i=>((p.ages.drop i).all (jt p.next)&&(gn p&&ie p))=(p.ages.all (jt p.next)&&(gn p&&ie p))→ah C fh aj 4 0 (mo (p.ages.map ek) i (p.t.lows.map bP) (p.t.nodes.map aX) (p.cells.map cY) (p.vols.map eA) p.next) (fun u st=>aF C fh aj u st fun r fs=>r=vB (p.ages.all (jt p.next)&&(gn p&&ie p))∧fs=[])) ?_ ?_
      ·intro h0
       rw[List.drop_length] at h0
       simp only[List.all_nil,Bool.true_and] at h0
       refine zW _ _ _ _ _ _ _ _ (aq (by simp) (Im _ _ _ _ _ _ _ _ _ _ ⟨_,HI p hS,?_⟩))
       rw[←h0]
       cases h5:gn p with
       |false=>exact aq rfl ⟨rfl,by first|rfl|trivial⟩
       |true=>exact ai rfl ⟨_,FP p hS (W1 h3),⟨rfl,by first|rfl|trivial⟩⟩
      ·intro i a hi ha hd htk hn h0
       rw[hd,List.all_cons] at h0
       refine zW _ _ _ _ _ _ _ _ (ai (by simp;omega) ?_)
       simp only[rP,aL,ha,Option.some.injEq,exists_eq_left',gX,bF]
       rw[aJ (by omega)]
       by_cases h5:p.next≤a.id
       ·rw[if_pos h5]
        have e:jt p.next a=false:=by simp[jt];omega
        exact Il _ _ _ _ _ _ _ _ _ (by rw[←h0,e];exact⟨rfl,by first|rfl|trivial⟩)
       ·rw[if_neg h5]
        have e:jt p.next a=true:=by simp[jt];omega
        exact hn (by rw[←h0,e];rfl)
     exact key rfl
theorem yG (l:List Cell) (hl:l.length≤1073741824):aa C fZ [gQ l] (gQ l) []:=by
 refine(Mj _ _ ?_).run
 rw[show bR (l.map cY)=true from by simp[C7],cW (by simp;omega)]
 exact⟨rfl,by first|rfl|trivial⟩
theorem tJ (l:List Cell) (hl:l.length≤1073741824):aa C jF [gQ l] (gQ l) []:=by
 refine(GL _ _ ?_).run
 rw[show bR (l.map cY)=true from by simp[C7],cW (by simp;omega)]
 exact⟨rfl,by first|rfl|trivial⟩
theorem EC (l:List Cell) (i:Int) (hl:l.length≤1073741824):aa C we [gQ l,vI i] (gQ (fY l i)) []:=by
 refine(Io _ _ _ ⟨_,yG l hl,_,(BI l hl (eE l)).2 rfl,?_⟩).run
 cases h1:eE l with
 |false=>exact aq rfl ⟨by rw[En h1],by first|rfl|trivial⟩
 |true=>
  refine ai rfl ⟨_,wL _ _ _,?_⟩
  rw[List.length_map,show cV (Int.ofNat l.length) 1=(l.length:Int)-1 from dH (by simp;omega)]
  by_cases h2:0≤i∧i<l.length
  ·obtain⟨c,hc⟩:=sP h2.1 h2.2
   refine ai (by simp[jh];omega) ?_
   simp only[oZ,hc,Option.some.injEq,exists_eq_left']
   cases h3:c.u with
   |false=>exact aq rfl ⟨by rw[G4 hc h3],by first|rfl|trivial⟩
   |true=>
    refine ai rfl (aq (by simp) ?_)
    simp only[oZ,hc,Option.some.injEq,exists_eq_left',OR]
    exact⟨by rw[Eo hc h1 h3],by first|rfl|trivial⟩
  ·exact aq (by simp[jh];omega) ⟨by rw[CG (nT h2)],by first|rfl|trivial⟩
theorem ED (l:List Cell) (i:Int) (hl:l.length≤1073741824):aa C mL [gQ l,vI i] (gQ (fY l i)) []:=by
 refine(I9 _ _ _ ⟨_,tJ l hl,_,(BJ l hl (eE l)).2 rfl,?_⟩).run
 cases h1:eE l with
 |false=>exact ai rfl ⟨by rw[En h1],by first|rfl|trivial⟩
 |true=>
  have h24:l.length=24:=by simp[eE] at h1;omega
  refine aq rfl ⟨_,qW _ _ _,?_⟩
  by_cases h2:0≤i∧i<l.length
  ·obtain⟨c,hc⟩:=sP h2.1 h2.2
   refine aq (by simp[jh];omega) ?_
   simp only[oZ,hc,Option.some.injEq,exists_eq_left']
   cases h3:c.u with
   |false=>exact ai rfl ⟨by rw[G4 hc h3],by first|rfl|trivial⟩
   |true=>
    refine aq rfl (aq (by simp) ?_)
    simp only[oZ,hc,Option.some.injEq,exists_eq_left',OR]
    exact⟨by rw[Eo hc h1 h3],by first|rfl|trivial⟩
  ·exact ai (by simp[jh];omega) ⟨by rw[CG (nT h2)],by first|rfl|trivial⟩
theorem uS (l:List Int) (hl:l.length≤1073741824):aa C rm [j6 l] (j6 l) []:=by
 refine(Jo _ _ ?_).run
 rw[show bR (l.map bP)=true from jP _,cW (by simp;omega)]
 exact⟨rfl,by first|rfl|trivial⟩
theorem BL (l:List Key) (b a:Int) (hl:l.length≤1073741824):aa C fQ [cJ l,vI b,vI a] (NZ (wK l b a)) []:=by
 refine(Po _ _ _ _ ?_).run
 have key:setAt (l.drop 0) b a=setAt l b a→ah C fQ ak 4 0 (lD (l.map bM) b a ((0:Nat):Int)) (fun u st=>aF C fQ ak u st fun r fs=>r=(NZ (wK l b a))∧fs=[]):=by
  refine bD l (fun i=>setAt (l.drop i) b a=setAt l b a→ah C fQ ak 4 0 (lD (l.map bM) b a i) (fun u st=>aF C fQ ak u st fun r fs=>r=(NZ (wK l b a))∧fs=[])) ?_ ?_
  ·intro h0
   rw[List.drop_length] at h0
   refine B5 _ _ _ _ _ (aq (by simp) (Ly _ _ _ _ _ _ ⟨?_,by first|rfl|trivial⟩))
   unfold wK;rw[←h0];rfl
  ·intro i x hi hx hd htk hn h0
   rw[hd] at h0
   simp only[setAt,List.find?_cons] at h0
   refine B5 _ _ _ _ _ (ai (by simp;omega) ?_)
   simp only[jN,aL,hx,Option.some.injEq,exists_eq_left',aP,bF]
   rw[aJ (by omega)]
   by_cases h1:x.b=b
   ·rw[if_pos h1]
    by_cases h2:x.a=a
    ·rw[if_pos h2]
     rw[decide_eq_true ⟨h1,h2⟩] at h0
     refine Lx _ _ _ _ _ _ ⟨?_,by first|rfl|trivial⟩
     unfold wK setAt;rw[←h0]
    ·rw[if_neg h2]
     rw[decide_eq_false (fun h=>h2 h.2)] at h0
     exact hn h0
   ·rw[if_neg h1]
    rw[decide_eq_false (fun h=>h1 h.1)] at h0
    exact hn h0
 exact key rfl
theorem HJ (n:List (List Key)) (b a:Int) (hl:n.length≤1073741824) (hs: ∀s∈n,s.length≤1073741824):aa C gE [fK n,vI b,vI a] (NZ (mg n b a n.length)) []:=by
 refine(ML _ _ _ _ ?_).run
 have key: ∀k:Nat,k≤n.length→mg n b a k=mg n b a n.length→ah C gE ak 4 0 (mz b a ((k:Int)-1) (n.map cc)) (fun u st=>aF C gE ak u st fun r fs=>r=(NZ (mg n b a n.length))∧fs=[]):=by
  intro k
  induction k with
  |zero=>
   intro _ hk
   refine z8 _ _ _ _ _ (aq (by simp) (IB _ _ _ _ _ _ ⟨?_,by first|rfl|trivial⟩))
   rw[←hk];rfl
  |succ k ih=>
   intro hle hk
   have hx:n[k]?=some n[k]:=List.getElem?_eq_getElem (by omega)
   rw[show((k+1:Nat):Int)-1=(k:Int) by omega]
   have hss:=hs n[k] (List.getElem_mem (by omega))
   generalize n[k]=s at hx hss
   simp only[mg,hx] at hk
   refine z8 _ _ _ _ _ (ai (by simp) ?_)
   simp only[qR,aL,hx,Option.some.injEq,exists_eq_left']
   rw[dH (by omega)]
   refine⟨_,_,_,_,_,_,BL s b a hss,?_⟩
   cases h2:(wK s b a).2 with
   |false=>
    rw[h2] at hk
    exact aq rfl (aq rfl (ih (by omega) (by simpa using hk)))
   |true=>
    rw[h2] at hk
    simp only[if_true] at hk
    refine ai rfl ?_
    by_cases h3:(wK s b a).1.k=0
    ·refine ai (by simp[h3]) (Aa _ _ _ _ _ _ _ _ _ _ _ _ _ ⟨?_,by first|rfl|trivial⟩)
     rw[if_pos h3] at hk
     rw[←hk];rfl
    ·refine aq (by simp[h3]) (ai rfl (Aa _ _ _ _ _ _ _ _ _ _ _ _ _ ⟨?_,by first|rfl|trivial⟩))
     rw[if_neg h3] at hk
     rw[←hk,←h2]
 rw[List.length_map,show cV (Int.ofNat n.length) 1=(n.length:Int)-1 from dH (by simp;omega)]
 exact key n.length (Nat.le_refl _) rfl
theorem wM (t:Tree) (b a:Int) (hl:t.lows.length≤1073741824):aa C ei [dj t,vI b,vI a] (vI (kV t b a)) []:=by
 refine(Lj _ _ _ _ _ ?_).run
 unfold kV
 have key:ah C ei aj 4 0 (jy b a (ql (fun x=>decide (x≤gm b a)) t.lows 0) ((0:Nat):Int) (t.lows.map bP) (t.nodes.map aX)) (fun u st=>aF C ei aj u st fun r fs=>r=(vI (ql (fun x=>decide (x≤gm b a)) t.lows t.lows.length))∧fs=[]):=by
  refine bD t.lows (fun i=>ah C ei aj 4 0 (jy b a (ql (fun x=>decide (x≤gm b a)) t.lows i) i (t.lows.map bP) (t.nodes.map aX)) (fun u st=>aF C ei aj u st fun r fs=>r=(vI (ql (fun x=>decide (x≤gm b a)) t.lows t.lows.length))∧fs=[])) ?_ ?_
  ·exact xC _ _ _ _ _ _ _ (aq (by simp) (Gs _ _ _ _ _ _ _ _ ⟨rfl,by first|rfl|trivial⟩))
  ·intro i x hi hx hd htk hn
   simp only[ql,hx] at hn
   refine xC _ _ _ _ _ _ _ (ai (by simp;omega) ?_)
   simp only[rO,aL,hx,Option.some.injEq,exists_eq_left',CL,exists_eq_left,gX,bF]
   rw[aJ (by omega)]
   by_cases h1:x≤gm b a
   ·rw[if_pos h1]
    rw[if_pos (decide_eq_true h1)] at hn
    exact hn
   ·rw[if_neg h1]
    rw[if_neg (by simpa using h1)] at hn
    exact hn
 exact key
theorem yH (t:Tree) (b a:Int) (hl:cZ t≤1073741824):aa C lK [dj t,vI b,vI a] (NZ (rQ t b a)) []:=by
 have e2:cZ t=t.lows.length+(t.nodes.length+tot aQ t.nodes):=rfl
 refine(Nd _ _ _ _ _ ⟨_,wM t b a (by omega),_,wL _ _ _,?_⟩).run
 unfold rQ
 rw[List.length_map,show cV (Int.ofNat t.nodes.length) 1=(t.nodes.length:Int)-1 from dH (by simp;omega)]
 by_cases h1:0≤kV t b a∧kV t b a<t.nodes.length
 ·obtain⟨n,hn⟩:=sP h1.1 h1.2
  have hz:aQ n≤tot aQ t.nodes:=mW (w:=aQ) (Qs hn)
  have e1:aQ n=n.length+tot bH n:=rfl
  refine aq (by simp[jh];omega) ?_
  simp only[qj,hn,Option.some.injEq,exists_eq_left']
  refine⟨_,_,_,_,_,_,HJ n b a (by omega) (fun s hs=> ?_),⟨rfl,by first|rfl|trivial⟩⟩
  have h3:bH s≤tot bH n:=mW (w:=bH) hs
  have h4:bH s=s.length:=rfl
  omega
 ·rw[nT h1]
  exact ai (by simp[jh];omega) ⟨rfl,by first|rfl|trivial⟩
theorem BM (l:List Key) (b a:Int) (hl:l.length≤1073741824):aa C eM [cJ l,vI b,vI a] (NZ (wK l b a)) []:=by
 refine(Pp _ _ _ _ ?_).run
 have key:setAt (l.drop 0) b a=setAt l b a→ah C eM ak 4 0 (lE b a (l.map bM) ((0:Nat):Int)) (fun u st=>aF C eM ak u st fun r fs=>r=(NZ (wK l b a))∧fs=[]):=by
  refine bD l (fun i=>setAt (l.drop i) b a=setAt l b a→ah C eM ak 4 0 (lE b a (l.map bM) i) (fun u st=>aF C eM ak u st fun r fs=>r=(NZ (wK l b a))∧fs=[])) ?_ ?_
  ·intro h0
   rw[List.drop_length] at h0
   refine B6 _ _ _ _ _ (aq (by simp) (LB _ _ _ _ _ _ _ ⟨?_,by first|rfl|trivial⟩))
   unfold wK;rw[←h0];rfl
  ·intro i x hi hx hd htk hn h0
   rw[hd] at h0
   simp only[setAt,List.find?_cons] at h0
   refine B6 _ _ _ _ _ (ai (by simp;omega) ?_)
   simp only[jN,aL,hx,Option.some.injEq,exists_eq_left',aP,bF]
   rw[aJ (by omega)]
   by_cases h1:x.b=b
   ·rw[if_pos h1]
    by_cases h2:x.a=a
    ·rw[if_pos h2]
     rw[decide_eq_true ⟨h1,h2⟩] at h0
     refine LA _ _ _ _ _ _ ⟨?_,by first|rfl|trivial⟩
     unfold wK setAt;rw[←h0]
    ·rw[if_neg h2]
     rw[decide_eq_false (fun h=>h2 h.2)] at h0
     exact hn h0
   ·rw[if_neg h1]
    rw[decide_eq_false (fun h=>h1 h.1)] at h0
    exact hn h0
 exact key rfl
theorem HK (n:List (List Key)) (b a:Int) (hl:n.length≤1073741824) (hs: ∀s∈n,s.length≤1073741824):aa C gG [fK n,vI b,vI a] (NZ (mg n b a n.length)) []:=by
 refine(MW _ _ _ _ ?_).run
 have key: ∀k:Nat,k≤n.length→mg n b a k=mg n b a n.length→ah C gG ak 4 0 (pI b a ((k:Int)-1) (n.map cc)) (fun u st=>aF C gG ak u st fun r fs=>r=(NZ (mg n b a n.length))∧fs=[]):=by
  intro k
  induction k with
  |zero=>
   intro _ hk
   refine Ak _ _ _ _ _ (aq (by simp) (IX _ _ _ _ _ _ ⟨?_,by first|rfl|trivial⟩))
   rw[←hk];rfl
  |succ k ih=>
   intro hle hk
   have hx:n[k]?=some n[k]:=List.getElem?_eq_getElem (by omega)
   rw[show((k+1:Nat):Int)-1=(k:Int) by omega]
   have hss:=hs n[k] (List.getElem_mem (by omega))
   generalize n[k]=s at hx hss
   simp only[mg,hx] at hk
   refine Ak _ _ _ _ _ (ai (by simp) ?_)
   simp only[qR,aL,hx,Option.some.injEq,exists_eq_left']
   rw[dH (by omega)]
   refine⟨_,_,_,_,_,_,BM s b a hss,?_⟩
   cases h2:(wK s b a).2 with
   |false=>
    rw[h2] at hk
    exact ai rfl (ih (by omega) (by simpa using hk))
   |true=>
    rw[h2] at hk
    simp only[if_true] at hk
    refine aq rfl ?_
    by_cases h3:(wK s b a).1.k=0
    ·refine ai (by simp[h3]) (IV _ _ _ _ _ _ _ _ ⟨?_,by first|rfl|trivial⟩)
     rw[if_pos h3] at hk
     rw[←hk];rfl
    ·refine aq (by simp[h3]) (IW _ _ _ _ _ _ _ ⟨?_,by first|rfl|trivial⟩)
     rw[if_neg h3] at hk
     rw[←hk,←h2]
 rw[List.length_map,show cV (Int.ofNat n.length) 1=(n.length:Int)-1 from dH (by simp;omega)]
 exact key n.length (Nat.le_refl _) rfl
theorem wN (t:Tree) (b a:Int) (hl:t.lows.length≤1073741824):aa C eZ [dj t,vI b,vI a] (vI (kV t b a)) []:=by
 refine(K5 _ _ _ _ _ ?_).run
 have key: ∀k:Nat,k≤t.lows.length→ql (fun x=>decide (x≤gm b a)) t.lows k=kV t b a→ah C eZ ak 4 0 (oe b a ((k:Int)-1) (t.lows.map bP) (t.nodes.map aX)) (fun u st=>aF C eZ ak u st fun r fs=>r=(vI (kV t b a))∧fs=[]):=by
  intro k
  induction k with
  |zero=>
   intro _ hk
   refine xw _ _ _ _ _ _ (aq (by simp) (Gg _ _ _ _ _ _ _ ⟨?_,by first|rfl|trivial⟩))
   rw[←hk];rfl
  |succ k ih=>
   intro hle hk
   have hx:t.lows[k]?=some t.lows[k]:=List.getElem?_eq_getElem (by omega)
   rw[show((k+1:Nat):Int)-1=(k:Int) by omega]
   generalize t.lows[k]=x at hx
   simp only[ql,hx] at hk
   refine xw _ _ _ _ _ _ (ai (by simp) ?_)
   simp only[rO,aL,hx,Option.some.injEq,exists_eq_left',wj,exists_eq_left,gX,bF]
   rw[dH (by omega)]
   by_cases h1:x≤gm b a
   ·rw[if_pos h1]
    rw[if_pos (decide_eq_true h1)] at hk
    exact Gf _ _ _ _ ⟨by rw[←hk],by first|rfl|trivial⟩
   ·rw[if_neg h1]
    rw[if_neg (by simpa using h1)] at hk
    exact ih (by omega) hk
 rw[List.length_map,show cV (Int.ofNat t.lows.length) 1=(t.lows.length:Int)-1 from dH (by simp;omega)]
 exact key t.lows.length (Nat.le_refl _) rfl
theorem yI (t:Tree) (b a:Int) (hl:cZ t≤1073741824):aa C lM [dj t,vI b,vI a] (NZ (rQ t b a)) []:=by
 have e2:cZ t=t.lows.length+(t.nodes.length+tot aQ t.nodes):=rfl
 refine(MF _ _ _ _ _ ⟨_,wN t b a (by omega),_,qW _ _ _,?_⟩).run
 unfold rQ
 rw[List.length_map,show cV (Int.ofNat t.nodes.length) 1=(t.nodes.length:Int)-1 from dH (by simp;omega)]
 by_cases h1:0≤kV t b a∧kV t b a<t.nodes.length
 ·obtain⟨n,hn⟩:=sP h1.1 h1.2
  have hz:aQ n≤tot aQ t.nodes:=mW (w:=aQ) (Qs hn)
  have e1:aQ n=n.length+tot bH n:=rfl
  refine aq (by simp[jh];omega) ?_
  simp only[qj,hn,Option.some.injEq,exists_eq_left']
  refine⟨_,_,_,_,_,_,HK n b a (by omega) (fun s hs=> ?_),⟨rfl,by first|rfl|trivial⟩⟩
  have h3:bH s≤tot bH n:=mW (w:=bH) hs
  have h4:bH s=s.length:=rfl
  omega
 ·rw[nT h1]
  exact ai (by simp[jh];omega) ⟨rfl,by first|rfl|trivial⟩
theorem EE (l:List Age) (hl:l.length≤1073741824):aa C oR [ji l] (ji l) []:=by
 refine(IP _ _ ?_).run
 rw[show bR (l.map ek)=true from Cq _,cW (by simp;omega)]
 exact⟨rfl,by first|rfl|trivial⟩
theorem qq (n:List (List Key)) (hl:n.length≤1073741824) (hs: ∀s∈n,s.length≤1073741824):aa C aT [fK n] (fK n) []:=by
 refine(Ib _ _ ?_).run
 skip
 have key:((0:Nat)=0→ah C aT aj 4 0 (m4 (n.map cc)) (fun u st=>aF C aT aj u st fun r fs=>r=(fK n)∧fs=[]))∧(0<(0:Nat)→ah C aT aj 4 0 (kC (n.map cc) ((0:Nat):Int) ((n.take 0).map cc)) (fun u st=>aF C aT aj u st fun r fs=>r=(fK n)∧fs=[])):=by
  refine bD n (fun i=>(i=0→ah C aT aj 4 0 (m4 (n.map cc)) (fun u st=>aF C aT aj u st fun r fs=>r=(fK n)∧fs=[]))∧(0<i→ah C aT aj 4 0 (kC (n.map cc) i ((n.take i).map cc)) (fun u st=>aF C aT aj u st fun r fs=>r=(fK n)∧fs=[]))) ?_ ?_
  ·refine⟨fun h=> ?_,fun h=> ?_⟩
   ·have hnil:n=[]:=List.length_eq_zero_iff.1 h
    refine vt _ _ (aq (by simp[h]) (EJ _ _ _ _ ⟨?_,by first|rfl|trivial⟩))
    simp[hnil]
   ·rw[List.take_length]
    exact vu _ _ _ _ (aq (by simp) (EK _ _ _ _ _ _ ⟨rfl,by first|rfl|trivial⟩))
  ·intro i a hi ha hd htk hn
   have hmem:=List.mem_of_getElem? ha
   refine⟨fun h=> ?_,fun h=> ?_⟩
   ·subst h
    have hz:gP n 0=some a:=(aL n 0).trans ha
    have hn2:=hn.2 (by omega)
    rw[htk] at hn2
    refine vt _ _ (ai (by simp;omega) ?_)
    simp only[qR,hz,Option.some.injEq,exists_eq_left']
    refine⟨_,mY a (by have:=hs a hmem;omega),ai (cW (by simp;try omega)) ?_⟩
    rw[aJ (by omega)]
    exact hn2
   ·have hn2:=hn.2 (by omega)
    rw[htk] at hn2
    refine vu _ _ _ _ (ai (by simp;omega) ?_)
    simp only[qR,aL,ha,Option.some.injEq,exists_eq_left']
    refine⟨_,mY a (by have:=hs a hmem;omega),ai (cW (by simp;try omega)) ?_⟩
    rw[aJ (by omega)]
    rw[List.map_append] at hn2
    exact hn2
 exact key.1 rfl
theorem rW (n:List (List Key)) (hl:n.length≤1073741824) (hs: ∀s∈n,s.length≤1073741824):aa C bE [fK n] (fK n) []:=by
 refine(Ng _ _ ?_).run
 skip
 have key:((0:Nat)=0→ah C bE aj 4 0 (pM (n.map cc)) (fun u st=>aF C bE aj u st fun r fs=>r=(fK n)∧fs=[]))∧(0<(0:Nat)→ah C bE aj 4 0 (mD ((0:Nat):Int) (n.map cc) ((n.take 0).map cc)) (fun u st=>aF C bE aj u st fun r fs=>r=(fK n)∧fs=[])):=by
  refine bD n (fun i=>(i=0→ah C bE aj 4 0 (pM (n.map cc)) (fun u st=>aF C bE aj u st fun r fs=>r=(fK n)∧fs=[]))∧(0<i→ah C bE aj 4 0 (mD i (n.map cc) ((n.take i).map cc)) (fun u st=>aF C bE aj u st fun r fs=>r=(fK n)∧fs=[]))) ?_ ?_
  ·refine⟨fun h=> ?_,fun h=> ?_⟩
   ·have hnil:n=[]:=List.length_eq_zero_iff.1 h
    refine Ax _ _ (aq (by simp[h]) (Jm _ _ _ ⟨?_,by first|rfl|trivial⟩))
    simp[hnil]
   ·rw[List.take_length]
    exact Ay _ _ _ _ (aq (by simp) (Jn _ _ _ _ _ ⟨rfl,by first|rfl|trivial⟩))
  ·intro i a hi ha hd htk hn
   have hmem:=List.mem_of_getElem? ha
   refine⟨fun h=> ?_,fun h=> ?_⟩
   ·subst h
    have hz:gP n 0=some a:=(aL n 0).trans ha
    have hn2:=hn.2 (by omega)
    rw[htk] at hn2
    refine Ax _ _ (ai (by simp;omega) ?_)
    simp only[qR,hz,Option.some.injEq,exists_eq_left']
    have hsa:=hs a hmem
    refine ai (by rw[show bR (a.map bM)=true from jQ _,cW (by simp;omega)];rfl) (ai (cW (by simp;try omega)) ?_)
    rw[aJ (by omega)]
    exact hn2
   ·have hn2:=hn.2 (by omega)
    rw[htk] at hn2
    refine Ay _ _ _ _ (ai (by simp;omega) ?_)
    simp only[qR,aL,ha,Option.some.injEq,exists_eq_left']
    have hsa:=hs a hmem
    refine ai (by rw[show bR (a.map bM)=true from jQ _,cW (by simp;omega)];rfl) (ai (cW (by simp;try omega)) ?_)
    rw[aJ (by omega)]
    rw[List.map_append] at hn2
    exact hn2
 exact key.1 rfl
theorem uT (t:Tree) (hl:t.lows.length≤1073741824∧t.nodes.length≤1073741824) (hs: ∀n∈t.nodes,n.length≤1073741824∧ ∀s∈n,s.length≤1073741824):aa C aW [dj t] (dj t) []:=by
 refine(Iw _ _ _ ?_).run
 refine⟨_,uS t.lows hl.1,?_⟩
 have key:((0:Nat)=0→ah C aW aj 4 0 (nc (t.nodes.map aX) (t.lows.map bP)) (fun u st=>aF C aW aj u st fun r fs=>r=(dj t)∧fs=[]))∧(0<(0:Nat)→ah C aW aj 4 0 (kG (t.nodes.map aX) ((0:Nat):Int) (t.lows.map bP) ((t.nodes.take 0).map aX)) (fun u st=>aF C aW aj u st fun r fs=>r=(dj t)∧fs=[])):=by
  refine bD t.nodes (fun i=>(i=0→ah C aW aj 4 0 (nc (t.nodes.map aX) (t.lows.map bP)) (fun u st=>aF C aW aj u st fun r fs=>r=(dj t)∧fs=[]))∧(0<i→ah C aW aj 4 0 (kG (t.nodes.map aX) i (t.lows.map bP) ((t.nodes.take i).map aX)) (fun u st=>aF C aW aj u st fun r fs=>r=(dj t)∧fs=[]))) ?_ ?_
  ·refine⟨fun h=> ?_,fun h=> ?_⟩
   ·have hnil:t.nodes=[]:=List.length_eq_zero_iff.1 h
    refine vD _ _ _ (aq (by simp[h]) (ER _ _ _ _ _ ⟨?_,by first|rfl|trivial⟩))
    simp[hnil]
   ·rw[List.take_length]
    exact vE _ _ _ _ _ (aq (by simp) (ES _ _ _ _ _ _ _ ⟨rfl,by first|rfl|trivial⟩))
  ·intro i a hi ha hd htk hn
   have hmem:=List.mem_of_getElem? ha
   refine⟨fun h=> ?_,fun h=> ?_⟩
   ·subst h
    have hz:gP t.nodes 0=some a:=(aL t.nodes 0).trans ha
    have hn2:=hn.2 (by omega)
    rw[htk] at hn2
    refine vD _ _ _ (ai (by simp;omega) ?_)
    simp only[qj,hz,Option.some.injEq,exists_eq_left']
    refine⟨_,qq a (hs a hmem).1 (hs a hmem).2,ai (cW (by simp;try omega)) ?_⟩
    rw[aJ (by omega)]
    exact hn2
   ·have hn2:=hn.2 (by omega)
    rw[htk] at hn2
    refine vE _ _ _ _ _ (ai (by simp;omega) ?_)
    simp only[qj,aL,ha,Option.some.injEq,exists_eq_left']
    refine⟨_,qq a (hs a hmem).1 (hs a hmem).2,ai (cW (by simp;try omega)) ?_⟩
    rw[aJ (by omega)]
    rw[List.map_append] at hn2
    exact hn2
 exact key.1 rfl
theorem yJ (t:Tree) (hl:t.lows.length≤1073741824∧t.nodes.length≤1073741824) (hs: ∀n∈t.nodes,n.length≤1073741824∧ ∀s∈n,s.length≤1073741824):aa C ct [dj t] (dj t) []:=by
 refine(M8 _ _ _ ?_).run
 refine ai (by rw[show bR (t.lows.map bP)=true from jP _,cW (by simp;omega)];rfl) ?_
 have key:((0:Nat)=0→ah C ct aj 4 0 (pL (t.lows.map bP) (t.nodes.map aX)) (fun u st=>aF C ct aj u st fun r fs=>r=(dj t)∧fs=[]))∧(0<(0:Nat)→ah C ct aj 4 0 (mC ((0:Nat):Int) (t.lows.map bP) (t.nodes.map aX) ((t.nodes.take 0).map aX)) (fun u st=>aF C ct aj u st fun r fs=>r=(dj t)∧fs=[])):=by
  refine bD t.nodes (fun i=>(i=0→ah C ct aj 4 0 (pL (t.lows.map bP) (t.nodes.map aX)) (fun u st=>aF C ct aj u st fun r fs=>r=(dj t)∧fs=[]))∧(0<i→ah C ct aj 4 0 (mC i (t.lows.map bP) (t.nodes.map aX) ((t.nodes.take i).map aX)) (fun u st=>aF C ct aj u st fun r fs=>r=(dj t)∧fs=[]))) ?_ ?_
  ·refine⟨fun h=> ?_,fun h=> ?_⟩
   ·have hnil:t.nodes=[]:=List.length_eq_zero_iff.1 h
    refine Ar _ _ _ (aq (by simp[h]) (Ja _ _ _ _ ⟨?_,by first|rfl|trivial⟩))
    simp[hnil]
   ·rw[List.take_length]
    exact As _ _ _ _ _ (aq (by simp) (Jb _ _ _ _ _ _ ⟨rfl,by first|rfl|trivial⟩))
  ·intro i a hi ha hd htk hn
   have hmem:=List.mem_of_getElem? ha
   refine⟨fun h=> ?_,fun h=> ?_⟩
   ·subst h
    have hz:gP t.nodes 0=some a:=(aL t.nodes 0).trans ha
    have hn2:=hn.2 (by omega)
    rw[htk] at hn2
    refine Ar _ _ _ (ai (by simp;omega) ?_)
    simp only[qj,hz,Option.some.injEq,exists_eq_left']
    refine⟨_,rW a (hs a hmem).1 (hs a hmem).2,ai (cW (by simp;try omega)) ?_⟩
    rw[aJ (by omega)]
    exact hn2
   ·have hn2:=hn.2 (by omega)
    rw[htk] at hn2
    refine As _ _ _ _ _ (ai (by simp;omega) ?_)
    simp only[qj,aL,ha,Option.some.injEq,exists_eq_left']
    refine⟨_,rW a (hs a hmem).1 (hs a hmem).2,ai (cW (by simp;try omega)) ?_⟩
    rw[aJ (by omega)]
    rw[List.map_append] at hn2
    exact hn2
 exact key.1 rfl
theorem uU {t:Tree} (h:cZ t≤4194304):(t.lows.length≤1073741824∧t.nodes.length≤1073741824)∧ ∀n∈t.nodes,n.length≤1073741824∧ ∀s∈n,s.length≤1073741824:=by
 have e2:cZ t=t.lows.length+(t.nodes.length+tot aQ t.nodes):=rfl
 refine⟨⟨by omega,by omega⟩,fun n hn=> ?_⟩
 have h1:aQ n≤tot aQ t.nodes:=mW (w:=aQ) hn
 have h2:aQ n=n.length+tot bH n:=rfl
 refine⟨by omega,fun s hs=> ?_⟩
 have h3:bH s≤tot bH n:=mW (w:=bH) hs
 have h4:bH s=s.length:=rfl
 omega
theorem qX (p:Pool) (hS:cO p≤4194304):aa C qm [fW p] (fW p) []:=by
 have hP:=gU hS
 have hN:=uU hP.1
 have hT:=yJ p.t hN.1 hN.2
 have hA:(bR (p.ages.map ek)&&fits (Nat.add 0 (p.ages.map ek).length) 16)=true:=by rw[Cq,cW (by simp;omega)];rfl
 have hC:=yG p.cells (by omega)
 have hV:(bR (p.vols.map eA)&&fits (Nat.add 0 (p.vols.map eA).length) 40)=true:=by rw[Cr,cW (by simp;omega)];rfl
 refine(KZ _ _ _ _ _ _ _ ?_).run
 repeat' first
  |exact rfl
  |refine⟨(fW p,[]),?_,?_,⟨rfl,by first|rfl|trivial⟩⟩
  |refine⟨(fW p,[]),?_,?_,by first|rfl|trivial⟩
  |refine⟨_,_,hT,?_⟩
  |refine ai hA ?_
  |refine⟨_,hC,?_⟩
  |refine ai hV ?_
theorem qt (p:Pool) (hS:cO p≤4194304):aa C mK [fW p] (fW p) []:=by
 have hP:=gU hS
 have hN:=uU hP.1
 have hT:=uT p.t hN.1 hN.2
 have hA:=EE p.ages (by omega)
 have hC:=tJ p.cells (by omega)
 have hV:(bR (p.vols.map eA)&&fits (Nat.add 0 (p.vols.map eA).length) 40)=true:=by rw[Cr,cW (by simp;omega)];rfl
 refine(IJ _ _ _ _ _ _ _ ?_).run
 repeat' first
  |exact rfl
  |refine⟨(fW p,[]),?_,?_,⟨rfl,by first|rfl|trivial⟩⟩
  |refine⟨(fW p,[]),?_,?_,by first|rfl|trivial⟩
  |refine⟨_,_,hT,?_⟩
  |refine⟨_,hA,?_⟩
  |refine⟨_,hC,?_⟩
  |refine ai hV ?_
theorem HL (p x:Pool) (hS:cO p≤4194304) (hX:cO x≤4194304):aa C uO [fW p,fW x,vB true] (YD (RZ p x)) []:=by
 refine(CS _ _ _ _ _ _ _ _ _ _ _ _ _ _ ?_).run
 refine aq rfl ⟨_,yE x hX,?_⟩
 unfold RZ
 cases h1:mU x with
 |false=>exact ai rfl ⟨_,_,_,_,_,_,qX p hS,⟨rfl,by first|rfl|trivial⟩⟩
 |true=>exact aq rfl ⟨rfl,by first|rfl|trivial⟩
theorem FR (p x:Pool) (hS:cO p≤4194304) (hX:cO x≤4194304):aa C sE [fW p,fW x,vB true] (YD (RZ p x)) []:=by
 refine(B4 _ _ _ _ _ _ _ _ _ _ _ _ _ _ ?_).run
 refine aq rfl ⟨_,yF x hX,?_⟩
 unfold RZ
 cases h1:mU x with
 |false=>exact ai rfl ⟨_,_,_,_,_,_,qt p hS,⟨rfl,by first|rfl|trivial⟩⟩
 |true=>exact aq rfl ⟨rfl,by first|rfl|trivial⟩
theorem KU {l:List Vol} {s:ByteArray} (h: ¬nJ l s<0): ∃v,gP l (nJ l s)=some v:=by
 obtain⟨m,h1,_⟩:=Qz _ l h
 exact⟨m,h1⟩
theorem FT (p:Pool) (s:ByteArray) (hS:cO p≤4194304) (hz:s.size≤140737488355328):aa C yq [fW p,vS s] (vI (if Ep p s=true then 0 else 1)) []:=by
 refine(Lu _ _ _ _ _ _ _ _ ⟨_,yE p hS,?_⟩).run
 unfold Ep
 cases h1:mU p with
 |false=>exact ai rfl ⟨rfl,by first|rfl|trivial⟩
 |true=>
  refine aq rfl ⟨_,(CJ s hz (qT s)).2 rfl,?_⟩
  cases h2:qT s with
  |false=>exact ai rfl ⟨rfl,by first|rfl|trivial⟩
  |true=>exact aq rfl ⟨rfl,by first|rfl|trivial⟩
theorem HM (p:Pool) (s:ByteArray) (hS:cO p≤4194304) (hz:s.size≤140737488355328):aa C By [fW p,vS s] (vI (if Ep p s=true then(if nJ p.vols s<0 then 2 else 0) else 1)) []:=by
 have hP:=gU hS
 refine(MB _ _ _ _ _ _ _ _ ⟨_,FT p s hS hz,?_⟩).run
 cases h1:Ep p s with
 |false=>exact aq (by simp) ⟨rfl,by first|rfl|trivial⟩
 |true=>
  refine ai (by simp) ⟨_,tI p s (by omega),?_⟩
  by_cases h2:nJ p.vols s<0
  ·exact ai (by simp[h2]) ⟨by simp[h2],by first|rfl|trivial⟩
  ·exact aq (by simp;omega) ⟨by simp[h2],by first|rfl|trivial⟩
theorem EF (p x:Pool) (ok:Bool) (hS:cO p≤4194304) (hX:cO x≤4194304):aa C uO [fW p,fW x,vB ok] (YD (R0 p x ok)) []:=by
 cases ok with
 |true=>exact HL p x hS hX
 |false=>
  refine(CS _ _ _ _ _ _ _ _ _ _ _ _ _ _ ?_).run
  exact ai rfl ⟨_,_,_,_,_,_,qX p hS,⟨rfl,by first|rfl|trivial⟩⟩
theorem Dt (p x:Pool) (ok:Bool) (hS:cO p≤4194304) (hX:cO x≤4194304):aa C sE [fW p,fW x,vB ok] (YD (R0 p x ok)) []:=by
 cases ok with
 |true=>exact FR p x hS hX
 |false=>
  refine(B4 _ _ _ _ _ _ _ _ _ _ _ _ _ _ ?_).run
  exact ai rfl ⟨_,_,_,_,_,_,qt p hS,⟨rfl,by first|rfl|trivial⟩⟩
theorem iO (l:List Key) (hl:l.length≤1073741824):aa C az [cJ l] (fK (cA l)) []:=by
 refine(K4 _ _ ?_).run
 unfold cA
 by_cases h:l.length=0
 ·exact ai (by simp[h]) ⟨by rw[if_pos h];rfl,rfl⟩
 ·refine aq (by rw[List.length_map,Int.ofNat_eq_natCast,aP];exact decide_eq_false (by omega)) ?_
  rw[show bR (l.map bM)=true from jQ _,cW (by simp;omega)]
  exact⟨by rw[if_neg h];rfl,rfl⟩
theorem mZ (l:List Key) (hl:l.length≤1073741824):aa C bS [cJ l] (fK (cA l)) []:=by
 refine(Ll _ _ ?_).run
 unfold cA
 by_cases h:l.length=0
 ·exact ai (by simp[h]) ⟨by rw[if_pos h];rfl,rfl⟩
 ·refine aq (by rw[List.length_map,Int.ofNat_eq_natCast,aP];exact decide_eq_false (by omega)) ?_
  exact⟨_,mY l (by omega),⟨by rw[if_neg h];rfl,rfl⟩⟩
theorem uV (n:List (List Key)) (k:Key) (hb:n.length≤1073740000) (hl:tot bH n≤1073740000):aa C dm [fK n,AJ k] (cJ (cq n k)) []:=by
 have h1:=cP n
 have h2:=nI (aR n) k
 exact(IT _ _ _ _ _ _ _ ⟨_,(iY n (by omega) (by omega) _).2 rfl,_,o5 (aR n) k (by omega),_,CI (eX (aR n) k) (by omega),⟨rfl,by first|rfl|trivial⟩⟩).run
theorem FU (n:List (List Key)) (k:Key) (hb:n.length≤1073740000) (hl:tot bH n≤1073740000):aa C sG [fK n,AJ k] (TB (cj n k)) []:=by
 have hs: ∀s∈n,s.length≤1073741824:=fun s hm=>by have:=mW (w:=bH) hm;unfold bH at this hl;omega
 have hcp:=qq n (by omega) hs
 have hXl:=C9 n k
 have hXt:=Da n k
 have tail: ∀(X:List (List Key)) (Q:QV),X=jk n k→Q (TB (cj n k)) []→ ∃(b18:Bool),aa C bn ([TV.ag [TC.sub 1 (X.map cc)]]) (TV.c (iB b18)) []∧(aD b18 (Q (TV.tu [(1,[TC.sub 1 (X.map cc)]),(0,[iB true])]) ([])) (∃(l19:RR),aa C dm ([TV.ag [TC.sub 1 (n.map cc)],AJ k]) (TV.c (TC.sub 5 l19)) []∧(∃(l20:RR),aa C bS ([TV.c (TC.sub 5 l19)]) (TV.ag [TC.sub 1 l20]) []∧(aD (bK 8 (Int.ofNat (List.length l19))) (∃(l21:RR),aa C aT ([TV.ag [TC.sub 1 (n.map cc)]]) (TV.ag [TC.sub 1 l21]) []∧(Q (TV.tu [(1,[TC.sub 1 l21]),(0,[iB false])]) ([]))) (∃(b22:Bool),aa C bn ([TV.ag [TC.sub 1 l20]]) (TV.c (iB b22)) []∧(aD (!b22) (∃(l23:RR),aa C aT ([TV.ag [TC.sub 1 (n.map cc)]]) (TV.ag [TC.sub 1 l23]) []∧(Q (TV.tu [(1,[TC.sub 1 l23]),(0,[iB false])]) ([]))) (Q (TV.tu [(1,[TC.sub 1 l20]),(0,[iB true])]) ([])))))))):=by
  intro X Q hX hQ
  rw[←hX] at hXl hXt
  have hok:aa C bn [fK X] (vB (eY X)) []:=rT X (by omega) (by omega)
  have hkl:=nV n k
  have hnl:=uK (cq n k)
  have hnt:=uL (cq n k)
  have hok2:aa C bn [fK (cA (cq n k))] (vB (eY (cA (cq n k)))) []:=rT _ (by omega) (by omega)
  refine⟨_,hok,?_⟩
  unfold cj at hQ
  rw[←hX] at hQ
  cases h1:eY X with
  |true=>
   rw[if_pos h1] at hQ
   exact ai rfl hQ
  |false=>
   rw[if_neg (by rw[h1];simp)] at hQ
   refine aq rfl ⟨_,uV n k (by omega) (by omega),_,mZ (cq n k) (by omega),?_⟩
   by_cases h2:8<(cq n k).length
   ·rw[if_pos h2] at hQ
    exact ai (by simp<;>omega) ⟨_,hcp,hQ⟩
   ·rw[if_neg h2] at hQ
    refine aq (by simp<;>omega) ⟨_,hok2,?_⟩
    cases h3:eY (cA (cq n k)) with
    |true=>
     rw[if_pos h3] at hQ
     exact aq rfl hQ
    |false=>
     rw[if_neg (by rw[h3];simp)] at hQ
     exact ai rfl ⟨_,hcp,hQ⟩
 refine(Lk _ _ _ _ _ _ _ ⟨_,hcp,?_⟩).run
 rw[List.length_map]
 cases hlast:n[n.length-1]? with
 |none=>
  have h0:n.length=0:=Classical.byContradiction fun h=>by rw[List.getElem?_eq_getElem (by omega)] at hlast;cases hlast
  have hX:n++[[k]]=jk n k:=by unfold jk;rw[hlast]
  refine aq (by rw[h0,dH (by simp)];simp) ((ai (cW (by simp<;>omega)) ?_))
  rw[show List.append (n.map cc) [[TC.sub 5 [[iI k.b,iI k.a,iI k.k,iI k.c,iI k.g]]]]=(n++[[k]]).map cc from by simp[cc,bM]]
  exact tail _ (fun r fs=>r=TB (cj n k)∧fs=[]) hX ⟨rfl,by first|rfl|trivial⟩
 |some s=>
  have hlt:=(List.getElem?_eq_some_iff.1 hlast).1
  have hsub:cV (Int.ofNat n.length) 1=((n.length-1:Nat):Int):=by rw[dH (by simp<;>omega)];simp;omega
  have hrow:rowAt (n.map cc) ((n.length-1:Nat):Int)=some [TC.sub 5 (s.map bM)]:=by rw[bV,aL,hlast];rfl
  have hsl:=hs s (List.mem_of_getElem? hlast)
  have hset:setRow (n.map cc) ((n.length-1:Nat):Int) 0 [TC.sub 5 ((eX s k).map bM)]=(n.set (n.length-1) (eX s k)).map cc:=Kw (a:=s) (a':=eX s k) hlast rfl
  have happ:List.append (n.map cc) [[TC.sub 5 [[iI k.b,iI k.a,iI k.k,iI k.c,iI k.g]]]]=(n++[[k]]).map cc:=by simp[cc,bM]
  have hfit:fits (Nat.succ n.length) 24=true:=cW (by simp<;>omega)
  rw[hsub]
  refine ai (by simp) ⟨_,hrow,?_⟩
  have key: ∀Q:QV,Q (TB (cj n k)) []→ ∃(n8:Int) (n9:Int) (n10:Int) (n11:Int) (n12:Int) (b13:Bool),aa C eM ([TV.c (TC.sub 5 (s.map bM)),TV.c (iI k.b),TV.c (iI k.a)]) (TV.tu [(1,[iI n8,iI n9,iI n10,iI n11,iI n12]),(0,[iB b13])]) []∧(aD b13 (∃(l14:RR),rowAt (n.map cc) ((n.length-1:Nat):Int)=some [TC.sub 5 l14]∧(∃(l15:RR),aa C cC ([TV.c (TC.sub 5 l14),AJ k]) (TV.c (TC.sub 5 l15)) []∧(∃(l16:RR),rowAt (n.map cc) ((n.length-1:Nat):Int)=some [TC.sub 5 l16]∧(∃(l17:RR),rowAt (n.map cc) ((n.length-1:Nat):Int)=some [TC.sub 5 l17]∧(∃(b18:Bool),aa C bn ([TV.ag [TC.sub 1 (setRow (n.map cc) ((n.length-1:Nat):Int) 0 [TC.sub 5 l15])]]) (TV.c (iB b18)) []∧(aD b18 (Q (TV.tu [(1,[TC.sub 1 (setRow (n.map cc) ((n.length-1:Nat):Int) 0 [TC.sub 5 l15])]),(0,[iB true])]) ([])) (∃(l19:RR),aa C dm ([TV.ag [TC.sub 1 (n.map cc)],AJ k]) (TV.c (TC.sub 5 l19)) []∧(∃(l20:RR),aa C bS ([TV.c (TC.sub 5 l19)]) (TV.ag [TC.sub 1 l20]) []∧(aD (bK 8 (Int.ofNat (List.length l19))) (∃(l21:RR),aa C aT ([TV.ag [TC.sub 1 (n.map cc)]]) (TV.ag [TC.sub 1 l21]) []∧(Q (TV.tu [(1,[TC.sub 1 l21]),(0,[iB false])]) ([]))) (∃(b22:Bool),aa C bn ([TV.ag [TC.sub 1 l20]]) (TV.c (iB b22)) []∧(aD (!b22) (∃(l23:RR),aa C aT ([TV.ag [TC.sub 1 (n.map cc)]]) (TV.ag [TC.sub 1 l23]) []∧(Q (TV.tu [(1,[TC.sub 1 l23]),(0,[iB false])]) ([]))) (Q (TV.tu [(1,[TC.sub 1 l20]),(0,[iB true])]) ([])))))))))))))
   (∃(l24:RR),rowAt (n.map cc) ((n.length-1:Nat):Int)=some [TC.sub 5 l24]∧(aD (bK (Int.ofNat (List.length l24)) 4) (∃(l25:RR),rowAt (n.map cc) ((n.length-1:Nat):Int)=some [TC.sub 5 l25]∧(∃(l26:RR),aa C cC ([TV.c (TC.sub 5 l25),AJ k]) (TV.c (TC.sub 5 l26)) []∧(∃(l27:RR),rowAt (n.map cc) ((n.length-1:Nat):Int)=some [TC.sub 5 l27]∧(∃(l28:RR),rowAt (n.map cc) ((n.length-1:Nat):Int)=some [TC.sub 5 l28]∧(∃(b18:Bool),aa C bn ([TV.ag [TC.sub 1 (setRow (n.map cc) ((n.length-1:Nat):Int) 0 [TC.sub 5 l26])]]) (TV.c (iB b18)) []∧(aD b18 (Q (TV.tu [(1,[TC.sub 1 (setRow (n.map cc) ((n.length-1:Nat):Int) 0 [TC.sub 5 l26])]),(0,[iB true])]) ([])) (∃(l19:RR),aa C dm ([TV.ag [TC.sub 1 (n.map cc)],AJ k]) (TV.c (TC.sub 5 l19)) []∧(∃(l20:RR),aa C bS ([TV.c (TC.sub 5 l19)]) (TV.ag [TC.sub 1 l20]) []∧(aD (bK 8 (Int.ofNat (List.length l19))) (∃(l21:RR),aa C aT ([TV.ag [TC.sub 1 (n.map cc)]]) (TV.ag [TC.sub 1 l21]) []∧(Q (TV.tu [(1,[TC.sub 1 l21]),(0,[iB false])]) ([]))) (∃(b22:Bool),aa C bn ([TV.ag [TC.sub 1 l20]]) (TV.c (iB b22)) []∧(aD (!b22) (∃(l23:RR),aa C aT ([TV.ag [TC.sub 1 (n.map cc)]]) (TV.ag [TC.sub 1 l23]) []∧(Q (TV.tu [(1,[TC.sub 1 l23]),(0,[iB false])]) ([]))) (Q (TV.tu [(1,[TC.sub 1 l20]),(0,[iB true])]) ([]))))))))))))) (aD (fits (Nat.succ (List.length n)) 24) (∃(b18:Bool),aa C bn ([TV.ag [TC.sub 1 (List.append (n.map cc) [[TC.sub 5 [[iI k.b,iI k.a,iI k.k,iI k.c,iI k.g]]]])]]) (TV.c (iB b18)) []∧(aD b18 (Q (TV.tu [(1,[TC.sub 1 (List.append (n.map cc) [[TC.sub 5 [[iI k.b,iI k.a,iI k.k,iI k.c,iI k.g]]]])]),(0,[iB true])]) ([])) (∃(l19:RR),aa C dm ([TV.ag [TC.sub 1 (n.map cc)],AJ k]) (TV.c (TC.sub 5 l19)) []∧(∃(l20:RR),aa C bS ([TV.c (TC.sub 5 l19)]) (TV.ag [TC.sub 1 l20]) []∧(aD (bK 8 (Int.ofNat (List.length l19))) (∃(l21:RR),aa C aT ([TV.ag [TC.sub 1 (n.map cc)]]) (TV.ag [TC.sub 1 l21]) []∧(Q (TV.tu [(1,[TC.sub 1 l21]),(0,[iB false])]) ([]))) (∃(b22:Bool),aa C bn ([TV.ag [TC.sub 1 l20]]) (TV.c (iB b22)) []∧(aD (!b22) (∃(l23:RR),aa C aT ([TV.ag [TC.sub 1 (n.map cc)]]) (TV.ag [TC.sub 1 l23]) []∧(Q (TV.tu [(1,[TC.sub 1 l23]),(0,[iB false])]) ([]))) (Q (TV.tu [(1,[TC.sub 1 l20]),(0,[iB true])]) ([]))))))))) (False))))):=by
   intro Q hQ
   refine⟨_,_,_,_,_,_,BM s k.b k.a hsl,?_⟩
   cases h1:(wK s k.b k.a).2 with
   |true=>
    have hX:n.set (n.length-1) (eX s k)=jk n k:=by unfold jk C8;rw[hlast];simp[h1]
    refine ai rfl ⟨_,hrow,_,o5 s k hsl,_,hrow,_,hrow,?_⟩
    rw[hset]
    exact tail _ _ hX hQ
   |false=>
    refine aq rfl ⟨_,hrow,?_⟩
    by_cases h2:s.length<4
    ·have hX:n.set (n.length-1) (eX s k)=jk n k:=by unfold jk C8;rw[hlast];simp[h1,h2]
     refine ai (by simp<;>omega) ⟨_,hrow,_,o5 s k hsl,_,hrow,_,hrow,?_⟩
     rw[hset]
     exact tail _ _ hX hQ
    ·have hX:n++[[k]]=jk n k:=by unfold jk C8;rw[hlast];simp[h1,h2]
     refine aq (by simp<;>omega) (ai hfit ?_)
     rw[happ]
     exact tail _ _ hX hQ
  exact⟨(TB (cj n k),[]),key (fun a b=>(a,b)=(TB (cj n k),([]:List TV))) rfl,key (fun a b=>(a,b)=(TB (cj n k),([]:List TV))) rfl,⟨rfl,rfl⟩⟩
theorem FV (n:List (List Key)) (k:Key) (hb:n.length≤1073740000) (hl:tot bH n≤1073740000):aa C sF [fK n,AJ k] (TB (cj n k)) []:=by
 have hs: ∀s∈n,s.length≤1073741824:=fun s hm=>by have:=mW (w:=bH) hm;unfold bH at this hl;omega
 have hcp:=rW n (by omega) hs
 have hXl:=C9 n k
 have hXt:=Da n k
 have tail: ∀(X:List (List Key)) (Q:QV),X=jk n k→Q (TB (cj n k)) []→ ∃(b22:Bool),aa C bL ([TV.ag [TC.sub 1 (X.map cc)]]) (TV.c (iB b22)) []∧(aD b22 (Q (TV.tu [(1,[TC.sub 1 (X.map cc)]),(0,[iB true])]) ([])) (∃(l23:RR),aa C aI ([TV.ag [TC.sub 1 (n.map cc)]]) (TV.c (TC.sub 5 l23)) []∧(∃(l24:RR),aa C bg ([TV.c (TC.sub 5 l23),AJ k]) (TV.c (TC.sub 5 l24)) []∧(∃(l25:RR),aa C bU ([TV.c (TC.sub 5 l24)]) (TV.c (TC.sub 5 l25)) []∧(aD (bK 8 (Int.ofNat (List.length l25))) (∃(l26:RR),aa C bE ([TV.ag [TC.sub 1 (n.map cc)]]) (TV.ag [TC.sub 1 l26]) []∧(Q (TV.tu [(1,[TC.sub 1 l26]),(0,[iB false])]) ([]))) (∃(l27:RR),aa C az ([TV.c (TC.sub 5 l25)]) (TV.ag [TC.sub 1 l27]) []∧(∃(b28:Bool),aa C bL ([TV.ag [TC.sub 1 l27]]) (TV.c (iB b28)) []∧(aD (!b28) (∃(l29:RR),aa C bE ([TV.ag [TC.sub 1 (n.map cc)]]) (TV.ag [TC.sub 1 l29]) []∧(Q (TV.tu [(1,[TC.sub 1 l29]),(0,[iB false])]) ([]))) (∃(l30:RR),aa C az ([TV.c (TC.sub 5 l25)]) (TV.ag [TC.sub 1 l30]) []∧(Q (TV.tu [(1,[TC.sub 1 l30]),(0,[iB true])]) ([]))))))))))):=by
  intro X Q hX hQ
  rw[←hX] at hXl hXt
  have hok:aa C bL [fK X] (vB (eY X)) []:=rS X (by omega) (by omega)
  have hkl:=nV n k
  have hnl:=uK (cq n k)
  have hnt:=uL (cq n k)
  have hok2:aa C bL [fK (cA (cq n k))] (vB (eY (cA (cq n k)))) []:=rS _ (by omega) (by omega)
  refine⟨_,hok,?_⟩
  unfold cj at hQ
  rw[←hX] at hQ
  cases h1:eY X with
  |true=>
   rw[if_pos h1] at hQ
   exact ai rfl hQ
  |false=>
   rw[if_neg (by rw[h1];simp)] at hQ
   have g1:=cP n
   have g2:=nI (aR n) k
   refine aq rfl ⟨_,(eo n (by omega) (by omega) _).2 rfl,_,mh (aR n) k (by omega),_,wh (eX (aR n) k) (by omega),?_⟩
   change aD (bK 8 (Int.ofNat (List.length ((cq n k).map bM)))) _ _
   by_cases h2:8<(cq n k).length
   ·rw[if_pos h2] at hQ
    exact ai (by simp<;>omega) ⟨_,hcp,hQ⟩
   ·rw[if_neg h2] at hQ
    refine aq (by simp<;>omega) ⟨_,iO (cq n k) (by omega),_,hok2,?_⟩
    cases h3:eY (cA (cq n k)) with
    |true=>
     rw[if_pos h3] at hQ
     exact aq rfl ⟨_,iO (cq n k) (by omega),hQ⟩
    |false=>
     rw[if_neg (by rw[h3];simp)] at hQ
     exact ai rfl ⟨_,hcp,hQ⟩
 refine(Lw _ _ _ _ _ _ _ ⟨_,hcp,?_⟩).run
 rw[List.length_map]
 cases hlast:n[n.length-1]? with
 |none=>
  have h0:n.length=0:=Classical.byContradiction fun h=>by rw[List.getElem?_eq_getElem (by omega)] at hlast;cases hlast
  have hX:n++[[k]]=jk n k:=by unfold jk;rw[hlast]
  refine aq (by rw[h0,dH (by simp)];simp) (aq (by rw[h0,dH (by simp)];simp) (ai (cW (by simp<;>omega)) ?_))
  rw[show List.append (n.map cc) [[TC.sub 5 [[iI k.b,iI k.a,iI k.k,iI k.c,iI k.g]]]]=(n++[[k]]).map cc from by simp[cc,bM]]
  exact tail _ (fun r fs=>r=TB (cj n k)∧fs=[]) hX ⟨rfl,by first|rfl|trivial⟩
 |some s=>
  have hlt:=(List.getElem?_eq_some_iff.1 hlast).1
  have hsub:cV (Int.ofNat n.length) 1=((n.length-1:Nat):Int):=by rw[dH (by simp<;>omega)];simp;omega
  have hrow:rowAt (n.map cc) ((n.length-1:Nat):Int)=some [TC.sub 5 (s.map bM)]:=by rw[bV,aL,hlast];rfl
  have hsl:=hs s (List.mem_of_getElem? hlast)
  have hset:setRow (n.map cc) ((n.length-1:Nat):Int) 0 [TC.sub 5 ((eX s k).map bM)]=(n.set (n.length-1) (eX s k)).map cc:=Kw (a:=s) (a':=eX s k) hlast rfl
  have happ:List.append (n.map cc) [[TC.sub 5 [[iI k.b,iI k.a,iI k.k,iI k.c,iI k.g]]]]=(n++[[k]]).map cc:=by simp[cc,bM]
  have hfit:fits (Nat.succ n.length) 24=true:=cW (by simp<;>omega)
  rw[hsub]
  refine ai (by simp) ⟨_,hrow,_,hrow,_,_,_,_,_,_,BL s k.b k.a hsl,ai (by simp) ⟨_,hrow,_,hrow,?_⟩⟩
  by_cases h2:s.length<4
  ·have hX:n.set (n.length-1) (eX s k)=jk n k:=by unfold jk C8;rw[hlast];simp[h2]
   refine ai (by simp<;>omega) ⟨_,hrow,_,hrow,_,mh s k hsl,_,hrow,_,hrow,?_⟩
   rw[hset]
   exact tail _ (fun r fs=>r=TB (cj n k)∧fs=[]) hX ⟨rfl,by first|rfl|trivial⟩
  ·refine aq (by simp<;>omega) ?_
   cases h1:(wK s k.b k.a).2 with
   |true=>
    have hX:n.set (n.length-1) (eX s k)=jk n k:=by unfold jk C8;rw[hlast];simp[h1]
    refine ai rfl ⟨_,hrow,_,hrow,_,mh s k hsl,_,hrow,_,hrow,?_⟩
    rw[hset]
    exact tail _ (fun r fs=>r=TB (cj n k)∧fs=[]) hX ⟨rfl,by first|rfl|trivial⟩
   |false=>
    have hX:n++[[k]]=jk n k:=by unfold jk C8;rw[hlast];simp[h1,h2]
    refine aq rfl (ai hfit ?_)
    rw[happ]
    exact tail _ (fun r fs=>r=TB (cj n k)∧fs=[]) hX ⟨rfl,by first|rfl|trivial⟩
theorem tK (t:Tree) (i:Nat) (lw:List Int) (nd:List (List (List Key))) (h1:i+1≤t.lows.length) (h2:i+1≤t.nodes.length) (hl:t.lows.length≤1073741824) (hn:t.nodes.length≤1073741824) (hlw:lw.length≤1073741824) (hnd:nd.length≤1073741824):aa C aG [dj t,vI (i:Int),j6 lw,tD nd] (dj (ke t i 1 lw nd)) []:=by
 have e1:ax (t.lows.map bP) 0 (i:Int)=(t.lows.take i).map bP:=by rw[cz];rfl
 have e2:ax (t.lows.map bP) ((i:Int)+1) (Int.ofNat (t.lows.map bP).length)=(t.lows.drop (i+1)).map bP:=by
  rw[cz,List.length_map,show((i:Int)+1).toNat=i+1 from by omega,show(Int.ofNat t.lows.length).toNat=t.lows.length from rfl,List.take_length]
 have e3:ax (t.nodes.map aX) 0 (i:Int)=(t.nodes.take i).map aX:=by rw[cz];rfl
 have ea:aA (i:Int) 1=(i:Int)+1:=aJ (by omega)
 have k1:(t.lows.take i).length≤t.lows.length:=by rw[List.length_take];omega
 have k2:(t.lows.drop (i+1)).length≤t.lows.length:=by rw[List.length_drop];omega
 have k3:(t.nodes.take i).length≤t.nodes.length:=by rw[List.length_take];omega
 have k4:(t.nodes.drop (i+1)).length≤t.nodes.length:=by rw[List.length_drop];omega
 have e4:ax (t.nodes.map aX) ((i:Int)+1) (Int.ofNat (t.nodes.map aX).length)=(t.nodes.drop (i+1)).map aX:=by
  rw[cz,List.length_map,show((i:Int)+1).toNat=i+1 from by omega,show(Int.ofNat t.nodes.length).toNat=t.nodes.length from rfl,List.take_length]
 refine(Pv _ _ _ _ _ _ ?_).run
 rw[ea,e1,e2,e3,e4,jD,jD,jD,jD]
 refine ai (by simp<;>omega) (ai (by simp<;>omega) (ai (by rw[jP,cW (by simp<;>omega)];rfl) (ai (by rw[jP,cW (by simp only[List.length_map,Nat.add_eq];omega)];rfl) (ai (by rw[jP,cW (by simp only[List.length_map,List.length_append,Nat.add_eq];omega)];rfl)
  (ai (by simp<;>omega) (ai (by simp<;>omega) (ai (cW (by simp<;>omega)) (ai (cW (by simp only[List.length_map,Nat.add_eq];omega)) (ai (cW (by simp only[List.length_map,List.length_append,Nat.add_eq];omega)) ?_)))))))))
 exact⟨rfl,by first|rfl|trivial⟩
attribute [local semireducible] gR ax in
theorem TM {rows:RR} {i c:Nat} (hk:i+c≤rows.length):ax (gR 1 rows 0 (i:Int)) ((i:Int)+(c:Int)) (Int.ofNat rows.length)=rows.drop (i+c):=by
 unfold ax gR
 rw[Int.toNat_natCast,show((i:Int)+(c:Int)).toNat=i+c from by omega,show(0:Int).toNat=0 from rfl,show(Int.ofNat rows.length).toNat=rows.length from rfl,List.take_zero,List.nil_append,Nat.sub_zero]
 rw[List.take_of_length_le (by simp<;>omega),List.drop_append,List.length_replicate,List.drop_of_length_le (by simp),List.nil_append,List.drop_drop]
 congr 1;omega
theorem qu (t:Tree) (i c:Nat) (lw:List Int) (nd:List (List (List Key))) (h1:i+c≤t.lows.length) (h2:i+c≤t.nodes.length) (hl:t.lows.length≤1073741824) (hn:t.nodes.length≤1073741824) (hlw:lw.length≤1073741824) (hnd:nd.length≤1073741824):aa C dF [dj t,vI (i:Int),vI (c:Int),j6 lw,tD nd] (dj (ke t i c lw nd)) []:=by
 have e1:ax (t.lows.map bP) 0 (i:Int)=(t.lows.take i).map bP:=by rw[cz];rfl
 have e2:ax (t.lows.map bP) ((i:Int)+(c:Int)) (Int.ofNat (t.lows.map bP).length)=(t.lows.drop (i+c)).map bP:=by
  rw[cz,List.length_map,show((i:Int)+(c:Int)).toNat=i+c from by omega,show(Int.ofNat t.lows.length).toNat=t.lows.length from rfl,List.take_length]
 have e3:ax (t.nodes.map aX) 0 (i:Int)=(t.nodes.take i).map aX:=by rw[cz];rfl
 have ea:aA (i:Int) (c:Int)=(i:Int)+(c:Int):=aJ (by omega)
 have k1:(t.lows.take i).length≤t.lows.length:=by rw[List.length_take];omega
 have k2:(t.lows.drop (i+c)).length≤t.lows.length:=by rw[List.length_drop];omega
 have k3:(t.nodes.take i).length≤t.nodes.length:=by rw[List.length_take];omega
 have k4:(t.nodes.drop (i+c)).length≤t.nodes.length:=by rw[List.length_drop];omega
 have e4:ax (gR 1 (t.nodes.map aX) 0 (i:Int)) ((i:Int)+(c:Int)) (Int.ofNat (t.nodes.map aX).length)=(t.nodes.drop (i+c)).map aX:=by
  rw[TM (by rw[List.length_map];exact h2),List.map_drop]
 refine(Jk _ _ _ _ _ _ _ ?_).run
 rw[ea,e1,e2,e3,e4]
 refine ai (by simp<;>omega) ⟨_,uS (t.lows.take i) (by omega),?_⟩
 rw[jD,jD,jD,jD]
 refine ai (by simp<;>omega) (ai (by rw[jP,cW (by simp only[List.length_map,Nat.add_eq];omega)];rfl) (ai (by rw[jP,cW (by simp only[List.length_map,List.length_append,Nat.add_eq];omega)];rfl)
  (ai (by simp<;>omega) (ai (by simp<;>omega) (ai (cW (by simp<;>omega)) (ai (cW (by simp only[List.length_map,Nat.add_eq];omega)) (ai (cW (by simp only[List.length_map,List.length_append,Nat.add_eq];omega)) ?_)))))))
 exact⟨rfl,by first|rfl|trivial⟩
def N7:Option Nat→Int
 |some i=>i
 |none=> -1
theorem rX (t:Tree) (hn:t.nodes.length≤1073741824) (hz:tot aQ t.nodes≤1073740000):aa C gf [dj t] (vI (N7 (oI t))) []:=by
 refine(Ni _ _ _ ?_).run
 have key: ∀(d i:Nat),i+d=t.nodes.length→rC t d i=oI t→ah C gf ak 4 0 (pN (i:Int) (t.lows.map bP) (t.nodes.map aX)) (fun x st=>aF C gf ak x st fun r fs=>r=vI (N7 (oI t))∧fs=[]):=by
  intro d
  induction d with
  |zero=>
   intro i h he
   have ea:aA (i:Int) 1=(i:Int)+1:=aJ (by omega)
   refine AB _ _ _ _ ?_
   rw[ea]
   exact aq (by simp<;>omega) (AD _ _ _ _ _ ⟨by rw[←he];rfl,rfl⟩)
  |succ d ih=>
   intro i h he
   have ea:aA (i:Int) 1=(i:Int)+1:=aJ (by omega)
   have ec:(i:Int)+1=((i+1:Nat):Int):=by omega
   unfold rC at he
   refine AB _ _ _ _ ?_
   rw[ea,ec]
   by_cases h1:i+1<t.nodes.length
   ·rw[if_pos h1] at he
    obtain⟨a,ha⟩: ∃a,t.nodes[i]?=some a:=⟨_,List.getElem?_eq_getElem (by omega)⟩
    obtain⟨b,hb⟩: ∃b,t.nodes[i+1]?=some b:=⟨_,List.getElem?_eq_getElem h1⟩
    have za:a.length+tot bH a≤tot aQ t.nodes:=j8 (w:=aQ) ha
    have zb:b.length+tot bH b≤tot aQ t.nodes:=j8 (w:=aQ) hb
    have ka:iD t i=aR a:=by unfold iD;rw[List.getD_eq_getElem?_getD,ha];rfl
    have kb:iD t (i+1)=aR b:=by unfold iD;rw[List.getD_eq_getElem?_getD,hb];rfl
    have la:=cP a
    have lb:=cP b
    rw[ka,kb] at he
    refine ai (by simp<;>omega) ⟨_,by rw[bV,aL,ha];rfl,_,by rw[bV,aL,hb];rfl,_,(eo a (by omega) (by omega) _).2 rfl,_,(eo b (by omega) (by omega) _).2 rfl,?_⟩
    rw[List.length_map,List.length_map,show aA (Int.ofNat (aR a).length) (Int.ofNat (aR b).length)=((aR a).length:Int)+(aR b).length from aJ (by simp<;>omega)]
    by_cases h2:(aR a).length+(aR b).length≤6
    ·rw[if_pos h2] at he
     exact ai (by simp<;>omega) (Jq _ _ _ _ _ _ ⟨by rw[←he];rfl,rfl⟩)
    ·rw[if_neg h2] at he
     exact aq (by simp<;>omega) (ih (i+1) (by omega) he)
   ·rw[if_neg h1] at he
    exact aq (by simp<;>omega) (AD _ _ _ _ _ ⟨by rw[←he];rfl,rfl⟩)
 exact key t.nodes.length 0 (by omega) rfl
theorem HN (t0:Tree) (hw0:t0.lows.length=t0.nodes.length) (hz0:tot aQ t0.nodes+t0.nodes.length≤1073700000):aa C au [dj t0] (dj (kf t0.nodes.length t0)) []:=by
 refine(ME _ _ _ ⟨_,rX t0 (by omega) (by omega),?_⟩).run
 have key: ∀(m:Nat) (t:Tree),t.nodes.length=m→t.lows.length=t.nodes.length→tot aQ t.nodes+t.nodes.length≤1073700000→kf m t=kf t0.nodes.length t0→ah C au ak 4 0 (mw (N7 (oI t)) (t.lows.map bP) (t.nodes.map aX)) (fun x st=>aF C au ak x st fun r fs=>r=dj (kf t0.nodes.length t0)∧fs=[]):=by
  intro m
  induction m with
  |zero=>
   intro t hm hw hz he
   have hp:oI t=none:=by unfold oI;rw[hm];rfl
   rw[hp]
   exact r5 _ _ _ _ (aq (by simp[N7]) (z7 _ _ _ _ _ ⟨by rw[←he];rfl,rfl⟩))
  |succ m ih=>
   intro t hm hw hz he
   rw[qV] at he
   cases hp:oI t with
   |none=>
    rw[hp] at he
    have he:t=kf t0.nodes.length t0:=he
    exact r5 _ _ _ _ (aq (by simp[N7]) (z7 _ _ _ _ _ ⟨by rw[←he],rfl⟩))
   |some i=>
   rw[hp] at he
   have he:kf m (cG t i)=kf t0.nodes.length t0:=he
   have hlt:=qU hp
   show ah C au ak 4 0 (mw (i:Int) (t.lows.map bP) (t.nodes.map aX)) _
   obtain⟨a,ha⟩: ∃a,t.nodes[i]?=some a:=⟨_,List.getElem?_eq_getElem (by omega)⟩
   obtain⟨b,hb⟩: ∃b,t.nodes[i+1]?=some b:=⟨_,List.getElem?_eq_getElem hlt.1⟩
   have za:a.length+tot bH a≤tot aQ t.nodes:=j8 (w:=aQ) ha
   have zb:b.length+tot bH b≤tot aQ t.nodes:=j8 (w:=aQ) hb
   have la:=cP a
   have lb:=cP b
   have h6:=hlt.2
   rw[gx ha,gx hb] at h6
   have ea:aA (i:Int) 1=((i+1:Nat):Int):=by rw[aJ (by omega)];omega
   have eb:aA (i:Int) 2=((i+2:Nat):Int):=by rw[aJ (by omega)];omega
   have ra:rowAt (t.nodes.map aX) (i:Int)=some [TC.sub 1 (a.map cc)]:=by rw[bV,aL,ha];rfl
   have rb:rowAt (t.nodes.map aX) ((i+1:Nat):Int)=some [TC.sub 1 (b.map cc)]:=by rw[bV,aL,hb];rfl
   have c1:ax (t.lows.map bP) 0 ((i+1:Nat):Int)=(t.lows.take (i+1)).map bP:=by rw[cz];rfl
   have c2:ax (t.lows.map bP) ((i+2:Nat):Int) (Int.ofNat (t.lows.map bP).length)=(t.lows.drop (i+2)).map bP:=by
    rw[cz,List.length_map,Int.toNat_natCast,show(Int.ofNat t.lows.length).toNat=t.lows.length from rfl,List.take_length]
   have c3:ax (t.nodes.map aX) 0 (i:Int)=(t.nodes.take i).map aX:=by rw[cz];rfl
   have c4:ax (t.nodes.map aX) ((i+2:Nat):Int) (Int.ofNat (t.nodes.map aX).length)=(t.nodes.drop (i+2)).map aX:=by
    rw[cz,List.length_map,Int.toNat_natCast,show(Int.ofNat t.nodes.length).toNat=t.nodes.length from rfl,List.take_length]
   have hlo:i<t.lows.length:=by omega
   have eL:List.append ((t.lows.take (i+1)).map bP) ((t.lows.drop (i+2)).map bP)=(cG t i).lows.map bP:=by
    rw[jD]
    unfold cG ke
    simp only[]
    rw[List.take_add_one,List.getD_eq_getElem?_getD,List.getElem?_eq_getElem hlo]
    simp
   have eN:List.append (List.append ((t.nodes.take i).map aX) [[TC.sub 1 ((cA (aR a++aR b)).map cc)]]) ((t.nodes.drop (i+2)).map aX)=(cG t i).nodes.map aX:=by
    rw[Em,jD]
    unfold cG ke
    simp only[]
    rw[gx ha,gx hb]
   have hsz:=uN hlt.1
   have hjl:=sC hlt.1
   have hjw:(cG t i).lows.length+1=t.lows.length:=by
    have:=ym t i 2 [t.lows.getD i 0] [cA (iD t i++iD t (i+1))] (by omega)
    unfold cG
    simp only[List.length_singleton] at this
    omega
   have k1:(t.lows.take (i+1)).length≤t.lows.length:=by rw[List.length_take];omega
   have k2:(t.lows.drop (i+2)).length≤t.lows.length:=by rw[List.length_drop];omega
   have k3:(t.nodes.take i).length≤t.nodes.length:=by rw[List.length_take];omega
   have k4:(t.nodes.drop (i+2)).length≤t.nodes.length:=by rw[List.length_drop];omega
   refine r5 _ _ _ _ (ai (by simp) ?_)
   rw[ea,eb]
   refine⟨_,ra,_,ra,_,rb,_,rb,_,(eo a (by omega) (by omega) _).2 rfl,_,(eo b (by omega) (by omega) _).2 rfl,?_⟩
   rw[jD,c1,c2,c3,c4]
   refine ai (by rw[jQ,cW (by simp only[List.length_map,Nat.add_eq];omega)];rfl) (ai (by simp<;>omega) (ai (by simp<;>omega) (ai (by rw[jP,cW (by simp only[List.length_map,Nat.add_eq];omega)];rfl) (ai (by rw[jP,cW (by simp only[List.length_map,Nat.add_eq];omega)];rfl)
    (ai (by simp<;>omega) (ai (by simp<;>omega) (ai (cW (by simp only[List.length_map,Nat.add_eq];omega)) ⟨_,iO (aR a++aR b) (by rw[List.length_append];omega),ai (cW (by simp only[List.length_map,Nat.succ_eq_add_one];omega)) ?_⟩)))))))
   rw[eL,eN]
   refine ai (cW (by rw[Em];simp only[List.length_map,List.length_append,List.length_singleton,Nat.add_eq];omega)) ⟨_,rX (cG t i) (by omega) (by omega),?_⟩
   exact ih (cG t i) (by omega) (by omega) (by omega) he
 cases hp:oI t0 with
 |none=>
  have hj:kf t0.nodes.length t0=t0:=by
   cases hm:t0.nodes.length with
   |zero=>rfl
   |succ m=>rw[qV,hp]
  exact z6 _ _ _ _ (aq (by simp[N7]) (Iy _ _ _ _ _ ⟨by rw[hj],rfl⟩))
 |some i=>
  have hlt:=qU hp
  obtain⟨t,ht⟩: ∃t,t=t0:=⟨_,rfl⟩
  rw[←ht] at hlt hw0 hz0 hp ⊢
  show ah C au ak 4 0 (rY (i:Int) (t.lows.map bP) (t.nodes.map aX)) _
  obtain⟨a,ha⟩: ∃a,t.nodes[i]?=some a:=⟨_,List.getElem?_eq_getElem (by omega)⟩
  obtain⟨b,hb⟩: ∃b,t.nodes[i+1]?=some b:=⟨_,List.getElem?_eq_getElem hlt.1⟩
  have za:a.length+tot bH a≤tot aQ t.nodes:=j8 (w:=aQ) ha
  have zb:b.length+tot bH b≤tot aQ t.nodes:=j8 (w:=aQ) hb
  have la:=cP a
  have lb:=cP b
  have h6:=hlt.2
  rw[gx ha,gx hb] at h6
  have ea:aA (i:Int) 1=((i+1:Nat):Int):=by rw[aJ (by omega)];omega
  have eb:aA (i:Int) 2=((i+2:Nat):Int):=by rw[aJ (by omega)];omega
  have ra:rowAt (t.nodes.map aX) (i:Int)=some [TC.sub 1 (a.map cc)]:=by rw[bV,aL,ha];rfl
  have rb:rowAt (t.nodes.map aX) ((i+1:Nat):Int)=some [TC.sub 1 (b.map cc)]:=by rw[bV,aL,hb];rfl
  have c1:ax (t.lows.map bP) 0 ((i+1:Nat):Int)=(t.lows.take (i+1)).map bP:=by rw[cz];rfl
  have c2:ax (t.lows.map bP) ((i+2:Nat):Int) (Int.ofNat (t.lows.map bP).length)=(t.lows.drop (i+2)).map bP:=by
   rw[cz,List.length_map,Int.toNat_natCast,show(Int.ofNat t.lows.length).toNat=t.lows.length from rfl,List.take_length]
  have c3:ax (t.nodes.map aX) 0 (i:Int)=(t.nodes.take i).map aX:=by rw[cz];rfl
  have c4:ax (t.nodes.map aX) ((i+2:Nat):Int) (Int.ofNat (t.nodes.map aX).length)=(t.nodes.drop (i+2)).map aX:=by
   rw[cz,List.length_map,Int.toNat_natCast,show(Int.ofNat t.nodes.length).toNat=t.nodes.length from rfl,List.take_length]
  have hlo:i<t.lows.length:=by omega
  have eL:List.append ((t.lows.take (i+1)).map bP) ((t.lows.drop (i+2)).map bP)=(cG t i).lows.map bP:=by
   rw[jD]
   unfold cG ke
   simp only[]
   rw[List.take_add_one,List.getD_eq_getElem?_getD,List.getElem?_eq_getElem hlo]
   simp
  have eN:List.append (List.append ((t.nodes.take i).map aX) [[TC.sub 1 ((cA (aR a++aR b)).map cc)]]) ((t.nodes.drop (i+2)).map aX)=(cG t i).nodes.map aX:=by
   rw[Em,jD]
   unfold cG ke
   simp only[]
   rw[gx ha,gx hb]
  have hsz:=uN hlt.1
  have hjl:=sC hlt.1
  have hjw:(cG t i).lows.length+1=t.lows.length:=by
   have:=ym t i 2 [t.lows.getD i 0] [cA (iD t i++iD t (i+1))] (by omega)
   unfold cG
   simp only[List.length_singleton] at this
   omega
  have k1:(t.lows.take (i+1)).length≤t.lows.length:=by rw[List.length_take];omega
  have k2:(t.lows.drop (i+2)).length≤t.lows.length:=by rw[List.length_drop];omega
  have k3:(t.nodes.take i).length≤t.nodes.length:=by rw[List.length_take];omega
  have k4:(t.nodes.drop (i+2)).length≤t.nodes.length:=by rw[List.length_drop];omega
  refine z6 _ _ _ _ (ai (by simp) ?_)
  rw[ea,eb]
  refine⟨_,ra,_,rb,_,(eo a (by omega) (by omega) _).2 rfl,_,(eo b (by omega) (by omega) _).2 rfl,?_⟩
  rw[jD,c1,c2,c3,c4]
  refine ai (by rw[jQ,cW (by simp only[List.length_map,Nat.add_eq];omega)];rfl) (ai (by simp<;>omega) (ai (by simp<;>omega) (ai (by rw[jP,cW (by simp only[List.length_map,Nat.add_eq];omega)];rfl) (ai (by rw[jP,cW (by simp only[List.length_map,Nat.add_eq];omega)];rfl)
   (ai (by simp<;>omega) (ai (by simp<;>omega) (ai (cW (by simp only[List.length_map,Nat.add_eq];omega)) ⟨_,iO (aR a++aR b) (by rw[List.length_append];omega),ai (cW (by simp only[List.length_map,Nat.succ_eq_add_one];omega)) ?_⟩)))))))
  rw[eL,eN]
  refine ai (cW (by rw[Em];simp only[List.length_map,List.length_append,List.length_singleton,Nat.add_eq];omega)) ⟨_,rX (cG t i) (by omega) (by omega),?_⟩
  refine ht▸key (cG t i).nodes.length (cG t i) rfl (by omega) (by omega) ?_
  rw[←ht]
  have:t.nodes.length=(cG t i).nodes.length+1:=by omega
  rw[this]
  rw[qV,hp]
theorem Hg (t u:Tree) (hw:t.lows.length=t.nodes.length) (hz:tot aQ t.nodes+t.nodes.length≤1073700000) (E:oI t=none→t=u)
 (N: ∀i,oI t=some i→ah C bX ak 4 0 (jc ((0:Nat):Int) ((cG t i).lows.map bP) ((cG t i).nodes.map aX)) (fun x st=>aF C bX ak x st fun r fs=>r=dj u∧fs=[])):
 ∀d i,i+d=t.nodes.length→rC t d i=oI t→ah C bX ak 4 0 (jc (i:Int) (t.lows.map bP) (t.nodes.map aX)) (fun x st=>aF C bX ak x st fun r fs=>r=dj u∧fs=[]):=by
 intro d
 induction d with
 |zero=>
  intro i h he
  have ea:aA (i:Int) 1=(i:Int)+1:=aJ (by omega)
  refine Ah _ _ _ _ ?_
  rw[ea]
  exact aq (by simp<;>omega) (Ai _ _ _ _ _ ⟨by rw[E (by rw[←he];rfl)],rfl⟩)
 |succ d ih=>
  intro i h he
  have ea:aA (i:Int) 1=(i:Int)+1:=aJ (by omega)
  have ec:(i:Int)+1=((i+1:Nat):Int):=by omega
  unfold rC at he
  refine Ah _ _ _ _ ?_
  rw[ea,ec]
  by_cases h1:i+1<t.nodes.length
  ·rw[if_pos h1] at he
   obtain⟨a,ha⟩: ∃a,t.nodes[i]?=some a:=⟨_,List.getElem?_eq_getElem (by omega)⟩
   obtain⟨b,hb⟩: ∃b,t.nodes[i+1]?=some b:=⟨_,List.getElem?_eq_getElem h1⟩
   have za:a.length+tot bH a≤tot aQ t.nodes:=j8 (w:=aQ) ha
   have zb:b.length+tot bH b≤tot aQ t.nodes:=j8 (w:=aQ) hb
   have la:=cP a
   have lb:=cP b
   rw[gx ha,gx hb] at he
   have ra:rowAt (t.nodes.map aX) (i:Int)=some [TC.sub 1 (a.map cc)]:=by rw[bV,aL,ha];rfl
   have rb:rowAt (t.nodes.map aX) ((i+1:Nat):Int)=some [TC.sub 1 (b.map cc)]:=by rw[bV,aL,hb];rfl
   refine ai (by simp<;>omega) ⟨_,ra,_,ra,_,rb,_,rb,_,(iY a (by omega) (by omega) _).2 rfl,_,(iY b (by omega) (by omega) _).2 rfl,ai (by rw[jQ,cW (by simp only[List.length_map,Nat.add_eq];omega)];rfl) ?_⟩
   rw[jD]
   by_cases h2:(aR a).length+(aR b).length≤6
   ·rw[if_pos h2] at he
    have hlo:i<t.lows.length:=by omega
    have hlw:rowAt (t.lows.map bP) (i:Int)=some [iI (t.lows.getD i 0)]:=by
     rw[bV,aL,List.getD_eq_getElem?_getD,List.getElem?_eq_getElem hlo];rfl
    have hnn:=mZ (aR a++aR b) (by rw[List.length_append];omega)
    have hrp:=qu t i 2 [t.lows.getD i 0] [cA (aR a++aR b)] (by omega) (by omega) (by omega) (by omega) (by simp) (by simp)
    have ej:ke t i 2 [t.lows.getD i 0] [cA (aR a++aR b)]=cG t i:=by unfold cG;rw[gx ha,gx hb]
    rw[ej] at hrp
    have hN:=N i he.symm
    rw[←show aA (-1) 1=((0:Nat):Int) from by rw[aJ (by omega)];rfl] at hN
    exact ai (by simp[gX]<;>omega) ⟨_,hlw,_,hlw,_,hnn,_,_,hrp,⟨_,hnn,_,_,hrp,⟨_,_,hrp,rfl⟩,rfl⟩,hN⟩
   ·rw[if_neg h2] at he
    exact aq (by simp[gX]<;>omega) (ih (i+1) (by omega) he)
  ·rw[if_neg h1] at he
   exact aq (by simp<;>omega) (Ai _ _ _ _ _ ⟨by rw[E he.symm],rfl⟩)
theorem HO (t0:Tree) (hw0:t0.lows.length=t0.nodes.length) (hz0:tot aQ t0.nodes+t0.nodes.length≤1073700000):aa C bX [dj t0] (dj (kf t0.nodes.length t0)) []:=by
 refine(MT _ _ _ ?_).run
 have key: ∀(m:Nat) (t:Tree),t.nodes.length=m→t.lows.length=t.nodes.length→tot aQ t.nodes+t.nodes.length≤1073700000→ah C bX ak 4 0 (jc ((0:Nat):Int) (t.lows.map bP) (t.nodes.map aX)) (fun x st=>aF C bX ak x st fun r fs=>r=dj (kf m t)∧fs=[]):=by
  intro m
  induction m with
  |zero=>
   intro t hm hw hz
   exact Hg t (kf 0 t) hw hz (fun _=>rfl) (fun i hi=>by have:=(qU hi).1;omega) t.nodes.length 0 (by omega) rfl
  |succ m ih=>
   intro t hm hw hz
   refine Hg t (kf (m+1) t) hw hz (fun h=>(R7 h).symm) (fun i hi=> ?_) t.nodes.length 0 (by omega) rfl
   have h1:=sC (qU hi).1
   have h2:=uN (qU hi).1
   have:=ih (cG t i) (by omega) (CH (qU hi).1 hw) (by omega)
   rw[qV,hi]
   exact this
 exact key t0.nodes.length t0 rfl hw0 hz0
theorem Sc {t:Tree} {i:Nat} {n:List (List Key)} (h1:i<t.lows.length) (h2:i<t.nodes.length):ke t i 1 [t.lows.getD i 0] [n]=⟨t.lows,t.nodes.set i n⟩:=by
 unfold ke
 rw[List.set_eq_take_append_cons_drop,if_pos h2,List.getD_eq_getElem?_getD,List.getElem?_eq_getElem h1]
 have e:t.lows.take i++[t.lows[i]]++t.lows.drop (i+1)=t.lows:=by
  rw[List.append_assoc,List.singleton_append,←List.drop_eq_getElem_cons h1,List.take_append_drop]
 simp only[Option.getD_some,e,List.append_assoc,List.singleton_append]
theorem Y9 {n:Nat} (h:n≤1073741824):bB .i64 (aA (Int.ofNat n) 1) 2=(((n+1)/2:Nat):Int):=by
 rw[aJ (by simp;omega)]
 unfold bB
 rw[Int.tdiv_eq_ediv_of_nonneg (by simp;omega),show IntKind.wrap .i64 ((Int.ofNat n+1)/2)=(Int.ofNat n+1)/2 from IntWalk.i64_in _ (by simp;omega)]
 simp
end Go.T.R
