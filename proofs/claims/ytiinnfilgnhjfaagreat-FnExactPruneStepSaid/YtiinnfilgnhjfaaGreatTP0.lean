/- What the functions answer. -/
import Derived.Test.YtiinnfilgnhjfaaGreatTR1
set_option linter.unusedVariables false
set_option linter.unusedSimpArgs false
set_option maxRecDepth 100000
set_option maxHeartbeats 4000000
namespace Go.T.R
open Go Go.T
theorem toKey (v0:Int) (v1:Int) (v2:Int) (v3:Int) (v4:Int):aa C Fm [.ag [iI v0,iI v1,iI v2,iI v3,iI v4]] (.ag [iI v0,iI v1,iI v2,iI v3,iI v4]) []:=(Sy _ _ _ _ _ _ ⟨rfl,by first|rfl|trivial⟩).run
theorem acW (v0:Int) (v1:Int) (v2:Int) (v3:Int) (v4:Int):aa C Fo [.ag [iI v0,iI v1,iI v2,iI v3,iI v4],.ag [iI v0,iI v1,iI v2,iI v3,iI v4]] (vB true) []:=by
 refine(SF _ _ _ _ _ _ _ _ _ _ _ ?_).run
 simp
theorem abU (l:List (Key)) (hl:l.length≤1099511627776):aa C lI [cH l] (cH l) []:=by
 refine(P5 _ _ ?_).run
 simp only[List.length_map]
 refine ai (by simp;omega) ?_
 simp only[gC,Aa,Int.toNat_natCast]
 refine Ae (e:=bu) (z:=[iI 0,iI 0,iI 0,iI 0,iI 0]) l (fun i rows=>ah C lI ak 4 0 (qy (l.map bu) i rows) _) (fun a=>rfl) ?_ ?_
 ·exact Ch _ _ _ _ (an (by simp) (LD _ _ _ _ _ ⟨rfl,by first|rfl|trivial⟩))
 ·intro i rows a hi ha hr hn
  refine Ch _ _ _ _ (ai (by simp;omega) ⟨_,_,_,_,_,cO ha,_,_,_,_,_,toKey _ _ _ _ _,_,_,_,_,_,hr,_,_,_,_,_,hr,?_⟩)
  rw[aC (by omega)]
  exact hn
theorem abV (l:List (Key)) (hl:l.length≤1099511627776):aa C lJ [cH l,cH l] (vB true) []:=by
 refine(Qw _ _ _ ?_).run
 refine an (by simp) ?_
 refine aV l (fun i=>ah C lJ ak 4 0 (qE (l.map bu) (l.map bu) i) _) ?_ ?_
 ·exact CA _ _ _ _ (an (by simp) (Mb _ _ _ _ _ ⟨rfl,by first|rfl|trivial⟩))
 ·intro i a hi ha _ _ hn
  refine CA _ _ _ _ (ai (by simp;omega) ⟨_,_,_,_,_,cO ha,_,_,_,_,_,cO ha,_,acW _ _ _ _ _,an (by simp) ?_⟩)
  rw[aC (by omega)]
  exact hn
theorem acX (v0:Int) (v1:Int):aa C Fi [.ag [iI v0,iI v1]] (.ag [iI v0,iI v1]) []:=(SG _ _ _ ⟨rfl,by first|rfl|trivial⟩).run
theorem acY (v0:Int) (v1:Int):aa C Fk [.ag [iI v0,iI v1],.ag [iI v0,iI v1]] (vB true) []:=by
 refine(St _ _ _ _ _ ?_).run
 simp
theorem abW (l:List (Age)) (hl:l.length≤1099511627776):aa C lB [fE l] (fE l) []:=by
 refine(PW _ _ ?_).run
 simp only[List.length_map]
 refine ai (by simp;omega) ?_
 simp only[gC,Aa,Int.toNat_natCast]
 refine Ae (e:=bV) (z:=[iI 0,iI 0]) l (fun i rows=>ah C lB ak 4 0 (qv (l.map bV) i rows) _) (fun a=>rfl) ?_ ?_
 ·exact B8 _ _ _ _ (an (by simp) (Lj _ _ _ _ _ ⟨rfl,by first|rfl|trivial⟩))
 ·intro i rows a hi ha hr hn
  refine B8 _ _ _ _ (ai (by simp;omega) ⟨_,_,cO ha,_,_,acX _ _,_,_,hr,_,_,hr,?_⟩)
  rw[aC (by omega)]
  exact hn
theorem abX (l:List (Age)) (hl:l.length≤1099511627776):aa C lD [fE l,fE l] (vB true) []:=by
 refine(Qa _ _ _ ?_).run
 refine an (by simp) ?_
 refine aV l (fun i=>ah C lD ak 4 0 (qz (l.map bV) (l.map bV) i) _) ?_ ?_
 ·exact Cj _ _ _ _ (an (by simp) (LH _ _ _ _ _ ⟨rfl,by first|rfl|trivial⟩))
 ·intro i a hi ha _ _ hn
  refine Cj _ _ _ _ (ai (by simp;omega) ⟨_,_,cO ha,_,_,cO ha,_,acY _ _,an (by simp) ?_⟩)
  rw[aC (by omega)]
  exact hn
theorem toCell (v0:Int) (v1:Bool) (v2:Int):aa C Dq [.ag [iI v0,iB v1,iI v2]] (.ag [iI v0,iB v1,iI v2]) []:=(Pj _ _ _ _ ⟨rfl,by first|rfl|trivial⟩).run
theorem abY (v0:Int) (v1:Bool) (v2:Int):aa C Dr [.ag [iI v0,iB v1,iI v2],.ag [iI v0,iB v1,iI v2]] (vB true) []:=by
 refine(PC _ _ _ _ _ _ _ ?_).run
 simp
theorem aap (l:List (Cell)) (hl:l.length≤1099511627776):aa C jM [iz l] (iz l) []:=by
 refine(Oo _ _ ?_).run
 simp only[List.length_map]
 refine ai (by simp;omega) ?_
 simp only[gC,Aa,Int.toNat_natCast]
 refine Ae (e:=bU) (z:=[iI 0,iB false,iI 0]) l (fun i rows=>ah C jM ak 4 0 (pJ (l.map bU) i rows) _) (fun a=>rfl) ?_ ?_
 ·exact zE _ _ _ _ (an (by simp) (Ju _ _ _ _ _ ⟨rfl,by first|rfl|trivial⟩))
 ·intro i rows a hi ha hr hn
  refine zE _ _ _ _ (ai (by simp;omega) ⟨_,_,_,cO ha,_,_,_,toCell _ _ _,_,_,_,hr,_,_,_,hr,?_⟩)
  rw[aC (by omega)]
  exact hn
theorem aaq (l:List (Cell)) (hl:l.length≤1099511627776):aa C jN [iz l,iz l] (vB true) []:=by
 refine(NN _ _ _ ?_).run
 refine an (by simp) ?_
 refine aV l (fun i=>ah C jN ak 4 0 (pg (l.map bU) (l.map bU) i) _) ?_ ?_
 ·exact ze _ _ _ _ (an (by simp) (IM _ _ _ _ _ ⟨rfl,by first|rfl|trivial⟩))
 ·intro i a hi ha _ _ hn
  refine ze _ _ _ _ (ai (by simp;omega) ⟨_,_,_,cO ha,_,_,_,cO ha,_,abY _ _ _,an (by simp) ?_⟩)
  rw[aC (by omega)]
  exact hn
theorem acZ (v0:ByteArray) (v1:Int) (v2:Int) (v3:Bool):aa C Fj [.ag [iS v0,iI v1,iI v2,iB v3]] (.ag [iS v0,iI v1,iI v2,iB v3]) []:=(Sx _ _ _ _ _ ⟨rfl,by first|rfl|trivial⟩).run
theorem ac0 (v0:ByteArray) (v1:Int) (v2:Int) (v3:Bool):aa C Fl [.ag [iS v0,iI v1,iI v2,iB v3],.ag [iS v0,iI v1,iI v2,iB v3]] (vB true) []:=by
 refine(SA _ _ _ _ _ _ _ _ _ ?_).run
 simp
theorem abZ (l:List (Vol)) (hl:l.length≤1099511627776):aa C lC [yw l] (yw l) []:=by
 refine(Pb _ _ ?_).run
 simp only[List.length_map]
 refine ai (by simp;omega) ?_
 simp only[gC,Aa,Int.toNat_natCast]
 refine Ae (e:=dD) (z:=[iS bs0,iI 0,iI 0,iB false]) l (fun i rows=>ah C lC ak 4 0 (ql (l.map dD) i rows) _) (fun a=>rfl) ?_ ?_
 ·exact BM _ _ _ _ (an (by simp) (KD _ _ _ _ _ ⟨rfl,by first|rfl|trivial⟩))
 ·intro i rows a hi ha hr hn
  refine BM _ _ _ _ (ai (by simp;omega) ⟨_,_,_,_,cO ha,_,_,_,_,acZ _ _ _ _,_,_,_,_,hr,_,_,_,_,hr,?_⟩)
  rw[aC (by omega)]
  exact hn
theorem ab0 (l:List (Vol)) (hl:l.length≤1099511627776):aa C lE [yw l,yw l] (vB true) []:=by
 refine(Py _ _ _ ?_).run
 refine an (by simp) ?_
 refine aV l (fun i=>ah C lE ak 4 0 (qp (l.map dD) (l.map dD) i) _) ?_ ?_
 ·exact BS _ _ _ _ (an (by simp) (KT _ _ _ _ _ ⟨rfl,by first|rfl|trivial⟩))
 ·intro i a hi ha _ _ hn
  refine BS _ _ _ _ (ai (by simp;omega) ⟨_,_,_,_,cO ha,_,_,_,_,cO ha,_,ac0 _ _ _ _,an (by simp) ?_⟩)
  rw[aC (by omega)]
  exact hn
theorem ab1 (l:List (Int)) (hl:l.length≤1099511627776):aa C lG [lg l] (lg l) []:=by
 refine(PB _ _ ?_).run
 simp only[List.length_map]
 refine ai (by simp;omega) ?_
 simp only[gC,Aa,Int.toNat_natCast]
 refine Ae (e:=bC) (z:=[iI 0]) l (fun i rows=>ah C lG ak 4 0 (qq (l.map bC) i rows) _) (fun a=>rfl) ?_ ?_
 ·exact BV _ _ _ _ (an (by simp) (K2 _ _ _ _ _ ⟨rfl,by first|rfl|trivial⟩))
 ·intro i rows a hi ha hr hn
  refine BV _ _ _ _ (ai (by simp;omega) ⟨_,cO ha,_,hr,_,hr,?_⟩)
  rw[aC (by omega)]
  exact hn
theorem ab2 (l:List (Int)) (hl:l.length≤1099511627776):aa C lH [lg l,lg l] (vB true) []:=by
 refine(PY _ _ _ ?_).run
 refine an (by simp) ?_
 refine aV l (fun i=>ah C lH ak 4 0 (qw (l.map bC) (l.map bC) i) _) ?_ ?_
 ·exact B9 _ _ _ _ (an (by simp) (Lq _ _ _ _ _ ⟨rfl,by first|rfl|trivial⟩))
 ·intro i a hi ha _ _ hn
  refine B9 _ _ _ _ (ai (by simp;omega) ⟨_,cO ha,_,cO ha,an (by simp) ?_⟩)
  rw[aC (by omega)]
  exact hn
theorem aar (l:List (List Key)) (hl:l.length≤1099511627776) (hs: ∀s∈l,s.length≤1099511627776):aa C jQ [Gv l] (Gv l) []:=by
 refine(N9 _ _ ?_).run
 simp only[List.length_map]
 refine ai (by simp;omega) ?_
 simp only[gC,Aa,Int.toNat_natCast]
 refine Ae (e:=bX) (z:=[TC.sub 5 []]) l (fun i rows=>ah C jQ ak 4 0 (pE (l.map bX) i rows) _) (fun a=>rfl) ?_ ?_
 ·exact zw _ _ _ _ (an (by simp) (Jg _ _ _ _ _ ⟨rfl,by first|rfl|trivial⟩))
 ·intro i rows a hi ha hr hn
  refine zw _ _ _ _ (ai (by simp;omega) ⟨_,cO ha,_,abU _ (hs _ (List.mem_of_getElem? ha)),_,hr,_,hr,?_⟩)
  rw[aC (by omega)]
  exact hn
def GH (n:List (List Key)):Prop:=n.length≤1099511627776∧ ∀s∈n,s.length≤1099511627776
def ab3 (l:List (List (List Key))):Prop:=l.length≤1099511627776∧ ∀n∈l,GH n
def Rj (t:Tree):Prop:=t.lows.length≤1099511627776∧ab3 t.nodes
theorem ab4 (n:List (List Key)) (h:GH n):aa C Du [gx n] (gx n) []:=(Pp _ _ ⟨_,aar n h.1 h.2,rfl,rfl⟩).run
theorem aas (l:List (List (List Key))) (hl:l.length≤1099511627776) (hs: ∀n∈l,GH n):aa C jO [uI l] (uI l) []:=by
 refine(Oe _ _ ?_).run
 simp only[List.length_map]
 refine ai (by simp;omega) ?_
 simp only[gC,Aa,Int.toNat_natCast]
 refine Ae (e:=aI) (z:=[TC.sub 1 []]) l (fun i rows=>ah C jO ak 4 0 (pG (l.map aI) i rows) _) (fun a=>rfl) ?_ ?_
 ·exact zz _ _ _ _ (an (by simp) (Jj _ _ _ _ _ ⟨rfl,by first|rfl|trivial⟩))
 ·intro i rows a hi ha hr hn
  refine zz _ _ _ _ (ai (by simp;omega) ⟨_,cO ha,_,ab4 _ (hs _ (List.mem_of_getElem? ha)),_,hr,_,hr,?_⟩)
  rw[aC (by omega)]
  exact hn
theorem toTree (t:Tree) (h:Rj t):aa C Dj [c6 t] (c6 t) []:=(Px _ _ _ ⟨_,ab1 _ h.1,_,aas _ h.2.1 h.2.2,rfl,rfl⟩).run
theorem aat (l:List (List Key)) (hl:l.length≤1099511627776) (hs: ∀s∈l,s.length≤1099511627776):aa C jR [Gv l,Gv l] (vB true) []:=by
 refine(Ol _ _ _ ?_).run
 refine an (by simp) ?_
 refine aV l (fun i=>ah C jR ak 4 0 (pI (l.map bX) (l.map bX) i) _) ?_ ?_
 ·exact zC _ _ _ _ (an (by simp) (Js _ _ _ _ _ ⟨rfl,by first|rfl|trivial⟩))
 ·intro i a hi ha _ _ hn
  refine zC _ _ _ _ (ai (by simp;omega) ⟨_,cO ha,_,cO ha,_,abV _ (hs _ (List.mem_of_getElem? ha)),an (by simp) ?_⟩)
  rw[aC (by omega)]
  exact hn
theorem ab5 (n:List (List Key)) (h:GH n):aa C Dv [gx n,gx n] (vB true) []:=(PL _ _ _ ⟨_,aat n h.1 h.2,by simp⟩).run
theorem aau (l:List (List (List Key))) (hl:l.length≤1099511627776) (hs: ∀n∈l,GH n):aa C jP [uI l,uI l] (vB true) []:=by
 refine(Ot _ _ _ ?_).run
 refine an (by simp) ?_
 refine aV l (fun i=>ah C jP ak 4 0 (pK (l.map aI) (l.map aI) i) _) ?_ ?_
 ·exact zF _ _ _ _ (an (by simp) (Jv _ _ _ _ _ ⟨rfl,by first|rfl|trivial⟩))
 ·intro i a hi ha _ _ hn
  refine zF _ _ _ _ (ai (by simp;omega) ⟨_,cO ha,_,cO ha,_,ab5 _ (hs _ (List.mem_of_getElem? ha)),an (by simp) ?_⟩)
  rw[aC (by omega)]
  exact hn
theorem ab6 (t:Tree) (h:Rj t):aa C Dk [c6 t,c6 t] (vB true) []:=(PX _ _ _ _ _ ⟨_,ab2 _ h.1,an rfl ⟨_,aau _ h.2.1 h.2.2,by simp⟩⟩).run
structure T8 (p:Pool):Prop where
 t:Rj p.t
 ages:p.ages.length≤1099511627776
 cells:p.cells.length≤1099511627776
 vols:p.vols.length≤1099511627776
theorem Si (p:Pool) (h:T8 p):aa C qV [gW p] (gW p) []:=(Pv _ _ _ _ _ _ _ ⟨_,_,toTree p.t h.t,_,abW _ h.ages,_,aap _ h.cells,_,abZ _ h.vols,rfl,rfl⟩).run
theorem Sj (p:Pool) (h:T8 p):aa C qW [gW p,gW p] (vB true) []:=(P8 _ _ _ _ _ _ _ _ _ _ _ _ _ ⟨_,ab6 p.t h.t,an rfl ⟨_,abX _ h.ages,an rfl ⟨_,aaq _ h.cells,an rfl ⟨_,ab0 _ h.vols,an rfl (by simp)⟩⟩⟩⟩).run
theorem ab7 (l:List (Int)) (left:Int) (h0:0≤left∧left≤1048576) (hl:l.length≤140737488355328):aa C Dp [lg l,vI left] (vI (mY left l.length)) []:=by
 refine(Pg _ _ _ ?_).run
 simp only[List.length_map,gC]
 rw[eB (by omega)]
 unfold mY
 simp only[eD,bq]
 by_cases h:left<(l.length:Int)
 ·rw[if_pos (by omega),if_pos h];exact⟨rfl,by first|rfl|trivial⟩
 ·rw[if_neg (by omega),if_neg h];exact⟨rfl,by first|rfl|trivial⟩
theorem ab8 (l:List (Key)) (left:Int) (h0:0≤left∧left≤1048576) (hl:l.length≤140737488355328):aa C Dw [cH l,vI left] (vI (mY left l.length)) []:=by
 refine(PV _ _ _ ?_).run
 simp only[List.length_map,gC]
 rw[eB (by omega)]
 unfold mY
 simp only[eD,bq]
 by_cases h:left<(l.length:Int)
 ·rw[if_pos (by omega),if_pos h];exact⟨rfl,by first|rfl|trivial⟩
 ·rw[if_neg (by omega),if_neg h];exact⟨rfl,by first|rfl|trivial⟩
theorem ab9 (l:List (Age)) (left:Int) (h0:0≤left∧left≤1048576) (hl:l.length≤140737488355328):aa C Di [fE l,vI left] (vI (mY left l.length)) []:=by
 refine(Pw _ _ _ ?_).run
 simp only[List.length_map,gC]
 rw[eB (by omega)]
 unfold mY
 simp only[eD,bq]
 by_cases h:left<(l.length:Int)
 ·rw[if_pos (by omega),if_pos h];exact⟨rfl,by first|rfl|trivial⟩
 ·rw[if_neg (by omega),if_neg h];exact⟨rfl,by first|rfl|trivial⟩
theorem aav (l:List (Cell)) (left:Int) (h0:0≤left∧left≤1048576) (hl:l.length≤140737488355328):aa C Ak [iz l,vI left] (vI (mY left l.length)) []:=by
 refine(Oc _ _ _ ?_).run
 simp only[List.length_map,gC]
 rw[eB (by omega)]
 unfold mY
 simp only[eD,bq]
 by_cases h:left<(l.length:Int)
 ·rw[if_pos (by omega),if_pos h];exact⟨rfl,by first|rfl|trivial⟩
 ·rw[if_neg (by omega),if_neg h];exact⟨rfl,by first|rfl|trivial⟩
theorem aaw (l:List (List Key)) (left:Int) (h0:0≤left∧left≤1048576) (hl:l.length≤140737488355328) (hs: ∀s∈l,s.length≤140737488355328):aa C gn [Gv l,vI left] (vI (mY left (l.length+tot bH l))) []:=by
 refine(NZ _ _ _ ?_).run
 simp only[List.length_map,gC]
 rw[eB (by omega)]
 simp only[eD,bq]
 by_cases h:left<(l.length:Int)
 ·rw[if_pos (by omega)]
  refine⟨?_,by first|rfl|trivial⟩
  unfold mY
  rw[if_pos (by omega)]
 ·rw[if_neg (by omega)]
  have key: ∀cur:Int,0≤cur∧cur≤1048576→mY cur (tot bH (l.drop 0))=mY left (l.length+tot bH l)→ah C gn au 4 0 (mK (l.map bX) cur ((0:Nat):Int)) (fun x st=>av C gn au x st fun r fs=>r=vI (mY left (l.length+tot bH l))∧fs=[]):=by
   refine aV l (fun i=> ∀cur:Int,0≤cur∧cur≤1048576→mY cur (tot bH (l.drop i))=mY left (l.length+tot bH l)→ah C gn au 4 0 (mK (l.map bX) cur i) _) ?_ ?_
   ·intro cur hc he
    refine zk _ _ _ _ (an (by simp) (I6 _ _ _ _ _ ⟨?_,by first|rfl|trivial⟩))
    rw[←he,List.drop_length]
    unfold mY tot
    rw[if_neg (by omega)]
    simp
   ·intro i a hi ha hd _ hn cur hc he
    rw[hd] at he
    simp only[tot] at he
    refine zk _ _ _ _ (ai (by simp;omega) ⟨_,cO ha,_,ab8 a cur hc (hs a (List.mem_of_getElem? ha)),?_⟩)
    by_cases hw:cur<(bH a:Int)
    ·refine ai (by simp[mY,bH] at hw ⊢;omega) (I5 _ ⟨?_,by first|rfl|trivial⟩)
     rw[←he]
     unfold mY
     rw[if_pos (by omega)]
    ·have hl2:mY cur (bH a)=cur-bH a:=if_neg hw
     refine an (by simp[mY,bH] at hw ⊢;omega) ?_
     rw[aC (by omega)]
     have:=hn (cur-bH a) (by omega) (by rw[←he];unfold mY;split<;>split<;>omega)
     rw[←hl2] at this
     exact this
  refine key (left-l.length) (by omega) ?_
  simp only[List.drop_zero]
  unfold mY
  split<;>split<;>omega
theorem Vm (n:List (List Key)) (left:Int) (h0:0≤left∧left≤1048576) (hl:n.length≤140737488355328) (hs: ∀s∈n,s.length≤140737488355328):aa C Dt [gx n,vI left] (vI (mY left (aH n))) []:=by
 refine(P2 _ _ _ ⟨_,aaw n left h0 hl hs,?_⟩).run
 show az _ _ _
 unfold aH
 simp only[eD,bq]
 split
 ·refine⟨?_,by first|rfl|trivial⟩
  unfold mY at*
  split<;>simp_all<;>omega
 ·simp
theorem aax (l:List (List (List Key))) (left:Int) (h0:0≤left∧left≤1048576) (hl:l.length≤140737488355328) (hs: ∀n∈l,n.length≤140737488355328∧ ∀s∈n,s.length≤140737488355328):aa C gm [uI l,vI left] (vI (mY left (l.length+tot aH l))) []:=by
 refine(N3 _ _ _ ?_).run
 simp only[List.length_map,gC]
 rw[eB (by omega)]
 simp only[eD,bq]
 by_cases h:left<(l.length:Int)
 ·rw[if_pos (by omega)]
  refine⟨?_,by first|rfl|trivial⟩
  unfold mY
  rw[if_pos (by omega)]
 ·rw[if_neg (by omega)]
  have key: ∀cur:Int,0≤cur∧cur≤1048576→mY cur (tot aH (l.drop 0))=mY left (l.length+tot aH l)→ah C gm au 4 0 (mM (l.map aI) cur ((0:Nat):Int)) (fun x st=>av C gm au x st fun r fs=>r=vI (mY left (l.length+tot aH l))∧fs=[]):=by
   refine aV l (fun i=> ∀cur:Int,0≤cur∧cur≤1048576→mY cur (tot aH (l.drop i))=mY left (l.length+tot aH l)→ah C gm au 4 0 (mM (l.map aI) cur i) _) ?_ ?_
   ·intro cur hc he
    refine zn _ _ _ _ (an (by simp) (I9 _ _ _ _ _ ⟨?_,by first|rfl|trivial⟩))
    rw[←he,List.drop_length]
    unfold mY tot
    rw[if_neg (by omega)]
    simp
   ·intro i a hi ha hd _ hn cur hc he
    rw[hd] at he
    simp only[tot] at he
    refine zn _ _ _ _ (ai (by simp;omega) ⟨_,cO ha,_,Vm a cur hc (hs a (List.mem_of_getElem? ha)).1 (hs a (List.mem_of_getElem? ha)).2,?_⟩)
    by_cases hw:cur<(aH a:Int)
    ·refine ai (by simp[mY,aH] at hw ⊢;omega) (I8 _ ⟨?_,by first|rfl|trivial⟩)
     rw[←he]
     unfold mY
     rw[if_pos (by omega)]
    ·have hl2:mY cur (aH a)=cur-aH a:=if_neg hw
     refine an (by simp[mY,aH] at hw ⊢;omega) ?_
     rw[aC (by omega)]
     have:=hn (cur-aH a) (by omega) (by rw[←he];unfold mY;split<;>split<;>omega)
     rw[←hl2] at this
     exact this
  refine key (left-l.length) (by omega) ?_
  simp only[List.drop_zero]
  unfold mY
  split<;>split<;>omega
theorem Mt {a:Int} {n m:Nat} (h: ¬mY a n<0) (h0:0≤a):mY (mY a n) m=mY a (n+m):=by unfold mY at*;split<;>split<;>split<;>simp_all<;>omega
theorem Sk {a:Int} {n:Nat} (h: ¬mY a n<0) (h0:0≤a∧a≤1048576):0≤mY a n∧mY a n≤1048576:=by unfold mY at*;split<;>simp_all<;>omega
theorem Mu {a:Int} {n m:Nat} (h:mY a n<0) (h0:0≤a):mY a (n+m)= -1:=by unfold mY at*;split<;>simp_all<;>omega
structure Y7 (t:Tree):Prop where
 lows:t.lows.length≤140737488355328
 nodes:t.nodes.length≤140737488355328
 node: ∀n∈t.nodes,n.length≤140737488355328∧ ∀s∈n,s.length≤140737488355328
theorem Vn (t:Tree) (left:Int) (h0:0≤left∧left≤1048576) (h:Y7 t):aa C Dh [c6 t,vI left] (vI (mY left (cw t))) []:=by
 refine(O9 _ _ _ _ ⟨_,ab7 _ left h0 h.lows,?_⟩).run
 unfold cw rC
 refine p7 (fun hb=> ?_) fun hb=>⟨_,aax _ _ (Sk (by simpa using hb) h0) h.nodes h.node,?_⟩
 ·rw[Mu (by simpa using hb) h0.1];exact⟨rfl,by first|rfl|trivial⟩
 ·have hb: ¬mY left t.lows.length<0:=by simpa using hb
  rw[Mt hb h0.1]
  refine p7 (fun hc=> ?_) fun hc=>⟨rfl,by first|rfl|trivial⟩
  refine⟨?_,by first|rfl|trivial⟩
  have hc:mY left (t.lows.length+(t.nodes.length+tot aH t.nodes))<0:=by simpa using hc
  unfold mY at*
  split<;>simp_all<;>omega
theorem WW (s:ByteArray) (a z:Int) (f:Bool) (left:Int) (h0:0≤left∧left≤1048576) (hl:s.size≤140737488355328):aa C Fh [.ag [iS s,iI a,iI z,iB f],vI left] (vI (mY left s.size)) []:=by
 refine(Sz _ _ _ _ _ _ ?_).run
 simp only[H6,gC]
 rw[eB (by omega)]
 unfold mY
 simp only[eD,bq]
 by_cases h:left<(s.size:Int)
 ·rw[if_pos (by omega),if_pos h];exact⟨rfl,by first|rfl|trivial⟩
 ·rw[if_neg (by omega),if_neg h];exact⟨rfl,by first|rfl|trivial⟩
theorem acd (l:List (Vol)) (left:Int) (h0:0≤left∧left≤1048576) (hl:l.length≤140737488355328) (hs: ∀v∈l,v.name.size≤140737488355328):aa C ia [yw l,vI left] (vI (mY left (l.length+tot qU l))) []:=by
 refine(P9 _ _ _ ?_).run
 simp only[List.length_map,gC]
 rw[eB (by omega)]
 simp only[eD,bq]
 by_cases h:left<(l.length:Int)
 ·rw[if_pos (by omega)]
  refine⟨?_,by first|rfl|trivial⟩
  unfold mY
  rw[if_pos (by omega)]
 ·rw[if_neg (by omega)]
  have key: ∀cur:Int,0≤cur∧cur≤1048576→mY cur (tot qU (l.drop 0))=mY left (l.length+tot qU l)→ah C ia au 4 0 (nE (l.map dD) cur ((0:Nat):Int)) (fun x st=>av C ia au x st fun r fs=>r=vI (mY left (l.length+tot qU l))∧fs=[]):=by
   refine aV l (fun i=> ∀cur:Int,0≤cur∧cur≤1048576→mY cur (tot qU (l.drop i))=mY left (l.length+tot qU l)→ah C ia au 4 0 (nE (l.map dD) cur i) _) ?_ ?_
   ·intro cur hc he
    refine Ci _ _ _ _ (an (by simp) (LG _ _ _ _ _ ⟨?_,by first|rfl|trivial⟩))
    rw[←he,List.drop_length]
    unfold mY tot
    rw[if_neg (by omega)]
    simp
   ·intro i a hi ha hd _ hn cur hc he
    rw[hd] at he
    simp only[tot] at he
    refine Ci _ _ _ _ (ai (by simp;omega) ⟨_,_,_,_,cO ha,_,WW _ _ _ _ cur hc (hs a (List.mem_of_getElem? ha)),?_⟩)
    by_cases hw:cur<(qU a:Int)
    ·refine ai (by simp[mY,qU] at hw ⊢;omega) (LF _ ⟨?_,by first|rfl|trivial⟩)
     rw[←he]
     unfold mY
     rw[if_pos (by omega)]
    ·have hl2:mY cur (qU a)=cur-qU a:=if_neg hw
     refine an (by simp[mY,qU] at hw ⊢;omega) ?_
     rw[aC (by omega)]
     have:=hn (cur-qU a) (by omega) (by rw[←he];unfold mY;split<;>split<;>omega)
     rw[←hl2] at this
     exact this
  refine key (left-l.length) (by omega) ?_
  simp only[List.drop_zero]
  unfold mY
  split<;>split<;>omega
structure Wd (p:Pool):Prop where
 t:Y7 p.t
 ages:p.ages.length≤140737488355328
 cells:p.cells.length≤140737488355328
 vols:p.vols.length≤140737488355328
 vol: ∀v∈p.vols,v.name.size≤140737488355328
 siz: ∀v∈p.vols,v.size≤9223372036854775807
theorem Vo (p:Pool) (left:Int) (h0:0≤left∧left≤1048576) (h:Wd p):aa C Dg [gW p,vI left] (vI (mY left (cY p))) []:=by
 refine(P7 _ _ _ _ _ _ _ _ ⟨_,Vn p.t left h0 h.t,?_⟩).run
 unfold cY H9
 refine p7 (fun hb=> ?_) fun hb=>⟨_,ab9 _ _ (Sk (by simpa using hb) h0) h.ages,?_⟩
 ·rw[Nat.add_assoc,Nat.add_assoc,Mu (by simpa using hb) h0.1];exact⟨rfl,by first|rfl|trivial⟩
 rw[Mt (by simpa using hb) h0.1]
 refine p7 (fun hb=> ?_) fun hb=>⟨_,aav _ _ (Sk (by simpa using hb) h0) h.cells,?_⟩
 ·rw[Nat.add_assoc,Mu (by simpa using hb) h0.1];exact⟨rfl,by first|rfl|trivial⟩
 rw[Mt (by simpa using hb) h0.1]
 refine p7 (fun hb=> ?_) fun hb=>⟨_,acd _ _ (Sk (by simpa using hb) h0) h.vols h.vol,?_⟩
 ·rw[Mu (by simpa using hb) h0.1];exact⟨rfl,by first|rfl|trivial⟩
 rw[Mt (by simpa using hb) h0.1]
 refine p7 (fun hc=> ?_) fun hc=>⟨rfl,by first|rfl|trivial⟩
 refine⟨?_,by first|rfl|trivial⟩
 have hc:mY left (cw p.t+p.ages.length+p.cells.length+(p.vols.length+tot qU p.vols))<0:=by simpa using hc
 unfold mY at*
 split<;>simp_all<;>omega
theorem uQ (a b c:Int):aa C dm [vI a,vI b,vI c] (vB (jV a b c)) []:=by
 refine(Qd _ _ _ _ ?_).run
 simp only[gz,bq,jV]
 split<;>simp_all<;>omega
theorem Dx (a b c:Int):aa C fe [vI a,vI b,vI c] (vB (jV a b c)) []:=by
 refine(Uj _ _ _ _ ?_).run
 simp only[gz,bq,jV]
 split<;>simp_all<;>omega
@[simp] theorem sQ (a b c:Int) (q:Bool):aa C dm [vI a,vI b,vI c] (vB q) []↔q=jV a b c:=rD (uQ a b c)
@[simp] theorem Dy (a b c:Int) (q:Bool):aa C fe [vI a,vI b,vI c] (vB q) []↔q=jV a b c:=rD (Dx a b c)
theorem Nz (b a k c g:Int):aa C uN [.ag [iI b,iI a,iI k,iI c,iI g]] (vB (gX ⟨b,a,k,c,g⟩)) []:=by
 refine(SI _ _ _ _ _ _ ?_).run
 simp only[sQ,exists_eq_left,gX,aD,bI,bq]
 cases jV b 0 15<;>cases jV a 1 60<;>cases jV k 0 2<;>by_cases h:k=1<;>by_cases h1:c=0<;>by_cases h2:g=0<;>cases jV c 0 23<;>simp_all
theorem NA (b a k c g:Int):aa C uM [.ag [iI b,iI a,iI k,iI c,iI g]] (vB (gX ⟨b,a,k,c,g⟩)) []:=by
 refine(Su _ _ _ _ _ _ ?_).run
 simp only[Dy,exists_eq_left,gX,aD,bI,bq]
 cases jV b 0 15<;>cases jV a 1 60<;>cases jV k 0 2<;>by_cases h:k=1<;>by_cases h1:c=0<;>by_cases h2:g=0<;>cases jV c 0 23<;>simp_all
@[simp] theorem GI (b a k c g:Int) (q:Bool):aa C uN [.ag [iI b,iI a,iI k,iI c,iI g]] (vB q) []↔q=gX ⟨b,a,k,c,g⟩:=rD (Nz b a k c g)
@[simp] theorem GJ (b a k c g:Int) (q:Bool):aa C uM [.ag [iI b,iI a,iI k,iI c,iI g]] (vB q) []↔q=gX ⟨b,a,k,c,g⟩:=rD (NA b a k c g)
@[simp] theorem Dz (b a k c g b' a' k' c' g':Int) (q:Bool):aa C ug [.ag [iI b,iI a,iI k,iI c,iI g],.ag [iI b',iI a',iI k',iI c',iI g']] (vB q) []↔q=dR ⟨b,a,k,c,g⟩ ⟨b',a',k',c',g'⟩:=rD (by
  refine(Oa _ _ _ _ _ _ _ _ _ _ _ ?_).run
  simp only[eD,aD,bq,dR]
  by_cases h1:b<b'<;>by_cases h2:b=b'<;>simp_all)
@[simp] theorem DA (b a k c g b' a' k' c' g':Int) (q:Bool):aa C ue [.ag [iI b,iI a,iI k,iI c,iI g],.ag [iI b',iI a',iI k',iI c',iI g']] (vB q) []↔q=dR ⟨b,a,k,c,g⟩ ⟨b',a',k',c',g'⟩:=rD (by
  refine(NX _ _ _ _ _ _ _ _ _ _ _ ?_).run
  simp only[eD,aD,bI,bq,dR]
  by_cases h2:b=b'<;>simp_all)
@[simp] theorem J8 (b a k c g b' a' k' c' g':Int) (q:Bool):aa C qb [.ag [iI b,iI a,iI k,iI c,iI g],.ag [iI b',iI a',iI k',iI c',iI g']] (vB q) []↔q=mH ⟨b,a,k,c,g⟩ ⟨b',a',k',c',g'⟩:=rD (by
  refine(LC _ _ _ _ _ _ _ _ _ _ _ ?_).run
  simp only[eD,aD,bI,bq,mH]
  by_cases h2:b=b'<;>simp_all)
@[simp] theorem J9 (b a k c g b' a' k' c' g':Int) (q:Bool):aa C qa [.ag [iI b,iI a,iI k,iI c,iI g],.ag [iI b',iI a',iI k',iI c',iI g']] (vB q) []↔q=mH ⟨b,a,k,c,g⟩ ⟨b',a',k',c',g'⟩:=rD (by
  refine(Le _ _ _ _ _ _ _ _ _ _ _ ?_).run
  simp only[eD,aD,bI,bq,mH]
  by_cases h2:b=b'<;>simp_all)
theorem ni (l:List Key) (x:Key) (hl:l.length≤1073741824):aa C bO [cH l,q7 x] (cH (fH l x)) []:=by
 refine(PF _ _ _ _ _ _ _ ?_).run
 have key: ∀(put:Bool) (acc:List Key),acc.length+(l.drop 0).length≤l.length+(if put then 1 else 0)→acc++fG x put (l.drop 0)=fH l x→ah C bO au 4 0 (fC (l.map bu) put ((0:Nat):Int) x.b x.a x.k x.c x.g (acc.map bu)) (fun u st=>av C bO au u st fun r fs=>r=cH (fH l x)∧fs=[]):=by
  refine aV l (fun i=> ∀(put:Bool) (acc:List Key),acc.length+(l.drop i).length≤l.length+(if put then 1 else 0)→acc++fG x put (l.drop i)=fH l x→ah C bO au 4 0 (fC (l.map bu) put i x.b x.a x.k x.c x.g (acc.map bu)) _) ?_ ?_
  ·intro put acc hb he
   refine BZ _ _ _ _ _ _ _ _ _ _ (an (by simp) (K8 _ _ _ _ _ _ _ _ _ _ _ ?_))
   simp only[vW,c8,mZ,Bool.true_and,bI,cj,List.length_map]
   have hb2:acc.length≤l.length+1:=by simp at hb;split at hb<;>omega
   rw[cW (by omega)]
   rw[List.drop_length] at he
   cases put<;>simp[fG] at he ⊢ <;>rw[←he]<;>simp
  ·intro i a hi ha hd _ hn put acc hb he
   rw[hd] at hb he
   simp only[List.length_cons] at hb
   have hb':acc.length+(List.drop (i+1) l).length+1≤l.length+1:=by split at hb<;>omega
   refine BZ _ _ _ _ _ _ _ _ _ _ (ai (by simp;omega) ?_)
   simp only[jg,aE,ha,Option.some.injEq,exists_eq_left',DA,J9,exists_eq_left,bI,c8,vW,mZ,Bool.true_and,cj,List.length_map,List.length_append,List.length_singleton]
   simp (disch:=omega) only[cW,aC,k9]
   simp only[fG] at he
   cases put<;>cases hk:dR a x<;>cases hs:mH a x<;>simp only[k9,mF]<;>simp[hk,hs] at he hb<;>exact hn _ _ (by simp at hb ⊢;omega) (by simpa using he)
 exact key false [] (by simp) rfl
@[simp] theorem ON (l:List Key) (hl:l.length≤1073741824) (b a k c g:Int) (q:RR):aa C bO [.c (.sub 5 (l.map bu)),.ag [iI b,iI a,iI k,iI c,iI g]] (.c (.sub 5 q)) []↔q=(fH l ⟨b,a,k,c,g⟩).map bu:=TK (ni l ⟨b,a,k,c,g⟩ hl)
theorem qj (l:List Key) (x:Key) (hl:l.length≤1073741824):aa C c7 [cH l,q7 x] (cH (fH l x)) []:=by
 refine(Qs _ _ _ _ _ _ _ ?_).run
 have key: ∀(put:Bool) (acc:List Key),acc.length+(l.drop 0).length≤l.length+(if put then 1 else 0)→acc++fG x put (l.drop 0)=fH l x→ah C c7 au 4 0 (fD put (l.map bu) ((0:Nat):Int) x.b x.a x.k x.c x.g (acc.map bu)) (fun u st=>av C c7 au u st fun r fs=>r=cH (fH l x)∧fs=[]):=by
  refine aV l (fun i=> ∀(put:Bool) (acc:List Key),acc.length+(l.drop i).length≤l.length+(if put then 1 else 0)→acc++fG x put (l.drop i)=fH l x→ah C c7 au 4 0 (fD put (l.map bu) i x.b x.a x.k x.c x.g (acc.map bu)) _) ?_ ?_
  ·intro put acc hb he
   refine Cx _ _ _ _ _ _ _ _ _ _ (an (by simp) (L7 _ _ _ _ _ _ _ _ _ _ _ _ ?_))
   simp only[vW,c8,mZ,Bool.true_and,bI,cj,List.length_map]
   have hb2:acc.length≤l.length+1:=by simp at hb;split at hb<;>omega
   rw[cW (by omega)]
   rw[List.drop_length] at he
   cases put<;>simp[fG] at he ⊢ <;>rw[←he]<;>simp
  ·intro i a hi ha hd _ hn put acc hb he
   rw[hd] at hb he
   simp only[List.length_cons] at hb
   have hb':acc.length+(List.drop (i+1) l).length+1≤l.length+1:=by split at hb<;>omega
   refine Cx _ _ _ _ _ _ _ _ _ _ (ai (by simp;omega) ?_)
   simp only[jg,aE,ha,Option.some.injEq,exists_eq_left',Dz,J8,exists_eq_left,bI,c8,vW,mZ,Bool.true_and,cj,List.length_map,List.length_append,List.length_singleton]
   simp (disch:=omega) only[cW,aC,k9]
   simp only[fG] at he
   cases put<;>cases hk:dR a x<;>cases hs:mH a x<;>simp only[k9,mF]<;>simp[hk,hs] at he hb<;>exact hn _ _ (by simp at hb ⊢;omega) (by simpa using he)
 exact key false [] (by simp) rfl
@[simp] theorem OO (l:List Key) (hl:l.length≤1073741824) (b a k c g:Int) (q:RR):aa C c7 [.c (.sub 5 (l.map bu)),.ag [iI b,iI a,iI k,iI c,iI g]] (.c (.sub 5 q)) []↔q=(fH l ⟨b,a,k,c,g⟩).map bu:=TK (qj l ⟨b,a,k,c,g⟩ hl)
theorem Fq (old new:List Key) (hl:old.length+new.length≤1073741824):aa C ez [cH old,cH new] (cH (cF old new)) []:=by
 refine(Jr _ _ _ ?_).run
 rw[kK,cW (by simp;omega)]
 refine ai rfl ?_
 have key: ∀(acc:List Key),acc.length+(new.drop 0).length≤old.length+new.length→cF acc (new.drop 0)=cF old new→ah C ez ak 4 0 (ku (new.map bu) ((0:Nat):Int) (acc.map bu)) (fun u st=>av C ez ak u st fun r fs=>r=(cH (cF old new))∧fs=[]):=by
  refine aV new (fun i=> ∀(acc:List Key),acc.length+(new.drop i).length≤old.length+new.length→cF acc (new.drop i)=cF old new→ah C ez ak 4 0 (ku (new.map bu) i (acc.map bu)) (fun u st=>av C ez ak u st fun r fs=>r=(cH (cF old new))∧fs=[])) ?_ ?_
  ·intro acc h0 h1
   refine vv _ _ _ _ (an (by simp) (FU _ _ _ _ _ ?_))
   rw[List.drop_length] at h1
   rw[←h1]
   exact⟨rfl,by first|rfl|trivial⟩
  ·intro i a hi ha hd ht hn acc h0 h1
   refine vv _ _ _ _ (ai (by simp;omega) ?_)
   rw[hd] at h0 h1
   simp only[List.length_cons] at h0
   simp only[jg,ON acc (by omega),aE,ha,Option.some.injEq,exists_eq_left',exists_eq_left,bI,dQ,fF,c8,dS,cV,dU,dV,fJ,cj,natAdd,List.length_map,List.length_append,List.length_singleton,Bool.true_and,Bool.and_true]
   rw[aC (by omega)]
   have h2:=oS acc a
   exact hn _ (by omega) (by rw[←h1];rfl)
 exact key old (by simp) rfl
theorem Ii (old new:List Key) (hl:old.length+new.length≤1073741824) (q:RR):aa C ez [cH old,cH new] (.c (.sub 5 q)) []↔q=(cF old new).map bu:=TK (Fq old new hl)
theorem x8 (l:List Key) (hl:l.length≤1073741824):aa C dz [cH l] (cH (nZ l)) []:=by
 refine(Ug _ _ ?_).run
 have key: ∀(acc:List Key),acc.length+(l.drop 0).length≤l.length→acc++nZ (l.drop 0)=nZ l→ah C dz ak 4 0 (nQ (l.map bu) ((0:Nat):Int) (acc.map bu)) (fun u st=>av C dz ak u st fun r fs=>r=(cH (nZ l))∧fs=[]):=by
  refine aV l (fun i=> ∀(acc:List Key),acc.length+(l.drop i).length≤l.length→acc++nZ (l.drop i)=nZ l→ah C dz ak 4 0 (nQ (l.map bu) i (acc.map bu)) (fun u st=>av C dz ak u st fun r fs=>r=(cH (nZ l))∧fs=[])) ?_ ?_
  ·intro acc h0 h1
   refine ET _ _ _ _ (an (by simp) (Pm _ _ _ _ _ ?_))
   rw[List.drop_length] at h1
   simp[nZ] at h1
   simp[nZ,h1]
  ·intro i a hi ha hd ht hn acc h0 h1
   refine ET _ _ _ _ (ai (by simp;omega) ?_)
   rw[hd] at h0 h1
   simp only[List.length_cons] at h0
   simp only[jg,vW,mZ,aD,bq,aE,ha,Option.some.injEq,exists_eq_left',exists_eq_left,bI,dQ,fF,c8,dS,cV,dU,dV,fJ,cj,natAdd,List.length_map,List.length_append,List.length_singleton,Bool.true_and,Bool.and_true]
   simp (disch:=omega) only[cW,aC,k9]
   by_cases hk:a.k=0
   ·rw[if_pos hk]
    exact hn _ (by omega) (by rw[←h1];simp[nZ,hk])
   ·rw[if_neg hk]
    exact hn (acc++[a]) (by simp only[List.length_append,List.length_singleton];omega) (by rw[←h1];simp[nZ,hk])
 exact key [] (by simp) rfl
theorem wm (n:List (List Key)) (hb:n.length≤1073741824) (hl:tot bH n≤1073741824):aa C aQ [gx n] (cH (aJ n)) []:=by
 refine(Lt _ _ ?_).run
 have key: ∀(acc:List Key),acc.length+tot bH (n.drop 0)≤tot bH n→(n.drop 0).foldl cF acc=uv n→ah C aQ ak 4 0 (lW ((0:Nat):Int) (n.map bX) (acc.map bu)) (fun u st=>av C aQ ak u st fun r fs=>r=(cH (aJ n))∧fs=[]):=by
  refine aV n (fun i=> ∀(acc:List Key),acc.length+tot bH (n.drop i)≤tot bH n→(n.drop i).foldl cF acc=uv n→ah C aQ ak 4 0 (lW i (n.map bX) (acc.map bu)) (fun u st=>av C aQ ak u st fun r fs=>r=(cH (aJ n))∧fs=[])) ?_ ?_
  ·intro acc h0 h1
   refine xF _ _ _ _ (an (by simp) (Hs _ _ _ _ _ ?_))
   rw[List.drop_length] at h0 h1
   simp only[List.foldl_nil] at h1
   refine⟨_,x8 acc (by omega),?_⟩
   rw[h1]
   exact⟨rfl,by first|rfl|trivial⟩
  ·intro i a hi ha hd ht hn acc h0 h1
   refine xF _ _ _ _ (ai (by simp;omega) ?_)
   rw[hd] at h0 h1
   simp only[tot,bH] at h0
   simp only[sg,Ii acc a (by omega),aE,ha,Option.some.injEq,exists_eq_left',exists_eq_left,bI,dQ,fF,c8,dS,cV,dU,dV,fJ,cj,natAdd,List.length_map,List.length_append,List.length_singleton,Bool.true_and,Bool.and_true]
   rw[aC (by omega)]
   have h2:=sw a acc
   exact hn _ (by omega) (by rw[←h1];rfl)
 exact key [] (by simp) rfl
theorem eO (n:List (List Key)) (hb:n.length≤1073741824) (hl:tot bH n≤1073741824) (q:RR):aa C aQ [.ag [.sub 1 (n.map bX)]] (.c (.sub 5 q)) []↔q=(aJ n).map bu:=TK (wm n hb hl)
theorem jq (t:Tree) (hl:cw t≤1073741824):aa C dn [c6 t] (cH (aB t)) []:=by
 refine(Ln _ _ _ ?_).run
 have key: ∀(acc:List Key),acc.length+tot aH (t.nodes.drop 0)≤tot aH t.nodes→acc++(t.nodes.drop 0).flatMap aJ=aB t→ah C dn ak 4 0 (lT ((0:Nat):Int) (t.lows.map bC) (t.nodes.map aI) (acc.map bu)) (fun u st=>av C dn ak u st fun r fs=>r=(cH (aB t))∧fs=[]):=by
  refine aV t.nodes (fun i=> ∀(acc:List Key),acc.length+tot aH (t.nodes.drop i)≤tot aH t.nodes→acc++(t.nodes.drop i).flatMap aJ=aB t→ah C dn ak 4 0 (lT i (t.lows.map bC) (t.nodes.map aI) (acc.map bu)) (fun u st=>av C dn ak u st fun r fs=>r=(cH (aB t))∧fs=[])) ?_ ?_
  ·intro acc h0 h1
   refine xB _ _ _ _ _ (an (by simp) (Hi _ _ _ _ _ _ ?_))
   rw[List.drop_length] at h1
   simp at h1
   simp[h1]
  ·intro i a hi ha hd ht hn acc h0 h1
   refine xB _ _ _ _ _ (ai (by have:=hi;unfold cw rC at hl;simp;omega) ?_)
   have hz:a.length+tot bH a≤tot aH t.nodes:=lu (w:=aH) ha
   rw[hd] at h0 h1
   simp only[tot,aH] at h0
   unfold cw rC at hl
   have h2:=cU a
   simp only[V8,rB,eO a (by omega) (by omega),kK,aE,ha,Option.some.injEq,exists_eq_left',exists_eq_left,bI,dQ,fF,c8,dS,cV,dU,dV,fJ,cj,natAdd,List.length_map,List.length_append,List.length_singleton,Bool.true_and,Bool.and_true]
   rw[cW (by omega),aC (by omega)]
   refine ai rfl ?_
   rw[←List.map_append]
   exact hn _ (by simp;omega) (by rw[←h1];simp)
 exact key [] (by simp) rfl
theorem Ka (t:Tree) (b:Int) (hl:cw t≤1073741824):aa C gR [c6 t,vI b] (cH (fQ t b)) []:=by
 refine(Qv _ _ _ _ ?_).run
 refine⟨_,jq t hl,?_⟩
 have key: ∀(acc:List Key),acc.length+((aB t).drop 0).length≤(aB t).length→acc++((aB t).drop 0).filter (fun k=>decide (k.b=b))=fQ t b→ah C gR au 4 0 (kU b ((0:Nat):Int) (acc.map bu) ((aB t).map bu)) (fun u st=>av C gR au u st fun r fs=>r=(cH (fQ t b))∧fs=[]):=by
  refine aV (aB t) (fun i=> ∀(acc:List Key),acc.length+((aB t).drop i).length≤(aB t).length→acc++((aB t).drop i).filter (fun k=>decide (k.b=b))=fQ t b→ah C gR au 4 0 (kU b i (acc.map bu) ((aB t).map bu)) (fun u st=>av C gR au u st fun r fs=>r=(cH (fQ t b))∧fs=[])) ?_ ?_
  ·intro acc h0 h1
   refine Cz _ _ _ _ _ (an (by simp) (Ma _ _ _ _ _ _ ?_))
   rw[List.drop_length] at h1
   simp at h1
   simp[h1]
  ·intro i a hi ha hd ht hn acc h0 h1
   refine Cz _ _ _ _ _ (ai (by simp;omega) ?_)
   rw[hd] at h0 h1
   simp only[List.length_cons] at h0
   have hz:=eI t
   simp only[jg,vW,mZ,aD,bq,aE,ha,Option.some.injEq,exists_eq_left',exists_eq_left,bI,dQ,fF,c8,dS,cV,dU,dV,fJ,cj,natAdd,List.length_map,List.length_append,List.length_singleton,Bool.true_and,Bool.and_true]
   simp (disch:=omega) only[cW,aC,k9]
   by_cases hk:a.b=b
   ·rw[if_pos hk]
    exact hn (acc++[a]) (by simp only[List.length_append,List.length_singleton];omega) (by rw[←h1];simp[hk])
   ·rw[if_neg hk]
    exact hn _ (by omega) (by rw[←h1];simp[hk])
 exact key [] (by simp) rfl
theorem oe (l:List Key) (hl:l.length≤2147483648):aa C nP [cH l] (cH l) []:=by
 refine(KP _ _ ?_).run
 rw[kK,cW (by simp;omega)]
 exact⟨rfl,by first|rfl|trivial⟩
theorem Fs (old new:List Key) (hl:old.length+new.length≤1073741824):aa C eA [cH old,cH new] (cH (cF old new)) []:=by
 refine(I3 _ _ _ ?_).run
 refine⟨_,oe old (by omega),?_⟩
 have key: ∀(acc:List Key),acc.length+(new.drop 0).length≤old.length+new.length→cF acc (new.drop 0)=cF old new→ah C eA ak 4 0 (kr (new.map bu) ((0:Nat):Int) (acc.map bu)) (fun u st=>av C eA ak u st fun r fs=>r=(cH (cF old new))∧fs=[]):=by
  refine aV new (fun i=> ∀(acc:List Key),acc.length+(new.drop i).length≤old.length+new.length→cF acc (new.drop i)=cF old new→ah C eA ak 4 0 (kr (new.map bu) i (acc.map bu)) (fun u st=>av C eA ak u st fun r fs=>r=(cH (cF old new))∧fs=[])) ?_ ?_
  ·intro acc h0 h1
   refine vo _ _ _ _ (an (by simp) (FM _ _ _ _ _ _ ?_))
   rw[List.drop_length] at h1
   rw[←h1]
   exact⟨rfl,by first|rfl|trivial⟩
  ·intro i a hi ha hd ht hn acc h0 h1
   refine vo _ _ _ _ (ai (by simp;omega) ?_)
   rw[hd] at h0 h1
   simp only[List.length_cons] at h0
   simp only[jg,OO acc (by omega),aE,ha,Option.some.injEq,exists_eq_left',exists_eq_left,bI,dQ,fF,c8,dS,cV,dU,dV,fJ,cj,natAdd,List.length_map,List.length_append,List.length_singleton,Bool.true_and,Bool.and_true]
   rw[aC (by omega)]
   have h2:=oS acc a
   exact hn _ (by omega) (by rw[←h1];rfl)
 exact key old (by simp) rfl
theorem Ij (old new:List Key) (hl:old.length+new.length≤1073741824) (q:RR):aa C eA [cH old,cH new] (.c (.sub 5 q)) []↔q=(cF old new).map bu:=TK (Fs old new hl)
theorem EI (l:List Key) (hl:l.length≤1073741824):aa C jo [cH l] (cH (nZ l)) []:=by
 refine(Uk _ _ ?_).run
 have key: ∀(acc:List Key),acc.length+(l.drop 0).length≤l.length→acc++nZ (l.drop 0)=nZ l→ah C jo ak 4 0 (nR (l.map bu) ((0:Nat):Int) (acc.map bu)) (fun u st=>av C jo ak u st fun r fs=>r=(cH (nZ l))∧fs=[]):=by
  refine aV l (fun i=> ∀(acc:List Key),acc.length+(l.drop i).length≤l.length→acc++nZ (l.drop i)=nZ l→ah C jo ak 4 0 (nR (l.map bu) i (acc.map bu)) (fun u st=>av C jo ak u st fun r fs=>r=(cH (nZ l))∧fs=[])) ?_ ?_
  ·intro acc h0 h1
   refine EU _ _ _ _ (an (by simp) (PR _ _ _ _ _ _ ?_))
   rw[List.drop_length] at h1
   simp[nZ] at h1
   simp[nZ,h1]
  ·intro i a hi ha hd ht hn acc h0 h1
   refine EU _ _ _ _ (ai (by simp;omega) ?_)
   rw[hd] at h0 h1
   simp only[List.length_cons] at h0
   simp only[jg,vW,mZ,aD,bq,aE,ha,Option.some.injEq,exists_eq_left',exists_eq_left,bI,dQ,fF,c8,dS,cV,dU,dV,fJ,cj,natAdd,List.length_map,List.length_append,List.length_singleton,Bool.true_and,Bool.and_true]
   simp (disch:=omega) only[cW,aC,k9]
   by_cases hk:a.k=0
   ·rw[if_pos hk]
    exact hn _ (by omega) (by rw[←h1];simp[nZ,hk])
   ·rw[if_neg hk]
    exact hn (acc++[a]) (by simp only[List.length_append,List.length_singleton];omega) (by rw[←h1];simp[nZ,hk])
 exact key [] (by simp) rfl
theorem GK (n:List (List Key)) (hb:n.length≤1073741824) (hl:tot bH n≤1073741824):aa C cz [gx n] (cH (aJ n)) []:=by
 refine(Lu _ _ ?_).run
 have key: ∀(acc:List Key),acc.length+tot bH (n.drop 0)≤tot bH n→(n.drop 0).foldl cF acc=uv n→ah C cz ak 4 0 (lX (n.map bX) ((0:Nat):Int) (acc.map bu)) (fun u st=>av C cz ak u st fun r fs=>r=(cH (aJ n))∧fs=[]):=by
  refine aV n (fun i=> ∀(acc:List Key),acc.length+tot bH (n.drop i)≤tot bH n→(n.drop i).foldl cF acc=uv n→ah C cz ak 4 0 (lX (n.map bX) i (acc.map bu)) (fun u st=>av C cz ak u st fun r fs=>r=(cH (aJ n))∧fs=[])) ?_ ?_
  ·intro acc h0 h1
   refine xG _ _ _ _ (an (by simp) (Ht _ _ _ _ _ _ ?_))
   rw[List.drop_length] at h0 h1
   simp only[List.foldl_nil] at h1
   refine⟨_,EI acc (by omega),?_⟩
   rw[h1]
   exact⟨rfl,by first|rfl|trivial⟩
  ·intro i a hi ha hd ht hn acc h0 h1
   refine xG _ _ _ _ (ai (by simp;omega) ?_)
   rw[hd] at h0 h1
   simp only[tot,bH] at h0
   simp only[sg,Ij acc a (by omega),aE,ha,Option.some.injEq,exists_eq_left',exists_eq_left,bI,dQ,fF,c8,dS,cV,dU,dV,fJ,cj,natAdd,List.length_map,List.length_append,List.length_singleton,Bool.true_and,Bool.and_true]
   rw[aC (by omega)]
   have h2:=sw a acc
   exact hn _ (by omega) (by rw[←h1];rfl)
 exact key [] (by simp) rfl
theorem jy (n:List (List Key)) (hb:n.length≤1073741824) (hl:tot bH n≤1073741824) (q:RR):aa C cz [.ag [.sub 1 (n.map bX)]] (.c (.sub 5 q)) []↔q=(aJ n).map bu:=TK (GK n hb hl)
theorem jr (t:Tree) (hl:cw t≤1073741824):aa C dP [c6 t] (cH (aB t)) []:=by
 refine(KZ _ _ _ ?_).run
 have key: ∀(acc:List Key),acc.length+tot aH (t.nodes.drop 0)≤tot aH t.nodes→acc++(t.nodes.drop 0).flatMap aJ=aB t→ah C dP ak 4 0 (lO (t.nodes.map aI) ((0:Nat):Int) (acc.map bu)) (fun u st=>av C dP ak u st fun r fs=>r=(cH (aB t))∧fs=[]):=by
  refine aV t.nodes (fun i=> ∀(acc:List Key),acc.length+tot aH (t.nodes.drop i)≤tot aH t.nodes→acc++(t.nodes.drop i).flatMap aJ=aB t→ah C dP ak 4 0 (lO (t.nodes.map aI) i (acc.map bu)) (fun u st=>av C dP ak u st fun r fs=>r=(cH (aB t))∧fs=[])) ?_ ?_
  ·intro acc h0 h1
   refine xo _ _ _ _ (an (by simp) (G0 _ _ _ _ _ _ ?_))
   rw[List.drop_length] at h1
   simp at h1
   simp[h1]
  ·intro i a hi ha hd ht hn acc h0 h1
   refine xo _ _ _ _ (ai (by have:=hi;unfold cw rC at hl;simp;omega) ?_)
   have hz:a.length+tot bH a≤tot aH t.nodes:=lu (w:=aH) ha
   rw[hd] at h0 h1
   simp only[tot,aH] at h0
   unfold cw rC at hl
   have h2:=cU a
   simp only[V8,rB,jy a (by omega) (by omega),kK,aE,ha,Option.some.injEq,exists_eq_left',exists_eq_left,bI,dQ,fF,c8,dS,cV,dU,dV,fJ,cj,natAdd,List.length_map,List.length_append,List.length_singleton,Bool.true_and,Bool.and_true]
   rw[cW (by omega),aC (by omega)]
   refine ai rfl ?_
   rw[←List.map_append]
   exact hn _ (by simp;omega) (by rw[←h1];simp)
 exact key [] (by simp) rfl
theorem Kb (t:Tree) (b:Int) (hl:cw t≤1073741824):aa C gT [c6 t,vI b] (cH (fQ t b)) []:=by
 refine(PU _ _ _ _ ?_).run
 refine⟨_,jr t hl,?_⟩
 have key: ∀(acc:List Key),acc.length+((aB t).drop 0).length≤(aB t).length→acc++((aB t).drop 0).filter (fun k=>decide (k.b=b))=fQ t b→ah C gT ak 4 0 (kO b ((aB t).map bu) ((0:Nat):Int) (acc.map bu)) (fun u st=>av C gT ak u st fun r fs=>r=(cH (fQ t b))∧fs=[]):=by
  refine aV (aB t) (fun i=> ∀(acc:List Key),acc.length+((aB t).drop i).length≤(aB t).length→acc++((aB t).drop i).filter (fun k=>decide (k.b=b))=fQ t b→ah C gT ak 4 0 (kO b ((aB t).map bu) i (acc.map bu)) (fun u st=>av C gT ak u st fun r fs=>r=(cH (fQ t b))∧fs=[])) ?_ ?_
  ·intro acc h0 h1
   refine B7 _ _ _ _ _ (an (by simp) (Li _ _ _ _ _ _ _ ?_))
   rw[List.drop_length] at h1
   simp at h1
   simp[h1]
  ·intro i a hi ha hd ht hn acc h0 h1
   refine B7 _ _ _ _ _ (ai (by simp;omega) ?_)
   rw[hd] at h0 h1
   simp only[List.length_cons] at h0
   have hz:=eI t
   simp only[jg,vW,mZ,aD,bq,aE,ha,Option.some.injEq,exists_eq_left',exists_eq_left,bI,dQ,fF,c8,dS,cV,dU,dV,fJ,cj,natAdd,List.length_map,List.length_append,List.length_singleton,Bool.true_and,Bool.and_true]
   simp (disch:=omega) only[cW,aC,k9]
   by_cases hk:a.b=b
   ·rw[if_pos hk]
    exact hn (acc++[a]) (by simp only[List.length_append,List.length_singleton];omega) (by rw[←h1];simp[hk])
   ·rw[if_neg hk]
    exact hn _ (by omega) (by rw[←h1];simp[hk])
 exact key [] (by simp) rfl
theorem rI (l:List Age) (id:Int) (hl:l.length≤1073741824):aa C dJ [fE l,vI id] (vI (ee l id)) []:=by
 refine(Sv _ _ _ ?_).run
 have key:ff (fun a:Age=>decide (a.id=id)) (l.drop 0) ((0:Nat):Int)=ff (fun a:Age=>decide (a.id=id)) l 0→ah C dJ aj 4 0 (oT (l.map bV) id ((0:Nat):Int)) (fun u st=>av C dJ aj u st fun r fs=>r=vI (ee l id)∧fs=[]):=by
  refine aV l (fun i=>ff (fun a:Age=>decide (a.id=id)) (l.drop i) (i:Int)=ff (fun a:Age=>decide (a.id=id)) l 0→ah C dJ aj 4 0 (oT (l.map bV) id i) _) ?_ ?_
  ·intro h0
   refine DR _ _ _ _ (an (by simp) (NV _ _ _ _ _ ?_))
   rw[List.drop_length] at h0
   simp only[ff] at h0
   change _=vI (ff (fun a:Age=>decide (a.id=id)) l 0)∧_
   rw[←h0]
   exact⟨rfl,by first|rfl|trivial⟩
  ·intro i a hi ha hd htk hn h0
   refine DR _ _ _ _ (ai (by simp;omega) ?_)
   rw[hd] at h0
   simp only[ff] at h0
   simp only[rA,aD,bq,aE,ha,Option.some.injEq,exists_eq_left',exists_eq_left,bI,dQ,fF,c8,dS,cV,dU,dV,fJ,cj,natAdd,List.length_map,List.length_append,List.length_singleton,Bool.true_and,Bool.and_true]
   rw[aC (by omega)]
   split at h0
   ·rename_i hp
    have hp:=of_decide_eq_true hp
    first|rw[if_pos hp]|rw[if_pos hp.symm]
    refine NU _ _ ?_
    rw[h0]
    exact⟨rfl,by first|rfl|trivial⟩
   ·rename_i hp
    have hp: ¬_:=fun h=>hp (decide_eq_true h)
    first|rw[if_neg hp]|rw[if_neg (fun h=>hp h.symm)]
    exact hn h0
 exact key rfl
@[simp] theorem NC (a b id:Int) (q:Bool):aa C uf [.ag [iI a,iI b],.bx [iI id]] (vB q) []↔q=decide (a=id):=rD (by
  refine(On _ _ _ _ ?_).run
  simp)
theorem OP (l:List Age) (id:Int) (hl:l.length≤1073741824):aa C cv [fE l,.fn uf [[iI id]]] (vI (ee l id)) []:=by
 refine(qd _ _ _ ?_).run
 have key:ff (fun a:Age=>decide (a.id=id)) (l.drop 0) ((0:Nat):Int)=ff (fun a:Age=>decide (a.id=id)) l 0→ah C cv aj 4 0 (cX (l.map bV) ((0:Nat):Int) id) (fun u st=>av C cv aj u st fun r fs=>r=vI (ee l id)∧fs=[]):=by
  refine aV l (fun i=>ff (fun a:Age=>decide (a.id=id)) (l.drop i) (i:Int)=ff (fun a:Age=>decide (a.id=id)) l 0→ah C cv aj 4 0 (cX (l.map bV) i id) _) ?_ ?_
  ·intro h0
   refine jx _ _ _ _ (an (by simp) (pO _ _ _ _ _ _ ?_))
   rw[List.drop_length] at h0
   simp only[ff] at h0
   change _=vI (ff (fun a:Age=>decide (a.id=id)) l 0)∧_
   rw[←h0]
   exact⟨rfl,by first|rfl|trivial⟩
  ·intro i a hi ha hd htk hn h0
   refine jx _ _ _ _ (ai (by simp;omega) ?_)
   rw[hd] at h0
   simp only[ff] at h0
   simp only[rA,aD,NC,bq,aE,ha,Option.some.injEq,exists_eq_left',exists_eq_left,bI,dQ,fF,c8,dS,cV,dU,dV,fJ,cj,natAdd,List.length_map,List.length_append,List.length_singleton,Bool.true_and,Bool.and_true]
   rw[aC (by omega)]
   split at h0
   ·rename_i hp
    have hp:=of_decide_eq_true hp
    first|rw[if_pos hp]|rw[if_pos hp.symm]
    refine pN _ _ _ ?_
    rw[h0]
    exact⟨rfl,by first|rfl|trivial⟩
   ·rename_i hp
    have hp: ¬_:=fun h=>hp (decide_eq_true h)
    first|rw[if_neg hp]|rw[if_neg (fun h=>hp h.symm)]
    exact hn h0
 exact key rfl
theorem uR (l:List Age) (id:Int) (hl:l.length≤1073741824):aa C iG [fE l,vI id] (vI (ee l id)) []:=(SB _ _ _ ⟨_,OP l id hl,rfl,by first|rfl|trivial⟩).run
theorem As (l:List Age) (id:Int) (hl:l.length≤1073741824) (q:Int):aa C dJ [fE l,vI id] (vI q) []↔q=ee l id:=YP (rI l id hl)
theorem At (l:List Age) (id:Int) (hl:l.length≤1073741824) (q:Int):aa C iG [fE l,vI id] (vI q) []↔q=ee l id:=YP (uR l id hl)
theorem AA (l:List Age) (id:Int) (hl:l.length≤1073741824):aa C ig [fE l,vI id] (lg (pathOf l id)) []:=by
 refine(Qu _ _ _ ⟨_,rI l id hl,?_⟩).run
 have key: ∀(n:Nat) (id':Int) (acc:List Int),acc.length+n=l.length+1→acc++C8 l n id'=pathOf l id→ah C ig qO 4 0 (qD (l.map bV) (ee l id') (acc.map bC)) (fun u st=>av C ig qO u st fun r fs=>r=lg (pathOf l id)∧fs=[]):=by
  intro n
  induction n with
  |zero=>
   intro id' acc h0 h1
   simp only[C8,List.append_nil] at h1
   refine tI _ _ _ _ (p7 (fun _=> ?_) fun _=>Cy _ _ _ _ (by rw[h1];exact⟨rfl,by first|rfl|trivial⟩))
   exact an (by simp;omega) (L8 _ _ _ _ _ (by rw[h1];exact⟨rfl,by first|rfl|trivial⟩))
  |succ n ih=>
   intro id' acc h0 h1
   simp only[C8] at h1
   by_cases h:ee l id'<0
   ·rw[if_pos h,List.append_nil] at h1
    exact tI _ _ _ _ (an (by simp;omega) (Cy _ _ _ _ (by rw[h1];exact⟨rfl,by first|rfl|trivial⟩)))
   ·rw[if_neg h] at h1
    obtain⟨a,ha,he⟩:=Ee l id' h
    rw[ha] at h1
    refine tI _ _ _ _ (ai (by simp;omega) (ai (by simp;omega) ?_))
    simp only[rA,ha,Option.some.injEq,exists_eq_left',R4,Bool.true_and,cj,List.length_map]
    rw[cW (by omega)]
    refine ai rfl ⟨_,rI l a.fr hl,?_⟩
    rw[Mo]
    exact ih a.fr (acc++[a.id]) (by simp;omega) (by rw[←h1,he];simp)
 exact key (l.length+1) id [] (by simp) rfl
theorem AB (l:List Age) (id:Int) (hl:l.length≤1073741824):aa C ij [fE l,vI id] (lg (pathOf l id)) []:=by
 refine(PT _ _ _ ?_).run
 have key: ∀(n:Nat) (id':Int) (acc:List Int) (k:Nat),k+n=l.length+1→acc.length=k→acc++C8 l n id'=pathOf l id→ah C ij ak 4 0 (qu (l.map bV) id' k (acc.map bC)) (fun u st=>av C ij ak u st fun r fs=>r=lg (pathOf l id)∧fs=[]):=by
  intro n
  induction n with
  |zero=>
   intro id' acc k h0 h2 h1
   simp only[C8,List.append_nil] at h1
   refine B6 _ _ _ _ _ (an ?_ (Lh _ _ _ _ _ _ _ (by rw[h1];exact⟨rfl,by first|rfl|trivial⟩)))
   rw[aC (by simp;omega)];simp;omega
  |succ n ih=>
   intro id' acc k h0 h2 h1
   simp only[C8] at h1
   refine B6 _ _ _ _ _ (ai (by rw[aC (by simp;omega)];simp;omega) ⟨_,uR l id' hl,?_⟩)
   by_cases h:ee l id'<0
   ·rw[if_pos h,List.append_nil] at h1
    exact ai (by simp;omega) (Lg _ _ _ _ _ _ _ _ (by rw[h1];exact⟨rfl,by first|rfl|trivial⟩))
   ·rw[if_neg h] at h1
    obtain⟨a,ha,he⟩:=Ee l id' h
    rw[ha] at h1
    refine an (by simp;omega) ?_
    simp only[rA,ha,Option.some.injEq,exists_eq_left',R4,Bool.true_and,cj,List.length_map]
    rw[cW (by omega)]
    refine ai rfl ?_
    rw[Mo,aC (by omega)]
    exact ih a.fr (acc++[id']) (k+1) (by omega) (by simp;omega) (by rw[←h1];simp)
 exact key (l.length+1) id [] 0 (by simp) rfl rfl
theorem ND (l:List Int) (n:Int) (hl:l.length≤1073741824):aa C iH [lg l,vI n] (vB (En l n)) []:=by
 refine(Sw _ _ _ ?_).run
 have key:(l.drop 0).any (fun a:Int=>decide (a=n))=l.any (fun a:Int=>decide (a=n))→ah C iH aj 4 0 (oU (l.map bC) n ((0:Nat):Int)) (fun u st=>av C iH aj u st fun r fs=>r=vB (En l n)∧fs=[]):=by
  refine aV l (fun i=>(l.drop i).any (fun a:Int=>decide (a=n))=l.any (fun a:Int=>decide (a=n))→ah C iH aj 4 0 (oU (l.map bC) n i) _) ?_ ?_
  ·intro h0
   refine DS _ _ _ _ (an (by simp) (N2 _ _ _ _ _ ?_))
   rw[List.drop_length] at h0
   simp only[List.any_nil] at h0
   show _=vB (En l n)∧_
   first|unfold En|unfold ng|skip
   rw[←h0]
   exact⟨rfl,by first|rfl|trivial⟩
  ·intro i a hi ha hd htk hn h0
   refine DS _ _ _ _ (ai (by simp;omega) ?_)
   rw[hd] at h0
   simp only[List.any_cons] at h0
   simp only[rz,aD,bq,aE,ha,Option.some.injEq,exists_eq_left',exists_eq_left,bI,dQ,fF,c8,dS,cV,dU,dV,fJ,cj,natAdd,List.length_map,List.length_append,List.length_singleton,Bool.true_and,Bool.and_true]
   rw[aC (by omega)]
   split
   ·rename_i hp
    refine N1 _ ?_
    have e:l.any (fun a:Int=>decide (a=n))=true:=by rw[←h0];simp[hp]
    first|unfold En|unfold ng|skip
    rw[e]
    exact⟨rfl,by first|rfl|trivial⟩
   ·rename_i hp
    exact hn (by simpa [hp] using h0)
 exact key rfl
theorem EJ (p:Pool) (id:Int) (hl:p.vols.length≤1073741824):aa C jZ [gW p,vI id] (vB (ng p.vols id)) []:=by
 refine(Um _ _ _ _ _ _ _ _ ?_).run
 have key:(p.vols.drop 0).any (fun v:Vol=>decide (v.age=id))=p.vols.any (fun v:Vol=>decide (v.age=id))→ah C jZ aj 4 0 (qc id ((0:Nat):Int) (p.t.lows.map bC) (p.t.nodes.map aI) (p.ages.map bV) (p.cells.map bU) (p.vols.map dD) p.next) (fun u st=>av C jZ aj u st fun r fs=>r=vB (ng p.vols id)∧fs=[]):=by
  refine aV p.vols (fun i=>(p.vols.drop i).any (fun v:Vol=>decide (v.age=id))=p.vols.any (fun v:Vol=>decide (v.age=id))→ah C jZ aj 4 0 (qc id i (p.t.lows.map bC) (p.t.nodes.map aI) (p.ages.map bV) (p.cells.map bU) (p.vols.map dD) p.next) _) ?_ ?_
  ·intro h0
   refine EV _ _ _ _ _ _ _ _ _ (an (by simp) (Qm _ _ _ _ _ _ _ _ _ _ ?_))
   rw[List.drop_length] at h0
   simp only[List.any_nil] at h0
   show _=vB (ng p.vols id)∧_
   first|unfold En|unfold ng|skip
   rw[←h0]
   exact⟨rfl,by first|rfl|trivial⟩
  ·intro i a hi ha hd htk hn h0
   refine EV _ _ _ _ _ _ _ _ _ (ai (by simp;omega) ?_)
   rw[hd] at h0
   simp only[List.any_cons] at h0
   simp only[xV,aD,bq,aE,ha,Option.some.injEq,exists_eq_left',exists_eq_left,bI,dQ,fF,c8,dS,cV,dU,dV,fJ,cj,natAdd,List.length_map,List.length_append,List.length_singleton,Bool.true_and,Bool.and_true]
   rw[aC (by omega)]
   split
   ·rename_i hp
    refine Ql _ _ _ _ _ _ _ ?_
    have e:p.vols.any (fun v:Vol=>decide (v.age=id))=true:=by rw[←h0];simp[hp]
    first|unfold En|unfold ng|skip
    rw[e]
    exact⟨rfl,by first|rfl|trivial⟩
   ·rename_i hp
    exact hn (by simpa [hp] using h0)
 exact key rfl
theorem T9 (l:List Int) (n:Int) (hl:l.length≤1073741824):aa C dK [lg l,vI n] (vI (ff (fun a:Int=>decide (a=n)) l 0)) []:=by
 refine(FV _ _ _ ?_).run
 have key:ff (fun a:Int=>decide (a=n)) (l.drop 0) ((0:Nat):Int)=ff (fun a:Int=>decide (a=n)) l 0→ah C dK aj 4 0 (jj (l.map bC) n ((0:Nat):Int)) (fun u st=>av C dK aj u st fun r fs=>r=vI (ff (fun a:Int=>decide (a=n)) l 0)∧fs=[]):=by
  refine aV l (fun i=>ff (fun a:Int=>decide (a=n)) (l.drop i) (i:Int)=ff (fun a:Int=>decide (a=n)) l 0→ah C dK aj 4 0 (jj (l.map bC) n i) _) ?_ ?_
  ·intro h0
   refine sV _ _ _ _ (an (by simp) (DY _ _ _ _ _ _ ?_))
   rw[List.drop_length] at h0
   simp only[ff] at h0
   change _=vI (ff (fun a:Int=>decide (a=n)) l 0)∧_
   rw[←h0]
   exact⟨rfl,by first|rfl|trivial⟩
  ·intro i a hi ha hd htk hn h0
   refine sV _ _ _ _ (ai (by simp;omega) ?_)
   rw[hd] at h0
   simp only[ff] at h0
   simp only[rz,aD,bq,aE,ha,Option.some.injEq,exists_eq_left',exists_eq_left,bI,dQ,fF,c8,dS,cV,dU,dV,fJ,cj,natAdd,List.length_map,List.length_append,List.length_singleton,Bool.true_and,Bool.and_true]
   rw[aC (by omega)]
   split at h0
   ·rename_i hp
    have hp:=of_decide_eq_true hp
    first|rw[if_pos hp]|rw[if_pos hp.symm]
    refine DX _ _ ?_
    rw[h0]
    exact⟨rfl,by first|rfl|trivial⟩
   ·rename_i hp
    have hp: ¬_:=fun h=>hp (decide_eq_true h)
    first|rw[if_neg hp]|rw[if_neg (fun h=>hp h.symm)]
    exact hn h0
 exact key rfl
theorem Sl (l:List Int) (n:Int) (hl:l.length≤1073741824):aa C mA [lg l,vI n] (vB (En l n)) []:=by
 refine(CG _ _ _ ⟨_,T9 l n hl,?_⟩).run
 rw[gz,Gy _ _ _ (by omega)]
 exact⟨rfl,by first|rfl|trivial⟩
theorem AD (t:Tree) (b:Int) (path:List Int) (hl:cw t≤1073741824) (hp:path.length≤1073741824):aa C eU [c6 t,vI b,lg path] (Ox (near (fQ t b) path)) []:=by
 refine(Pu _ _ _ _ _ ?_).run
 refine⟨_,Ka t b hl,?_⟩
 have key: ∀(pr:Key×Bool),((fQ t b).drop 0).foldl (Gz path) pr=near (fQ t b) path→ah C eU bh 4 0 (ir (path.map bC) pr.2 ((0:Nat):Int) pr.1.b pr.1.a pr.1.k pr.1.c pr.1.g ((fQ t b).map bu)) (fun u st=>av C eU bh u st fun r fs=>r=(Ox (near (fQ t b) path))∧fs=[]):=by
  refine aV (fQ t b) (fun i=> ∀(pr:Key×Bool),((fQ t b).drop i).foldl (Gz path) pr=near (fQ t b) path→ah C eU bh 4 0 (ir (path.map bC) pr.2 i pr.1.b pr.1.a pr.1.k pr.1.c pr.1.g ((fQ t b).map bu)) (fun u st=>av C eU bh u st fun r fs=>r=(Ox (near (fQ t b) path))∧fs=[])) ?_ ?_
  ·intro pr h0
   refine BR _ _ _ _ _ _ _ _ _ _ (an (by simp) (KQ _ _ _ _ _ _ _ _ _ _ _ ?_))
   rw[List.drop_length] at h0
   simp only[List.foldl_nil] at h0
   rw[h0]
   exact⟨rfl,by first|rfl|trivial⟩
  ·intro i a hi ha hd ht hn pr h0
   have hk:=Nj t b
   have hz:=eI t
   refine BR _ _ _ _ _ _ _ _ _ _ (ai (by simp;omega) ?_)
   rw[hd] at h0
   simp only[List.foldl_cons] at h0
   obtain⟨bk,bf⟩:=pr
   have hh: ∀q,aa C iH [lg path,vI a.a] (vB q) []↔q=En path a.a:=fun q=>rD (ND path a.a hp)
   simp only[jg,hh,eD,bq,aE,ha,Option.some.injEq,exists_eq_left',exists_eq_left,bI,dQ,fF,c8,dS,cV,dU,dV,fJ,cj,natAdd,List.length_map,List.length_append,List.length_singleton,Bool.true_and,Bool.and_true]
   rw[aC (by omega)]
   have e:Gz path (bk,bf) a=if En path a.a&&(!bf||decide (bk.a<a.a)) then(a,true) else(bk,bf):=rfl
   rw[e] at h0
   cases h1:En path a.a<;>cases bf<;>by_cases h2:bk.a<a.a<;>simp[h1,h2] at h0 ⊢ <;>first|exact hn (a,true) h0|exact hn (bk,false) h0|exact hn (bk,true) h0
 exact key (eg,false) rfl
theorem AE (t:Tree) (b:Int) (path:List Int) (hl:cw t≤1073741824) (hp:path.length≤1073741824):aa C eX [c6 t,vI b,lg path] (Ox (near (fQ t b) path)) []:=by
 refine(P4 _ _ _ _ _ ?_).run
 refine⟨_,Kb t b hl,?_⟩
 have key: ∀(pr:Key×Bool),((fQ t b).drop 0).foldl (Gz path) pr=near (fQ t b) path→ah C eX ak 4 0 (iu (path.map bC) pr.2 ((fQ t b).map bu) ((0:Nat):Int) pr.1.b pr.1.a pr.1.k pr.1.c pr.1.g) (fun u st=>av C eX ak u st fun r fs=>r=(Ox (near (fQ t b) path))∧fs=[]):=by
  refine aV (fQ t b) (fun i=> ∀(pr:Key×Bool),((fQ t b).drop i).foldl (Gz path) pr=near (fQ t b) path→ah C eX ak 4 0 (iu (path.map bC) pr.2 ((fQ t b).map bu) i pr.1.b pr.1.a pr.1.k pr.1.c pr.1.g) (fun u st=>av C eX ak u st fun r fs=>r=(Ox (near (fQ t b) path))∧fs=[])) ?_ ?_
  ·intro pr h0
   refine Cg _ _ _ _ _ _ _ _ _ _ (an (by simp) (LB _ _ _ _ _ _ _ _ _ _ _ _ ?_))
   rw[List.drop_length] at h0
   simp only[List.foldl_nil] at h0
   rw[h0]
   exact⟨rfl,by first|rfl|trivial⟩
  ·intro i a hi ha hd ht hn pr h0
   have hk:=Nj t b
   have hz:=eI t
   refine Cg _ _ _ _ _ _ _ _ _ _ (ai (by simp;omega) ?_)
   rw[hd] at h0
   simp only[List.foldl_cons] at h0
   obtain⟨bk,bf⟩:=pr
   have hh: ∀q,aa C mA [lg path,vI a.a] (vB q) []↔q=En path a.a:=fun q=>rD (Sl path a.a hp)
   simp only[jg,hh,eD,bq,aE,ha,Option.some.injEq,exists_eq_left',exists_eq_left,bI,dQ,fF,c8,dS,cV,dU,dV,fJ,cj,natAdd,List.length_map,List.length_append,List.length_singleton,Bool.true_and,Bool.and_true]
   rw[aC (by omega)]
   have e:Gz path (bk,bf) a=if En path a.a&&(!bf||decide (bk.a<a.a)) then(a,true) else(bk,bf):=rfl
   rw[e] at h0
   cases h1:En path a.a<;>cases bf<;>by_cases h2:bk.a<a.a<;>simp[h1,h2] at h0 ⊢ <;>first|exact hn (a,true) h0|exact hn (bk,false) h0|exact hn (bk,true) h0
 exact key (eg,false) rfl
@[simp] theorem OQ (a:Int) (q:Bool):aa C Dl [vI a] (vB q) []↔q=Gw a:=rD ((Qe _ _ ⟨_,Dx _ _ _,rfl,by first|rfl|trivial⟩).run)
theorem Kd (l:List Cell) (i gen:Int) (hl:l.length≤1073741824):aa C sM [iz l,vI i,vI gen] (tIB (cellAt l i gen)) []:=by
 refine(PM _ _ _ _ ?_).run
 simp only[Dy,exists_eq_left,List.length_map,Int.ofNat_eq_natCast,bI,qh]
 rw[eB (by omega)]
 by_cases h:0≤i∧i<l.length
 ·obtain⟨a,ha⟩:=o6 h.1 h.2
  have e:jV i 0 ((l.length:Int)-1)=true:=decide_eq_true (by omega)
  simp only[e,k9,ha,Option.some.injEq,exists_eq_left',aD,bq,cellAt]
  cases h1:a.u<;>by_cases h2:a.g=gen<;>simp[h1,h2]
 ·have e:jV i 0 ((l.length:Int)-1)=false:=decide_eq_false (by omega)
  have hn:fP l i=none:=o7 h
  simp[e,cellAt,hn]
theorem OR (l:List Cell) (hl:l.length≤1073741824) (i gen:Int) (n:Int) (q:Bool):aa C sM [iz l,vI i,vI gen] (.tu [(0,[iI n]),(0,[iB q])]) []↔n=(cellAt l i gen).1∧q=(cellAt l i gen).2:=aa5 (Kd l i gen hl)
theorem Ft (l:List Cell) (hl:l.length≤1073741824):aa C ew [iz l] (vI (bQ l)) []:=by
 refine(Jp _ _ ?_).run
 have key: ∀(n:Nat),n+(l.drop 0).length≤l.length→n+bQ (l.drop 0)=bQ l→ah C ew ak 4 0 (iO (l.map bU) n ((0:Nat):Int)) (fun u st=>av C ew ak u st fun r fs=>r=(vI (bQ l))∧fs=[]):=by
  refine aV l (fun i=> ∀(n:Nat),n+(l.drop i).length≤l.length→n+bQ (l.drop i)=bQ l→ah C ew ak 4 0 (iO (l.map bU) n i) (fun u st=>av C ew ak u st fun r fs=>r=(vI (bQ l))∧fs=[])) ?_ ?_
  ·intro n h0 h1
   refine vt _ _ _ _ (an (by simp) (FR _ _ _ _ _ ?_))
   rw[List.drop_length] at h1
   simp[bQ] at h1
   simp[h1,bQ]
  ·intro i a hi ha hd ht hn n h0 h1
   refine vt _ _ _ _ (ai (by simp;omega) ?_)
   rw[hd] at h0 h1
   simp only[List.length_cons] at h0
   simp only[qh,aE,ha,Option.some.injEq,exists_eq_left',exists_eq_left,bI,dQ,fF,c8,dS,cV,dU,dV,fJ,cj,natAdd,List.length_map,List.length_append,List.length_singleton,Bool.true_and,Bool.and_true]
   rw[aC (by omega),aC (by omega)]
   cases hu:a.u
   ·exact hn n (by omega) (by rw[←h1];simp[bQ,hu])
   ·exact hn (n+1) (by omega) (by rw[←h1];simp[bQ,hu];omega)
 exact key 0 (by simp) (by simp)
theorem Ik (l:List Cell) (hl:l.length≤1073741824):aa C dF [iz l] (vB ((l.all iE&&decide (l.length=24)))) []:=by
 refine(Ou _ _ ?_).run
 have key:((l.drop 0).all iE&&decide (l.length=24))=(l.all iE&&decide (l.length=24))→ah C dF aj 4 0 (iQ (l.map bU) ((0:Nat):Int)) (fun u st=>av C dF aj u st fun r fs=>r=vB ((l.all iE&&decide (l.length=24)))∧fs=[]):=by
  refine aV l (fun i=>((l.drop i).all iE&&decide (l.length=24))=(l.all iE&&decide (l.length=24))→ah C dF aj 4 0 (iQ (l.map bU) i) (fun u st=>av C dF aj u st fun r fs=>r=vB ((l.all iE&&decide (l.length=24)))∧fs=[])) ?_ ?_
  ·intro h0
   refine zG _ _ _ (an (by simp) (Jx _ _ _ _ ?_))
   rw[List.drop_length] at h0
   simp only[List.all_nil,Bool.true_and] at h0
   rw[←h0]
   simp[aD]
   try omega
  ·intro i a hi ha hd htk hn h0
   have gO:iE a=false→(l.all iE&&decide (l.length=24))=false:=fun e=>by rw[←h0,hd];simp[e]
   have gN:iE a=true→ah C dF aj 4 0 (iQ (l.map bU) ((i:Int)+1)) (fun u st=>av C dF aj u st fun r fs=>r=vB ((l.all iE&&decide (l.length=24)))∧fs=[]):=fun e=>hn (by rw[←h0,hd];simp[e])
   refine zG _ _ _ (ai (by simp;omega) ?_)
   simp only[qh,Dy,OQ,aD,aE,ha,Option.some.injEq,exists_eq_left',exists_eq_left,bI,dQ,fF,c8,dS,cV,dU,dV,fJ,cj,natAdd,List.length_map,List.length_append,List.length_singleton,Bool.true_and,Bool.and_true]
   rw[aC (by omega)]
   cases h1:jV a.g 0 999<;>cases h2:Gw a.n<;>cases h3:a.u<;>by_cases h4:a.n=0<;>simp only[h1,h2,h3,h4,k9,mF,decide_true,decide_false,not_true_eq_false,not_false_eq_true,Bool.not_true,Bool.not_false]<;>first|exact gN (by unfold iE;rw[h1,h2,h3];simp[h4])|exact Jw _ (by rw[gO (by unfold iE;rw[h1,h2,h3];simp[h4])];exact⟨rfl,by first|rfl|trivial⟩)
 exact key rfl
theorem DB (l:List Cell) (hl:l.length≤1073741824) (q:Bool):aa C dF [iz l] (vB q) []↔q=e9 l:=rD (Ik l hl)
@[simp] theorem OS (a:Int) (q:Bool):aa C Dn [vI a] (vB q) []↔q=Gw a:=rD ((Pd _ _ ⟨_,uQ _ _ _,rfl,by first|rfl|trivial⟩).run)
theorem Ke (l:List Cell) (i gen:Int) (hl:l.length≤1073741824):aa C sN [iz l,vI i,vI gen] (tIB (cellAt l i gen)) []:=by
 refine(PN _ _ _ _ ?_).run
 simp only[sQ,exists_eq_left,List.length_map,Int.ofNat_eq_natCast,bI,qh]
 rw[eB (by omega)]
 by_cases h:0≤i∧i<l.length
 ·obtain⟨a,ha⟩:=o6 h.1 h.2
  have e:jV i 0 ((l.length:Int)-1)=true:=decide_eq_true (by omega)
  simp only[e,k9,ha,Option.some.injEq,exists_eq_left',aD,bq,cellAt]
  cases h1:a.u<;>by_cases h2:a.g=gen<;>simp[h1,h2]
 ·have e:jV i 0 ((l.length:Int)-1)=false:=decide_eq_false (by omega)
  have hn:fP l i=none:=o7 h
  simp[e,cellAt,hn]
theorem OT (l:List Cell) (hl:l.length≤1073741824) (i gen:Int) (n:Int) (q:Bool):aa C sN [iz l,vI i,vI gen] (.tu [(0,[iI n]),(0,[iB q])]) []↔n=(cellAt l i gen).1∧q=(cellAt l i gen).2:=aa5 (Ke l i gen hl)
theorem Fu (l:List Cell) (hl:l.length≤1073741824):aa C ey [iz l] (vI (bQ l)) []:=by
 refine(Jq _ _ ?_).run
 have key: ∀(n:Nat),n+(l.drop 0).length≤l.length→n+bQ (l.drop 0)=bQ l→ah C ey ak 4 0 (iP n (l.map bU) ((0:Nat):Int)) (fun u st=>av C ey ak u st fun r fs=>r=(vI (bQ l))∧fs=[]):=by
  refine aV l (fun i=> ∀(n:Nat),n+(l.drop i).length≤l.length→n+bQ (l.drop i)=bQ l→ah C ey ak 4 0 (iP n (l.map bU) i) (fun u st=>av C ey ak u st fun r fs=>r=(vI (bQ l))∧fs=[])) ?_ ?_
  ·intro n h0 h1
   refine vu _ _ _ _ (an (by simp) (FT _ _ _ _ _ _ ?_))
   rw[List.drop_length] at h1
   simp[bQ] at h1
   simp[h1,bQ]
  ·intro i a hi ha hd ht hn n h0 h1
   refine vu _ _ _ _ (ai (by simp;omega) ?_)
   rw[hd] at h0 h1
   simp only[List.length_cons] at h0
   simp only[qh,aE,ha,Option.some.injEq,exists_eq_left',exists_eq_left,bI,dQ,fF,c8,dS,cV,dU,dV,fJ,cj,natAdd,List.length_map,List.length_append,List.length_singleton,Bool.true_and,Bool.and_true]
   rw[aC (by omega),aC (by omega)]
   cases hu:a.u
   ·exact hn n (by omega) (by rw[←h1];simp[bQ,hu])
   ·exact hn (n+1) (by omega) (by rw[←h1];simp[bQ,hu];omega)
 exact key 0 (by simp) (by simp)
theorem Il (l:List Cell) (hl:l.length≤1073741824):aa C dG [iz l] (vB ((l.all iE&&decide (l.length=24)))) []:=by
 refine(Of _ _ ?_).run
 have key:((l.drop 0).all iE&&decide (l.length=24))=(l.all iE&&decide (l.length=24))→ah C dG aj 4 0 (iN (l.map bU) ((0:Nat):Int)) (fun u st=>av C dG aj u st fun r fs=>r=vB ((l.all iE&&decide (l.length=24)))∧fs=[]):=by
  refine aV l (fun i=>((l.drop i).all iE&&decide (l.length=24))=(l.all iE&&decide (l.length=24))→ah C dG aj 4 0 (iN (l.map bU) i) (fun u st=>av C dG aj u st fun r fs=>r=vB ((l.all iE&&decide (l.length=24)))∧fs=[])) ?_ ?_
  ·intro h0
   refine zA _ _ _ (an (by simp) (Jm _ _ _ _ _ ?_))
   rw[List.drop_length] at h0
   simp only[List.all_nil,Bool.true_and] at h0
   rw[←h0]
   simp[aD]
   try omega
  ·intro i a hi ha hd htk hn h0
   have gO:iE a=false→(l.all iE&&decide (l.length=24))=false:=fun e=>by rw[←h0,hd];simp[e]
   have gN:iE a=true→ah C dG aj 4 0 (iN (l.map bU) ((i:Int)+1)) (fun u st=>av C dG aj u st fun r fs=>r=vB ((l.all iE&&decide (l.length=24)))∧fs=[]):=fun e=>hn (by rw[←h0,hd];simp[e])
   refine zA _ _ _ (ai (by simp;omega) ?_)
   simp only[qh,sQ,OS,aD,aE,ha,Option.some.injEq,exists_eq_left',exists_eq_left,bI,dQ,fF,c8,dS,cV,dU,dV,fJ,cj,natAdd,List.length_map,List.length_append,List.length_singleton,Bool.true_and,Bool.and_true]
   rw[aC (by omega)]
   cases h1:jV a.g 0 999<;>cases h2:Gw a.n<;>cases h3:a.u<;>by_cases h4:a.n=0<;>simp only[h1,h2,h3,h4,k9,mF,decide_true,decide_false,not_true_eq_false,not_false_eq_true,Bool.not_true,Bool.not_false]<;>first|exact gN (by unfold iE;rw[h1,h2,h3];simp[h4])|exact Jl _ _ _ _ (by rw[gO (by unfold iE;rw[h1,h2,h3];simp[h4])];exact⟨rfl,by first|rfl|trivial⟩)
 exact key rfl
theorem DC (l:List Cell) (hl:l.length≤1073741824) (q:Bool):aa C dG [iz l] (vB q) []↔q=e9 l:=rD (Il l hl)
theorem Kf (s:ByteArray) (hl:s.size≤140737488355328):aa C eE [vS s] (vB ((cM s.size (eu s)&&jV s.size 1 6))) []:=by
 refine(Qg _ _ ?_).run
 have key:((List.range' 0 (s.size-0)).all (eu s)&&jV s.size 1 6)=(cM s.size (eu s)&&jV s.size 1 6)→ah C eE aj 4 0 (jE s ((0:Nat):Int)) (fun u st=>av C eE aj u st fun r fs=>r=vB ((cM s.size (eu s)&&jV s.size 1 6))∧fs=[]):=by
  refine oR (s.size) (fun i=>((List.range' i (s.size-i)).all (eu s)&&jV s.size 1 6)=(cM s.size (eu s)&&jV s.size 1 6)→ah C eE aj 4 0 (jE s i) (fun u st=>av C eE aj u st fun r fs=>r=vB ((cM s.size (eu s)&&jV s.size 1 6))∧fs=[])) ?_ ?_
  ·intro h0
   refine Cn _ _ _ (an (by simp) (LR _ _ _ _ ?_))
   rw[Nat.sub_self] at h0
   simp only[List.range'_zero,List.all_nil,Bool.true_and] at h0
   rw[←h0]
   simp only[Dy,exists_eq_left,H6,Int.ofNat_eq_natCast]
   simp
  ·intro i hi hn h0
   rw[ki hi,List.all_cons] at h0
   have gO:(eu s) i=false→(cM s.size (eu s)&&jV s.size 1 6)=false:=fun e=>by rw[←h0,e];rfl
   have gN:(eu s) i=true→ah C eE aj 4 0 (jE s ((i:Int)+1)) (fun u st=>av C eE aj u st fun r fs=>r=vB ((cM s.size (eu s)&&jV s.size 1 6))∧fs=[]):=fun e=>hn (by rw[←h0,e];rfl)
   refine Cn _ _ _ (ai (by simp;omega) ?_)
   obtain⟨n,hb,hn0,hn1⟩:=Q9 hi
   have hw:tJ .i64 n=n:=TL (by omega)
   simp only[hb,Option.some.injEq,exists_eq_left',Dy,exists_eq_left,hw,bI]
   rw[aC (by omega)]
   have e:eu s i=(jV n 97 122||jV n 48 57):=by unfold eu;rw[hb];rfl
   rw[e] at gO gN
   cases h1:jV n 97 122<;>cases h2:jV n 48 57<;>simp only[k9,mF]<;>first|exact gN (by rw[h1,h2];rfl)|exact LQ _ (by rw[gO (by rw[h1,h2];rfl)];exact⟨rfl,by first|rfl|trivial⟩)
 exact key rfl
theorem OU (s:ByteArray) (hl:s.size≤140737488355328) (q:Bool):aa C eE [vS s] (vB q) []↔q=C9 s:=rD (Kf s hl)
theorem aa8 (l:List Age): ∀(id:Int),id=0→cZ l id=[]:=fun id h=>if_pos h
theorem td (l:List Age) (id:Int) (hl:l.length≤1073741824):aa C eH [fE l,vI id] (lg (cZ l id)) []:=by
 refine(P1 _ _ _ ?_).run
 have key: ∀(acc:List Int),acc.length+(l.drop 0).length≤l.length→acc++cZ (l.drop 0) id=cZ l id→ah C eH ak 4 0 (jD (l.map bV) id ((0:Nat):Int) (acc.map bC)) (fun u st=>av C eH ak u st fun r fs=>r=(lg (cZ l id))∧fs=[]):=by
  refine aV l (fun i=> ∀(acc:List Int),acc.length+(l.drop i).length≤l.length→acc++cZ (l.drop i) id=cZ l id→ah C eH ak 4 0 (jD (l.map bV) id i (acc.map bC)) (fun u st=>av C eH ak u st fun r fs=>r=(lg (cZ l id))∧fs=[])) ?_ ?_
  ·intro acc h0 h1
   refine Cd _ _ _ _ _ (an (by simp) (Lw _ _ _ _ _ _ ?_))
   rw[List.drop_length] at h1
   simp[cZ] at h1
   simp[cZ,h1]
  ·intro i a hi ha hd ht hn acc h0 h1
   refine Cd _ _ _ _ _ (ai (by simp;omega) ?_)
   rw[hd] at h0 h1
   simp only[List.length_cons] at h0
   simp only[rA,Mo,R4,aD,bq,aE,ha,Option.some.injEq,exists_eq_left',exists_eq_left,bI,dQ,fF,c8,dS,cV,dU,dV,fJ,cj,natAdd,List.length_map,List.length_append,List.length_singleton,Bool.true_and,Bool.and_true]
   simp (disch:=omega) only[cW,aC,k9]
   by_cases hz:id=0
   ·rw[aa8 _ _ hz] at h1
    have e: ∀(A B:Prop),(if a.fr=id then(if id=0 then A else B) else A)=if a.fr=id then A else A:=fun A B=>by rw[if_pos hz]
    rw[e,ite_self]
    exact hn _ (by omega) (by rw[aa8 _ _ hz,←h1])
   by_cases hk:a.fr=id
   ·rw[if_pos hk,if_neg hz]
    exact hn (acc++[a.id]) (by simp only[List.length_append,List.length_singleton];omega) (by rw[←h1];simp[cZ,hk,hz])
   ·rw[if_neg hk]
    exact hn _ (by omega) (by rw[←h1];simp[cZ,hk,hz])
 exact key [] (by simp) rfl
theorem Im (l:List Key) (hl:l.length≤1073741824):aa C g7 [cH l] (vB (cM l.length (hJ l dR))) []:=by
 refine(Ob _ _ ?_).run
 have key: ∀(k i:Nat),i+k=l.length→1≤i→(List.range' i k).all (hJ l dR)=cM l.length (hJ l dR)→ah C g7 aj 4 0 (pF (l.map bu) i) (fun u st=>av C g7 aj u st fun r fs=>r=vB (cM l.length (hJ l dR))∧fs=[]):=by
  intro k
  induction k with
  |zero=>
   intro i h h1 h0
   refine sr _ _ _ (an (by simp;omega) (zx _ _ _ _ ?_))
   simp only[List.range'_zero,List.all_nil] at h0
   rw[←h0];exact⟨rfl,by first|rfl|trivial⟩
  |succ k ih=>
   intro i h h1 h0
   obtain⟨j,rfl⟩: ∃j,i=j+1:=⟨i-1,by omega⟩
   have hj:l[j]?=some l[j]:=List.getElem?_eq_getElem (by omega)
   have hj1:l[j+1]?=some l[j+1]:=List.getElem?_eq_getElem (by omega)
   have e:hJ l dR (j+1)=dR l[j] l[j+1]:=by simp only[hJ,hj,hj1]
   rw[List.range'_succ,List.all_cons,e] at h0
   refine sr _ _ _ (ai (by simp;omega) ?_)
   rw[eB (by omega),show((j+1:Nat):Int)-1=(j:Int) by omega]
   simp only[jg,aE,hj,hj1,Option.some.injEq,exists_eq_left',DA,exists_eq_left,c8,bI]
   rw[aC (by omega)]
   cases hb:dR l[j] l[j+1] with
   |true=>
    rw[hb,Bool.true_and] at h0
    exact ai rfl (ih (j+1+1) (by omega) (by omega) h0)
   |false=>
    rw[hb,Bool.false_and] at h0
    refine an rfl (Jh _ ?_)
    rw[←h0];exact⟨rfl,by first|rfl|trivial⟩
 cases hz:l.length with
 |zero=>
  have:l=[]:=List.eq_nil_of_length_eq_zero hz
  subst this
  exact sr _ _ _ (an (by simp) (zx _ _ _ _ ⟨rfl,by first|rfl|trivial⟩))
 |succ n=>
  rw[hz] at key
  exact key n 1 (by omega) (by omega) (by unfold cM;rw[List.range'_succ,List.all_cons];rfl)
theorem NF (l:List Key) (hl:l.length≤1073741824):aa C e7 [cH l] (vB ((l.all gX&&(cM l.length (hJ l dR)&&decide (l.length≤60))))) []:=by
 refine(SJ _ _ ?_).run
 have key:((l.drop 0).all gX&&(cM l.length (hJ l dR)&&decide (l.length≤60)))=(l.all gX&&(cM l.length (hJ l dR)&&decide (l.length≤60)))→ah C e7 aj 4 0 (mQ (l.map bu) ((0:Nat):Int)) (fun u st=>av C e7 aj u st fun r fs=>r=vB ((l.all gX&&(cM l.length (hJ l dR)&&decide (l.length≤60))))∧fs=[]):=by
  refine aV l (fun i=>((l.drop i).all gX&&(cM l.length (hJ l dR)&&decide (l.length≤60)))=(l.all gX&&(cM l.length (hJ l dR)&&decide (l.length≤60)))→ah C e7 aj 4 0 (mQ (l.map bu) i) (fun u st=>av C e7 aj u st fun r fs=>r=vB ((l.all gX&&(cM l.length (hJ l dR)&&decide (l.length≤60))))∧fs=[])) ?_ ?_
  ·intro h0
   refine DZ _ _ _ (an (by simp) (Ow _ _ _ _ ?_))
   rw[List.drop_length] at h0
   simp only[List.all_nil,Bool.true_and] at h0
   rw[←h0]
   refine⟨_,Im l hl,?_⟩
   simp only[gz,List.length_map,Int.ofNat_eq_natCast]
   cases cM l.length (hJ l dR)<;>simp
   omega
  ·intro i a hi ha hd htk hn h0
   have gO:gX a=false→(l.all gX&&(cM l.length (hJ l dR)&&decide (l.length≤60)))=false:=fun e=>by rw[←h0,hd];simp[e]
   have gN:gX a=true→ah C e7 aj 4 0 (mQ (l.map bu) ((i:Int)+1)) (fun u st=>av C e7 aj u st fun r fs=>r=vB ((l.all gX&&(cM l.length (hJ l dR)&&decide (l.length≤60))))∧fs=[]):=fun e=>hn (by rw[←h0,hd];simp[e])
   refine DZ _ _ _ (ai (by simp;omega) ?_)
   simp only[jg,GJ,aE,ha,Option.some.injEq,exists_eq_left',exists_eq_left,bI,dQ,fF,c8,dS,cV,dU,dV,fJ,cj,natAdd,List.length_map,List.length_append,List.length_singleton,Bool.true_and,Bool.and_true]
   rw[aC (by omega)]
   cases h1:gX a<;>simp only[k9,mF]<;>first|exact gN (by assumption)|exact Ov _ (by rw[gO (by assumption)];exact⟨rfl,by first|rfl|trivial⟩)
 exact key rfl
theorem Kg (l:List Key) (hl:l.length≤1073741824):aa C e7 [cH l] (vB (C6 l)) []:=by
 have:=NF l hl
 rw[Ni]
 exact this
theorem Sm (l:List Key) (hl:l.length≤1073741824) (q:Bool):aa C e7 [cH l] (vB q) []↔q=C6 l:=rD (Kg l hl)
theorem Kh (s:ByteArray) (hl:s.size≤140737488355328):aa C eF [vS s] (vB ((cM s.size (eu s)&&jV s.size 1 6))) []:=by
 refine(Qh _ _ ?_).run
 have key:((List.range' 0 (s.size-0)).all (eu s)&&jV s.size 1 6)=(cM s.size (eu s)&&jV s.size 1 6)→ah C eF aj 4 0 (jF s ((0:Nat):Int)) (fun u st=>av C eF aj u st fun r fs=>r=vB ((cM s.size (eu s)&&jV s.size 1 6))∧fs=[]):=by
  refine oR (s.size) (fun i=>((List.range' i (s.size-i)).all (eu s)&&jV s.size 1 6)=(cM s.size (eu s)&&jV s.size 1 6)→ah C eF aj 4 0 (jF s i) (fun u st=>av C eF aj u st fun r fs=>r=vB ((cM s.size (eu s)&&jV s.size 1 6))∧fs=[])) ?_ ?_
  ·intro h0
   refine Co _ _ _ (an (by simp) (LU _ _ _ _ ?_))
   rw[Nat.sub_self] at h0
   simp only[List.range'_zero,List.all_nil,Bool.true_and] at h0
   rw[←h0]
   simp only[sQ,exists_eq_left,H6,Int.ofNat_eq_natCast]
   simp
  ·intro i hi hn h0
   rw[ki hi,List.all_cons] at h0
   have gO:(eu s) i=false→(cM s.size (eu s)&&jV s.size 1 6)=false:=fun e=>by rw[←h0,e];rfl
   have gN:(eu s) i=true→ah C eF aj 4 0 (jF s ((i:Int)+1)) (fun u st=>av C eF aj u st fun r fs=>r=vB ((cM s.size (eu s)&&jV s.size 1 6))∧fs=[]):=fun e=>hn (by rw[←h0,e];rfl)
   refine Co _ _ _ (ai (by simp;omega) ?_)
   obtain⟨n,hb,hn0,hn1⟩:=Q9 hi
   have hw:tJ .i64 n=n:=TL (by omega)
   simp only[hb,Option.some.injEq,exists_eq_left',sQ,exists_eq_left,hw,bI]
   rw[aC (by omega)]
   have e:eu s i=(jV n 97 122||jV n 48 57):=by unfold eu;rw[hb];rfl
   rw[e] at gO gN
   cases h1:jV n 97 122<;>cases h2:jV n 48 57<;>simp only[k9,mF]<;>first|exact gN (by rw[h1,h2];rfl)|exact LS _ (by rw[gO (by rw[h1,h2];rfl)];exact⟨rfl,by first|rfl|trivial⟩)
 exact key rfl
theorem OV (s:ByteArray) (hl:s.size≤140737488355328) (q:Bool):aa C eF [vS s] (vB q) []↔q=C9 s:=rD (Kh s hl)
theorem qk (l:List Age) (id:Int) (hl:l.length≤1073741824):aa C ef [fE l,vI id] (lg (cZ l id)) []:=by
 refine(Qn _ _ _ ?_).run
 unfold cZ
 by_cases hz:id=0
 ·refine ai (by simp[hz]) ?_
  rw[if_pos hz]
  exact⟨rfl,by first|rfl|trivial⟩
 refine an (by simp[hz]) ?_
 rw[if_neg hz]
 have key: ∀(acc:List Int),acc.length+(l.drop 0).length≤l.length→acc++((l.drop 0).filter fun a=>decide (a.fr=id)).map (·.id)=(l.filter fun a=>decide (a.fr=id)).map (·.id)→ah C ef au 4 0 (kR id (l.map bV) ((0:Nat):Int) (acc.map bC)) (fun u st=>av C ef au u st fun r fs=>r=lg ((l.filter fun a=>decide (a.fr=id)).map (·.id))∧fs=[]):=by
  refine aV l (fun i=> ∀(acc:List Int),acc.length+(l.drop i).length≤l.length→acc++((l.drop i).filter fun a=>decide (a.fr=id)).map (·.id)=(l.filter fun a=>decide (a.fr=id)).map (·.id)→ah C ef au 4 0 (kR id (l.map bV) i (acc.map bC)) (fun u st=>av C ef au u st fun r fs=>r=lg ((l.filter fun a=>decide (a.fr=id)).map (·.id))∧fs=[])) ?_ ?_
  ·intro acc h0 h1
   refine Cq _ _ _ _ _ (an (by simp) (LZ _ _ _ _ _ _ _ ?_))
   rw[List.drop_length] at h1
   simp only[List.filter_nil,List.map_nil,List.append_nil] at h1
   rw[h1]
   exact⟨rfl,by first|rfl|trivial⟩
  ·intro i a hi ha hd ht hn acc h0 h1
   refine Cq _ _ _ _ _ (ai (by simp;omega) ?_)
   rw[hd] at h0 h1
   simp only[List.length_cons] at h0
   simp only[rA,Mo,R4,aD,bq,aE,ha,Option.some.injEq,exists_eq_left',exists_eq_left,bI,dQ,fF,c8,dS,cV,dU,dV,fJ,cj,natAdd,List.length_map,List.length_append,List.length_singleton,Bool.true_and,Bool.and_true]
   simp (disch:=omega) only[cW,aC,k9]
   by_cases hk:a.fr=id
   ·rw[if_pos hk]
    exact hn (acc++[a.id]) (by simp only[List.length_append,List.length_singleton];omega) (by rw[←h1];simp[hk])
   ·rw[if_neg hk]
    exact hn _ (by omega) (by rw[←h1];simp[hk])
 exact key [] (by simp) rfl
theorem Ki (l:List Key) (hl:l.length≤1073741824):aa C eY [cH l] (vB ((cM l.length (mw l)&&decide (l.length≤60)))) []:=by
 refine(SE _ _ ?_).run
 have key:((List.range' 0 (l.length-0)).all (mw l)&&decide (l.length≤60))=(cM l.length (mw l)&&decide (l.length≤60))→ah C eY aj 4 0 (kz (l.map bu) ((0:Nat):Int)) (fun u st=>av C eY aj u st fun r fs=>r=vB ((cM l.length (mw l)&&decide (l.length≤60)))∧fs=[]):=by
  refine oR (l.length) (fun i=>((List.range' i (l.length-i)).all (mw l)&&decide (l.length≤60))=(cM l.length (mw l)&&decide (l.length≤60))→ah C eY aj 4 0 (kz (l.map bu) i) (fun u st=>av C eY aj u st fun r fs=>r=vB ((cM l.length (mw l)&&decide (l.length≤60)))∧fs=[])) ?_ ?_
  ·intro h0
   refine DV _ _ _ (an (by simp) (Om _ _ _ _ _ ?_))
   rw[Nat.sub_self] at h0
   simp only[List.range'_zero,List.all_nil,Bool.true_and] at h0
   rw[←h0]
   simp[gz]
   omega
  ·intro i hi hn h0
   rw[ki hi,List.all_cons] at h0
   have gO:(mw l) i=false→(cM l.length (mw l)&&decide (l.length≤60))=false:=fun e=>by rw[←h0,e];rfl
   have gN:(mw l) i=true→ah C eY aj 4 0 (kz (l.map bu) ((i:Int)+1)) (fun u st=>av C eY aj u st fun r fs=>r=vB ((cM l.length (mw l)&&decide (l.length≤60)))∧fs=[]):=fun e=>hn (by rw[←h0,e];rfl)
   refine DV _ _ _ (ai (by simp;omega) ?_)
   have ha:l[i]?=some l[i]:=List.getElem?_eq_getElem hi
   simp only[jg,GI,Dz,aE,ha,Option.some.injEq,exists_eq_left',exists_eq_left,bI,dQ,fF,c8,dS,cV,dU,dV,fJ,cj,natAdd,List.length_map,List.length_append,List.length_singleton,Bool.true_and,Bool.and_true]
   rw[aC (by omega)]
   cases i with
   |zero=>
    have e:mw l 0=gX l[0]:=by simp[mw,WM,hJ,hi]
    simp only[e] at gO gN
    cases h1:gX l[0]<;>simp only[h1,k9,mF,eD,bq,Int.natCast_zero,Int.lt_irrefl,if_false]<;>first|exact gN h1|exact DW _ _ _ _ _ _ (by rw[gO h1];exact⟨rfl,by first|rfl|trivial⟩)
   |succ k=>
    have hk:l[k]?=some l[k]:=List.getElem?_eq_getElem (by omega)
    have e:mw l (k+1)=(gX l[k+1]&&dR l[k] l[k+1]):=by simp only[mw,WM,hJ,hk,ha]
    simp only[e] at gO gN
    rw[eB (by omega),show((k+1:Nat):Int)-1=(k:Int) by omega]
    simp only[aE,hk,Option.some.injEq,exists_eq_left',c8,eD,bq]
    rw[if_pos (by omega)]
    cases h1:gX l[k+1]<;>cases h2:dR l[k] l[k+1]<;>simp only[k9,mF]<;>first|exact gN (by rw[h1,h2];rfl)|exact DW _ _ _ _ _ _ (by rw[gO (by rw[h1,h2];rfl)];exact⟨rfl,by first|rfl|trivial⟩)
 exact key rfl
theorem Sn (l:List Key) (hl:l.length≤1073741824) (q:Bool):aa C eY [cH l] (vB q) []↔q=C6 l:=rD (Ki l hl)
theorem OW (t:Tree) (l:List Age) (b id:Int) (hl:cw t≤1073741824) (ha:l.length≤1073741823):aa C Ig [c6 t,fE l,vI b,vI id] (Ox (ED t l b id)) []:=by
 refine(Uo _ _ _ _ _ _ ?_).run
 refine⟨_,AA l id (by omega),_,_,_,_,_,_,AD t b _ hl (by have:=Af l id;omega),?_⟩
 exact⟨rfl,by first|rfl|trivial⟩
theorem Fv (t:Tree) (l:List Age) (b id:Int) (hl:cw t≤1073741824) (ha:l.length≤1073741823):aa C uO [c6 t,fE l,vI b,vI id] (Ox (yy t l b id)) []:=by
 refine(Jn _ _ _ _ _ _ ?_).run
 have hp:=Af l id
 refine⟨_,AA l id (by omega),?_⟩
 simp only[List.length_map,Int.ofNat_eq_natCast,aD,bq,cu]
 unfold yy
 by_cases h:(pathOf l id).length=0
 ·rw[if_pos (by omega),List.eq_nil_of_length_eq_zero h]
  simp[YR,eg]
 ·rw[if_neg (by omega)]
  refine ai (by simp;omega) ⟨_,_,_,_,_,_,AD t b _ hl (by simp;omega),?_⟩
  have e:List.drop (Int.toNat 1) (List.take (Int.toNat ((pathOf l id).length:Int)) (pathOf l id))=(pathOf l id).drop 1:=by rw[Int.toNat_natCast,List.take_length];rfl
  rw[e]
  exact⟨rfl,by first|rfl|trivial⟩
theorem OX (t:Tree) (l:List Age) (k:Key) (id:Int) (hl:cw t≤1073741824) (ha:l.length≤1073741823):aa C Ej [c6 t,fE l,q7 k,vI id] (vB (kj t l k id)) []:=by
 refine(Un _ _ _ _ _ _ _ _ _ _ ?_).run
 refine⟨_,_,_,_,_,_,OW t l k.b id hl ha,?_⟩
 unfold kj
 simp only[aD]
 cases h:(ED t l k.b id).2
 ·exact an rfl ⟨rfl,by first|rfl|trivial⟩
 ·exact ai rfl ⟨by simp,by first|rfl|trivial⟩
theorem Fw (p:Pool) (k:Key) (ht:cw p.t≤1073741824) (hg:p.ages.length≤1073741823) (hl:p.vols.length≤1073741824):aa C cQ [gW p,q7 k] (vB ((p.vols.any (fun v:Vol=>decide (k.b<v.size)&&kj p.t p.ages k v.age)))) []:=by
 refine(JB _ _ _ _ _ _ _ _ _ _ _ _ ?_).run
 have key:((p.vols.drop 0).any (fun v:Vol=>decide (k.b<v.size)&&kj p.t p.ages k v.age))=(p.vols.any (fun v:Vol=>decide (k.b<v.size)&&kj p.t p.ages k v.age))→ah C cQ aj 4 0 (gH ((0:Nat):Int) (p.t.lows.map bC) (p.t.nodes.map aI) (p.ages.map bV) (p.cells.map bU) (p.vols.map dD) p.next k.b k.a k.k k.c k.g) (fun u st=>av C cQ aj u st fun r fs=>r=vB ((p.vols.any (fun v:Vol=>decide (k.b<v.size)&&kj p.t p.ages k v.age)))∧fs=[]):=by
  refine aV p.vols (fun i=>((p.vols.drop i).any (fun v:Vol=>decide (k.b<v.size)&&kj p.t p.ages k v.age))=(p.vols.any (fun v:Vol=>decide (k.b<v.size)&&kj p.t p.ages k v.age))→ah C cQ aj 4 0 (gH i (p.t.lows.map bC) (p.t.nodes.map aI) (p.ages.map bV) (p.cells.map bU) (p.vols.map dD) p.next k.b k.a k.k k.c k.g) (fun u st=>av C cQ aj u st fun r fs=>r=vB ((p.vols.any (fun v:Vol=>decide (k.b<v.size)&&kj p.t p.ages k v.age)))∧fs=[])) ?_ ?_
  ·intro h0
   refine vz _ _ _ _ _ _ _ _ _ _ _ _ _ (an (by simp) (FY _ _ _ _ _ _ _ _ _ _ _ _ _ _ ?_))
   rw[List.drop_length] at h0
   simp only[List.any_nil,Bool.true_and] at h0
   rw[←h0]
   exact⟨rfl,by first|rfl|trivial⟩
  ·intro i a hi ha hd htk hn h0
   have gO:(fun v:Vol=>decide (k.b<v.size)&&kj p.t p.ages k v.age) a=true→(p.vols.any (fun v:Vol=>decide (k.b<v.size)&&kj p.t p.ages k v.age))=true:=fun e=>by rw[←h0,hd];simp[e]
   have gN:(fun v:Vol=>decide (k.b<v.size)&&kj p.t p.ages k v.age) a=false→ah C cQ aj 4 0 (gH ((i:Int)+1) (p.t.lows.map bC) (p.t.nodes.map aI) (p.ages.map bV) (p.cells.map bU) (p.vols.map dD) p.next k.b k.a k.k k.c k.g) (fun u st=>av C cQ aj u st fun r fs=>r=vB ((p.vols.any (fun v:Vol=>decide (k.b<v.size)&&kj p.t p.ages k v.age)))∧fs=[]):=fun e=>hn (by rw[←h0,hd];simp[e])
   refine vz _ _ _ _ _ _ _ _ _ _ _ _ _ (ai (by simp;omega) ?_)
   have hh: ∀q,aa C Ej [c6 p.t,fE p.ages,q7 k,vI a.age] (vB q) []↔q=kj p.t p.ages k a.age:=fun q=>rD (OX p.t p.ages k a.age ht hg)
   simp only[xV,hh,eD,bq,aE,ha,Option.some.injEq,exists_eq_left',exists_eq_left,bI,dQ,fF,c8,dS,cV,dU,dV,fJ,cj,natAdd,List.length_map,List.length_append,List.length_singleton,Bool.true_and,Bool.and_true]
   rw[aC (by omega)]
   by_cases h1:k.b<a.size<;>cases h2:kj p.t p.ages k a.age<;>simp only[h1,if_true,if_false,k9,mF]<;>first|exact gN (by simp[h1,h2])|exact FX _ _ _ _ _ _ _ _ _ _ _ _ (by rw[gO (by simp[h1,h2])];exact⟨rfl,by first|rfl|trivial⟩)
 exact key rfl
theorem Eo (p:Pool) (k:Key) (ht:cw p.t≤1073741824) (hg:p.ages.length≤1073741823) (hl:p.vols.length≤1073741824):aa C cQ [gW p,q7 k] (vB (Ib p k)) []:=Fw p k ht hg hl
theorem OY (t:Tree) (l:List Age) (b id:Int) (hl:cw t≤1073741824) (ha:l.length≤1073741823):aa C Ih [c6 t,fE l,vI b,vI id] (Ox (ED t l b id)) []:=by
 refine(Ui _ _ _ _ _ _ ?_).run
 refine⟨_,AB l id (by omega),_,_,_,_,_,_,AE t b _ hl (by have:=Af l id;omega),?_⟩
 exact⟨rfl,by first|rfl|trivial⟩
theorem Fx (t:Tree) (l:List Age) (b id:Int) (hl:cw t≤1073741824) (ha:l.length≤1073741823):aa C uP [c6 t,fE l,vI b,vI id] (Ox (yy t l b id)) []:=by
 refine(Jz _ _ _ _ _ _ ?_).run
 have hp:=Af l id
 refine⟨_,AB l id (by omega),?_⟩
 simp only[List.length_map,Int.ofNat_eq_natCast,cu,Z6]
 unfold yy
 have e: ∀m:Int,((m=1∧1≤(pathOf l id).length)∨(m=0∧(pathOf l id).length=0))→List.drop m.toNat (List.take (Int.toNat ((pathOf l id).length:Int)) (pathOf l id))=(pathOf l id).drop 1:=fun m hm=>by
  rw[Int.toNat_natCast,List.take_length]
  rcases hm with⟨rfl,_⟩|⟨rfl,h⟩
  ·rfl
  ·rw[List.eq_nil_of_length_eq_zero h];rfl
 have hm:(if((pathOf l id).length:Int)<1 then((pathOf l id).length:Int) else 1)=1∧1≤(pathOf l id).length∨((if((pathOf l id).length:Int)<1 then((pathOf l id).length:Int) else 1)=0∧(pathOf l id).length=0):=by split<;>omega
 revert hm
 generalize (if((pathOf l id).length:Int)<1 then((pathOf l id).length:Int) else 1)=m
 intro hm
 rw[e m hm]
 refine ai (by simp;omega) ⟨_,_,_,_,_,_,AE t b _ hl (by simp;omega),?_⟩
 exact⟨rfl,by first|rfl|trivial⟩
theorem OZ (t:Tree) (l:List Age) (k:Key) (id:Int) (hl:cw t≤1073741824) (ha:l.length≤1073741823):aa C Ek [c6 t,fE l,q7 k,vI id] (vB (kj t l k id)) []:=by
 refine(Uh _ _ _ _ _ _ _ _ _ _ ?_).run
 refine⟨_,_,_,_,_,_,OY t l k.b id hl ha,?_⟩
 unfold kj
 simp only[aD]
 cases h:(ED t l k.b id).2
 ·exact an rfl ⟨rfl,by first|rfl|trivial⟩
 ·exact ai rfl ⟨by simp,by first|rfl|trivial⟩
theorem Fy (p:Pool) (k:Key) (ht:cw p.t≤1073741824) (hg:p.ages.length≤1073741823) (hl:p.vols.length≤1073741824):aa C cR [gW p,q7 k] (vB ((p.vols.any (fun v:Vol=>decide (k.b<v.size)&&kj p.t p.ages k v.age)))) []:=by
 refine(Jf _ _ _ _ _ _ _ _ _ _ _ _ ?_).run
 have key:((p.vols.drop 0).any (fun v:Vol=>decide (k.b<v.size)&&kj p.t p.ages k v.age))=(p.vols.any (fun v:Vol=>decide (k.b<v.size)&&kj p.t p.ages k v.age))→ah C cR aj 4 0 (gG (p.vols.map dD) ((0:Nat):Int) (p.t.lows.map bC) (p.t.nodes.map aI) (p.ages.map bV) (p.cells.map bU) p.next k.b k.a k.k k.c k.g) (fun u st=>av C cR aj u st fun r fs=>r=vB ((p.vols.any (fun v:Vol=>decide (k.b<v.size)&&kj p.t p.ages k v.age)))∧fs=[]):=by
  refine aV p.vols (fun i=>((p.vols.drop i).any (fun v:Vol=>decide (k.b<v.size)&&kj p.t p.ages k v.age))=(p.vols.any (fun v:Vol=>decide (k.b<v.size)&&kj p.t p.ages k v.age))→ah C cR aj 4 0 (gG (p.vols.map dD) i (p.t.lows.map bC) (p.t.nodes.map aI) (p.ages.map bV) (p.cells.map bU) p.next k.b k.a k.k k.c k.g) (fun u st=>av C cR aj u st fun r fs=>r=vB ((p.vols.any (fun v:Vol=>decide (k.b<v.size)&&kj p.t p.ages k v.age)))∧fs=[])) ?_ ?_
  ·intro h0
   refine vp _ _ _ _ _ _ _ _ _ _ _ _ _ (an (by simp) (FO _ _ _ _ _ _ _ _ _ _ _ _ _ _ _ ?_))
   rw[List.drop_length] at h0
   simp only[List.any_nil,Bool.true_and] at h0
   rw[←h0]
   exact⟨rfl,by first|rfl|trivial⟩
  ·intro i a hi ha hd htk hn h0
   have gO:(fun v:Vol=>decide (k.b<v.size)&&kj p.t p.ages k v.age) a=true→(p.vols.any (fun v:Vol=>decide (k.b<v.size)&&kj p.t p.ages k v.age))=true:=fun e=>by rw[←h0,hd];simp[e]
   have gN:(fun v:Vol=>decide (k.b<v.size)&&kj p.t p.ages k v.age) a=false→ah C cR aj 4 0 (gG (p.vols.map dD) ((i:Int)+1) (p.t.lows.map bC) (p.t.nodes.map aI) (p.ages.map bV) (p.cells.map bU) p.next k.b k.a k.k k.c k.g) (fun u st=>av C cR aj u st fun r fs=>r=vB ((p.vols.any (fun v:Vol=>decide (k.b<v.size)&&kj p.t p.ages k v.age)))∧fs=[]):=fun e=>hn (by rw[←h0,hd];simp[e])
   refine vp _ _ _ _ _ _ _ _ _ _ _ _ _ (ai (by simp;omega) ?_)
   have hh: ∀q,aa C Ek [c6 p.t,fE p.ages,q7 k,vI a.age] (vB q) []↔q=kj p.t p.ages k a.age:=fun q=>rD (OZ p.t p.ages k a.age ht hg)
   simp only[xV,hh,eD,bq,aE,ha,Option.some.injEq,exists_eq_left',exists_eq_left,bI,dQ,fF,c8,dS,cV,dU,dV,fJ,cj,natAdd,List.length_map,List.length_append,List.length_singleton,Bool.true_and,Bool.and_true]
   rw[aC (by omega)]
   by_cases h1:k.b<a.size<;>cases h2:kj p.t p.ages k a.age<;>simp only[h1,if_true,if_false,k9,mF]<;>first|exact gN (by simp[h1,h2])|exact FN _ _ _ _ _ _ _ _ _ _ _ _ _ _ _ _ (by rw[gO (by simp[h1,h2])];exact⟨rfl,by first|rfl|trivial⟩)
 exact key rfl
theorem Ep (p:Pool) (k:Key) (ht:cw p.t≤1073741824) (hg:p.ages.length≤1073741823) (hl:p.vols.length≤1073741824):aa C cR [gW p,q7 k] (vB (Ib p k)) []:=Fy p k ht hg hl
@[simp] theorem O0 (n:ByteArray) (a z:Int) (f:Bool) (id:Int) (q:Bool):aa C sO [.ag [iS n,iI a,iI z,iB f],.bx [iI id]] (vB q) []↔q=decide (a=id):=rD (by
  refine(P6 _ _ _ _ _ _ ?_).run
  simp)
theorem Er (l:List Vol) (id:Int) (hl:l.length≤1073741824):aa C aO [yw l,.fn sO [[iI id]]] (vI (ff (fun v:Vol=>decide (v.age=id)) l 0)) []:=by
 refine(qQ _ _ _ ?_).run
 have key:ff (fun v:Vol=>decide (v.age=id)) (l.drop 0) ((0:Nat):Int)=ff (fun v:Vol=>decide (v.age=id)) l 0→ah C aO aj 4 0 (dg (l.map dD) ((0:Nat):Int) id) (fun u st=>av C aO aj u st fun r fs=>r=vI (ff (fun v:Vol=>decide (v.age=id)) l 0)∧fs=[]):=by
  refine aV l (fun i=>ff (fun v:Vol=>decide (v.age=id)) (l.drop i) (i:Int)=ff (fun v:Vol=>decide (v.age=id)) l 0→ah C aO aj 4 0 (dg (l.map dD) i id) _) ?_ ?_
  ·intro h0
   refine jJ _ _ _ _ (an (by simp) (pX _ _ _ _ _ _ ?_))
   rw[List.drop_length] at h0
   simp only[ff] at h0
   change _=vI (ff (fun v:Vol=>decide (v.age=id)) l 0)∧_
   rw[←h0]
   exact⟨rfl,by first|rfl|trivial⟩
  ·intro i a hi ha hd htk hn h0
   refine jJ _ _ _ _ (ai (by simp;omega) ?_)
   rw[hd] at h0
   simp only[ff] at h0
   simp only[xV,aD,O0,bq,aE,ha,Option.some.injEq,exists_eq_left',exists_eq_left,bI,dQ,fF,c8,dS,cV,dU,dV,fJ,cj,natAdd,List.length_map,List.length_append,List.length_singleton,Bool.true_and,Bool.and_true]
   rw[aC (by omega)]
   split at h0
   ·rename_i hp
    have hp:=of_decide_eq_true hp
    first|rw[if_pos hp]|rw[if_pos hp.symm]
    refine pW _ _ _ ?_
    rw[h0]
    exact⟨rfl,by first|rfl|trivial⟩
   ·rename_i hp
    have hp: ¬_:=fun h=>hp (decide_eq_true h)
    first|rw[if_neg hp]|rw[if_neg (fun h=>hp h.symm)]
    exact hn h0
 exact key rfl
theorem Es (l:List Vol) (id:Int) (hl:l.length≤1073741824):aa C dI [yw l,.fn sO [[iI id]]] (vB (l.any (fun v:Vol=>decide (v.age=id)))) []:=by
 refine(pM _ _ _ ⟨_,Er l id hl,?_⟩).run
 rw[gz,Gy _ _ _ (by omega)]
 exact⟨rfl,by first|rfl|trivial⟩
@[simp] theorem Kj (n:ByteArray) (a z:Int) (f:Bool) (s:ByteArray) (a' z':Int) (f':Bool) (q:Bool):aa C nO [.ag [iS n,iI a,iI z,iB f],.bx [iS s,iI a',iI z',iB f']] (vB q) []↔q=decide (a=a'):=rD (by
  refine(Mc _ _ _ _ _ _ _ _ _ ?_).run
  simp)
theorem CC (l:List Vol) (s:ByteArray) (a' z':Int) (f':Bool) (hl:l.length≤1073741824):aa C aO [yw l,.fn nO [[iS s,iI a',iI z',iB f']]] (vI (ff (fun v:Vol=>decide (v.age=a')) l 0)) []:=by
 refine(pY _ _ _ _ _ _ ?_).run
 have key:ff (fun v:Vol=>decide (v.age=a')) (l.drop 0) ((0:Nat):Int)=ff (fun v:Vol=>decide (v.age=a')) l 0→ah C aO aj 4 0 (cT (l.map dD) ((0:Nat):Int) s a' z' f') (fun u st=>av C aO aj u st fun r fs=>r=vI (ff (fun v:Vol=>decide (v.age=a')) l 0)∧fs=[]):=by
  refine aV l (fun i=>ff (fun v:Vol=>decide (v.age=a')) (l.drop i) (i:Int)=ff (fun v:Vol=>decide (v.age=a')) l 0→ah C aO aj 4 0 (cT (l.map dD) i s a' z' f') _) ?_ ?_
  ·intro h0
   refine jm _ _ _ _ _ _ _ (an (by simp) (oW _ _ _ _ _ _ _ _ _ ?_))
   rw[List.drop_length] at h0
   simp only[ff] at h0
   change _=vI (ff (fun v:Vol=>decide (v.age=a')) l 0)∧_
   rw[←h0]
   exact⟨rfl,by first|rfl|trivial⟩
  ·intro i a hi ha hd htk hn h0
   refine jm _ _ _ _ _ _ _ (ai (by simp;omega) ?_)
   rw[hd] at h0
   simp only[ff] at h0
   simp only[xV,aD,Kj,bq,aE,ha,Option.some.injEq,exists_eq_left',exists_eq_left,bI,dQ,fF,c8,dS,cV,dU,dV,fJ,cj,natAdd,List.length_map,List.length_append,List.length_singleton,Bool.true_and,Bool.and_true]
   rw[aC (by omega)]
   split at h0
   ·rename_i hp
    have hp:=of_decide_eq_true hp
    first|rw[if_pos hp]|rw[if_pos hp.symm]
    refine oV _ _ _ _ _ _ ?_
    rw[h0]
    exact⟨rfl,by first|rfl|trivial⟩
   ·rename_i hp
    have hp: ¬_:=fun h=>hp (decide_eq_true h)
    first|rw[if_neg hp]|rw[if_neg (fun h=>hp h.symm)]
    exact hn h0
 exact key rfl
theorem CD (l:List Vol) (s:ByteArray) (a' z':Int) (f':Bool) (hl:l.length≤1073741824):aa C dI [yw l,.fn nO [[iS s,iI a',iI z',iB f']]] (vB (l.any (fun v:Vol=>decide (v.age=a')))) []:=by
 refine(oG _ _ _ _ _ _ ⟨_,CC l s a' z' f' hl,?_⟩).run
 rw[gz,Gy _ _ _ (by omega)]
 exact⟨rfl,by first|rfl|trivial⟩
theorem EK (p:Pool) (id:Int) (hl:p.vols.length≤1073741824):aa C Ei [gW p,vI id] (vB (ng p.vols id)) []:=(Ul _ _ _ _ _ _ _ _ ⟨_,Es p.vols id hl,rfl,by first|rfl|trivial⟩).run
theorem Io (n:List (List Key)) (hb:n.length≤1073741824) (hl:tot bH n≤1073741824):aa C gq [gx n] (vI (cn n)) []:=by
 refine(N0 _ _ ?_).run
 have key: ∀(c:Nat),c+tot bH (n.drop 0)=cn n→ah C gq ak 4 0 (mL c ((0:Nat):Int) (n.map bX)) (fun u st=>av C gq ak u st fun r fs=>r=(vI (cn n))∧fs=[]):=by
  refine aV n (fun i=> ∀(c:Nat),c+tot bH (n.drop i)=cn n→ah C gq ak 4 0 (mL c i (n.map bX)) (fun u st=>av C gq ak u st fun r fs=>r=(vI (cn n))∧fs=[])) ?_ ?_
  ·intro c h0
   refine zm _ _ _ _ (an (by simp) (I7 _ _ _ _ _ ?_))
   rw[List.drop_length] at h0
   simp only[tot,Nat.add_zero] at h0
   rw[h0]
   exact⟨rfl,by first|rfl|trivial⟩
  ·intro i a hi ha hd ht hn c h0
   refine zm _ _ _ _ (ai (by simp;omega) ?_)
   rw[hd] at h0
   have e5:tot bH (a::n.drop (i+1))=a.length+tot bH (n.drop (i+1)):=rfl
   rw[e5] at h0
   unfold cn at h0
   simp only[sg,aE,ha,Option.some.injEq,exists_eq_left',exists_eq_left,bI,dQ,fF,c8,dS,cV,dU,dV,fJ,cj,natAdd,List.length_map,List.length_append,List.length_singleton,Bool.true_and,Bool.and_true]
   rw[aC (by simp only[Int.ofNat_eq_natCast];omega),aC (by omega)]
   exact hn (c+a.length) (by unfold cn;omega)
 exact key 0 (by simp[cn])
theorem Ip (n:List (List Key)) (hs:tot bH n≤1073741824) (hl:n.length≤1073741824):aa C bM [gx n] (vB ((n.all dh&&(decide (n.length≤3)&&decide (cn n≤8))))) []:=by
 refine(Qp _ _ ?_).run
 have key:((n.drop 0).all dh&&(decide (n.length≤3)&&decide (cn n≤8)))=(n.all dh&&(decide (n.length≤3)&&decide (cn n≤8)))→ah C bM aj 4 0 (kT ((0:Nat):Int) (n.map bX)) (fun u st=>av C bM aj u st fun r fs=>r=vB ((n.all dh&&(decide (n.length≤3)&&decide (cn n≤8))))∧fs=[]):=by
  refine aV n (fun i=>((n.drop i).all dh&&(decide (n.length≤3)&&decide (cn n≤8)))=(n.all dh&&(decide (n.length≤3)&&decide (cn n≤8)))→ah C bM aj 4 0 (kT i (n.map bX)) (fun u st=>av C bM aj u st fun r fs=>r=vB ((n.all dh&&(decide (n.length≤3)&&decide (cn n≤8))))∧fs=[])) ?_ ?_
  ·intro h0
   refine Ct _ _ _ (an (by simp) (L5 _ _ _ _ ?_))
   rw[List.drop_length] at h0
   simp only[List.all_nil,Bool.true_and] at h0
   rw[←h0]
   simp only[gz,List.length_map,Int.ofNat_eq_natCast,bq]
   by_cases h3:n.length≤3
   ·rw[if_pos (by omega)]
    refine⟨_,Io n hl hs,?_⟩
    simp[h3]
    omega
   ·rw[if_neg (by omega)]
    simp[h3]
  ·intro i a hi ha hd htk hn h0
   have gO:dh a=false→(n.all dh&&(decide (n.length≤3)&&decide (cn n≤8)))=false:=fun e=>by rw[←h0,hd];simp[e]
   have gN:dh a=true→ah C bM aj 4 0 (kT ((i:Int)+1) (n.map bX)) (fun u st=>av C bM aj u st fun r fs=>r=vB ((n.all dh&&(decide (n.length≤3)&&decide (cn n≤8))))∧fs=[]):=fun e=>hn (by rw[←h0,hd];simp[e])
   refine Ct _ _ _ (ai (by simp;omega) ?_)
   have hz:a.length≤tot bH n:=lu (w:=bH) ha
   have hh: ∀q,aa C e7 [cH a] (vB q) []↔q=C6 a:=fun q=>Sm a (by omega) q
   simp only[sg,hh,aD,Int.ofNat_eq_natCast,bq,aE,ha,Option.some.injEq,exists_eq_left',exists_eq_left,bI,dQ,fF,c8,dS,cV,dU,dV,fJ,cj,natAdd,List.length_map,List.length_append,List.length_singleton,Bool.true_and,Bool.and_true]
   rw[aC (by omega)]
   cases h1:C6 a<;>by_cases h2:a.length=0<;>simp only[k9,mF]<;>first|(rw[if_pos (by omega)];exact Cu _ _ (by rw[gO (by simp[dh,h1,h2])];exact⟨rfl,by first|rfl|trivial⟩))|(rw[if_neg (by omega)];exact gN (by simp[dh,h1,h2]))|exact Cu _ _ (by rw[gO (by simp[dh,h1,h2])];exact⟨rfl,by first|rfl|trivial⟩)
 exact key rfl
theorem tf (n:List (List Key)) (hb:n.length≤1073741824) (hl:tot bH n≤1073741824):aa C bM [gx n] (vB (fI n)) []:=by
 have:=Ip n hl hb
 rw[Rb]
 exact this
theorem AF (l:List Age) (hl:l.length≤1073741824):aa C dw [fE l] (vB ((cM l.length (eC l)&&decide (l.length≤16)))) []:=by
 refine(PZ _ _ ?_).run
 have key:((List.range' 0 (l.length-0)).all (eC l)&&decide (l.length≤16))=(cM l.length (eC l)&&decide (l.length≤16))→ah C dw aj 4 0 (gv (l.map bV) ((0:Nat):Int)) (fun u st=>av C dw aj u st fun r fs=>r=vB ((cM l.length (eC l)&&decide (l.length≤16)))∧fs=[]):=by
  refine oR (l.length) (fun i=>((List.range' i (l.length-i)).all (eC l)&&decide (l.length≤16))=(cM l.length (eC l)&&decide (l.length≤16))→ah C dw aj 4 0 (gv (l.map bV) i) (fun u st=>av C dw aj u st fun r fs=>r=vB ((cM l.length (eC l)&&decide (l.length≤16)))∧fs=[])) ?_ ?_
  ·intro h0
   refine Ca _ _ _ (an (by simp) (Lr _ _ _ _ ?_))
   rw[Nat.sub_self] at h0
   simp only[List.range'_zero,List.all_nil,Bool.true_and] at h0
   rw[←h0]
   simp[gz]
   omega
  ·intro i hi hn h0
   rw[ki hi,List.all_cons] at h0
   have gO:(eC l) i=false→(cM l.length (eC l)&&decide (l.length≤16))=false:=fun e=>by rw[←h0,e];rfl
   have gN:(eC l) i=true→ah C dw aj 4 0 (gv (l.map bV) ((i:Int)+1)) (fun u st=>av C dw aj u st fun r fs=>r=vB ((cM l.length (eC l)&&decide (l.length≤16)))∧fs=[]):=fun e=>hn (by rw[←h0,e];rfl)
   refine Ca _ _ _ (ai (by simp;omega) ?_)
   have ha:l[i]?=some l[i]:=List.getElem?_eq_getElem hi
   have hh: ∀q,aa C dJ [fE (l.take i),vI l[i].fr] (vI q) []↔q=ee (l.take i) l[i].fr:=fun q=>As (l.take i) l[i].fr (by simp;omega) q
   have hcut:aA (l.map bV) 0 (i:Int)=(l.take i).map bV:=by rw[cu,Int.toNat_natCast];rfl
   have hin:eT 0 (i:Int) (l.length:Int)=true:=by simp;omega
   simp only[rA,Dy,hcut,aE,ha,Option.some.injEq,exists_eq_left',exists_eq_left,bI,dQ,fF,c8,dS,cV,dU,dV,fJ,cj,natAdd,List.length_map,List.length_append,List.length_singleton,Bool.true_and,Bool.and_true]
   simp only[ha,hin,hh,exists_eq_left,Option.some.injEq,exists_eq_left',k9,aD,gz,eD,bq,Int.ofNat_eq_natCast,List.length_map]
   rw[aC (by omega)]
   cases i with
   |zero=>
    have e:eC l 0=(jV l[0].id 1 60&&(decide (l[0].fr=0)|| !decide (ee (l.take 0) l[0].fr<0))):=by simp[eC,WM,hJ,hi]
    rw[e] at gO gN
    have hz: ¬((0:Int)<((0:Nat):Int)):=by omega
    simp only[if_neg hz]
    cases h1:jV l[0].id 1 60 with
    |false=>simp only[mF];exact nI _ (by rw[gO (by rw[h1];simp)];exact⟨rfl,by first|rfl|trivial⟩)
    |true=>
     simp only[k9]
     by_cases h2:l[0].fr=0
     ·rw[if_pos h2];exact gN (by rw[h1,decide_eq_true h2];simp)
     ·rw[if_neg h2]
      by_cases h3:ee (l.take 0) l[0].fr<0
      ·rw[if_pos h3];exact nI _ (by rw[gO (by rw[decide_eq_false h2,decide_eq_true h3];simp)];exact⟨rfl,by first|rfl|trivial⟩)
      ·rw[if_neg h3];exact gN (by rw[h1,decide_eq_false h3];simp)
   |succ k=>
    have hk:l[k]?=some l[k]:=List.getElem?_eq_getElem (by omega)
    have e:eC l (k+1)=(jV l[k+1].id 1 60&&(decide (l[k].id<l[k+1].id)&&(decide (l[k+1].fr=0)|| !decide (ee (l.take (k+1)) l[k+1].fr<0)))):=by simp only[eC,WM,hJ,hk,ha]
    rw[e] at gO gN
    rw[eB (by omega),show((k+1:Nat):Int)-1=(k:Int) by omega]
    simp only[aE,hk,Option.some.injEq,exists_eq_left']
    rw[if_pos (by omega)]
    cases h1:jV l[k+1].id 1 60 with
    |false=>simp only[mF];exact nI _ (by rw[gO (by rw[h1];simp)];exact⟨rfl,by first|rfl|trivial⟩)
    |true=>
     simp only[k9]
     by_cases h4:l[k].id<l[k+1].id
     ·rw[if_neg (by omega)]
      by_cases h2:l[k+1].fr=0
      ·rw[if_pos h2];exact gN (by rw[h1,decide_eq_true h4,decide_eq_true h2];simp)
      ·rw[if_neg h2]
       by_cases h3:ee (l.take (k+1)) l[k+1].fr<0
       ·rw[if_pos h3];exact nI _ (by rw[gO (by rw[decide_eq_false h2,decide_eq_true h3];simp)];exact⟨rfl,by first|rfl|trivial⟩)
       ·rw[if_neg h3];exact gN (by rw[h1,decide_eq_true h4,decide_eq_false h3];simp)
     ·rw[if_pos (by omega)];exact nI _ (by rw[gO (by rw[decide_eq_false h4];simp)];exact⟨rfl,by first|rfl|trivial⟩)
 exact key rfl
theorem O1 (l:List Age) (hl:l.length≤1073741824) (q:Bool):aa C dw [fE l] (vB q) []↔q=gV l:=rD (AF l hl)
theorem Iq (n:List (List Key)) (hb:n.length≤1073741824) (hl:tot bH n≤1073741824):aa C bJ [gx n] (vB (n.all dh&&(decide (n.length≤3)&&decide (cn n≤8)))) []:=by
 refine(Pt _ _ ?_).run
 have key: ∀(c:Nat),c+tot bH (n.drop 0)=cn n→((n.drop 0).all dh&&(decide (n.length≤3)&&decide (cn n≤8)))=(n.all dh&&(decide (n.length≤3)&&decide (cn n≤8)))→ah C bJ ak 4 0 (nu c (n.map bX) ((0:Nat):Int)) (fun u st=>av C bJ ak u st fun r fs=>r=(vB (n.all dh&&(decide (n.length≤3)&&decide (cn n≤8))))∧fs=[]):=by
  refine aV n (fun i=> ∀(c:Nat),c+tot bH (n.drop i)=cn n→((n.drop i).all dh&&(decide (n.length≤3)&&decide (cn n≤8)))=(n.all dh&&(decide (n.length≤3)&&decide (cn n≤8)))→ah C bJ ak 4 0 (nu c (n.map bX) i) (fun u st=>av C bJ ak u st fun r fs=>r=(vB (n.all dh&&(decide (n.length≤3)&&decide (cn n≤8))))∧fs=[])) ?_ ?_
  ·intro c h0 h1
   refine BQ _ _ _ _ (an (by simp) (KN _ _ _ _ _ _ ?_))
   rw[List.drop_length] at h0 h1
   simp only[tot,Nat.add_zero] at h0
   simp only[List.all_nil,Bool.true_and] at h1
   rw[←h1]
   simp only[gz,List.length_map,Int.ofNat_eq_natCast,bq]
   by_cases h3:n.length≤3
   ·rw[if_pos (by omega)]
    simp[h3]
    omega
   ·rw[if_neg (by omega)]
    simp[h3]
  ·intro i a hi ha hd ht hn c h0 h1
   refine BQ _ _ _ _ (ai (by simp;omega) ?_)
   have hz:a.length≤tot bH n:=lu (w:=bH) ha
   have hh: ∀q,aa C eY [cH a] (vB q) []↔q=C6 a:=fun q=>Sn a (by omega) q
   rw[hd] at h0 h1
   have e5:tot bH (a::n.drop (i+1))=a.length+tot bH (n.drop (i+1)):=rfl
   rw[e5] at h0
   unfold cn at h0
   have hO:dh a=false→av C bJ ak TX.ret (qo (n.map bX)) (fun r fs=>r=vB (n.all dh&&(decide (n.length≤3)&&decide (cn n≤8)))∧fs=[]):=fun e=>KM _ _ (by rw[←h1];simp only[List.all_cons,e];exact⟨rfl,by first|rfl|trivial⟩)
   simp only[sg,hh,aD,Int.ofNat_eq_natCast,bq,aE,ha,Option.some.injEq,exists_eq_left',exists_eq_left,bI,dQ,fF,c8,dS,cV,dU,dV,fJ,cj,natAdd,List.length_map,List.length_append,List.length_singleton,Bool.true_and,Bool.and_true]
   rw[aC (by omega),aC (by omega)]
   cases h2:C6 a<;>by_cases h3:a.length=0<;>simp only[k9,mF]
   ·exact hO (by simp[dh,h2])
   ·exact hO (by simp[dh,h2])
   ·rw[if_pos (by omega)];exact hO (by simp[dh,h3])
   ·rw[if_neg (by omega)]
    exact hn (c+a.length) (by unfold cn;omega) (by rw[←h1];simp[dh,h2,h3])
 exact key 0 (by simp[cn]) rfl
theorem tg (n:List (List Key)) (hb:n.length≤1073741824) (hl:tot bH n≤1073741824):aa C bJ [gx n] (vB (fI n)) []:=by
 have:=Iq n hb hl
 rw[Rb]
 exact this
theorem O2 (n:List (List Key)) (hb:n.length≤1073741824) (hl:tot bH n≤1073741824) (q:Bool):aa C bJ [.ag [.sub 1 (n.map bX)]] (vB q) []↔q=fI n:=rD (tg n hb hl)
theorem AG (l:List Age) (hl:l.length≤1073741824):aa C dx [fE l] (vB ((cM l.length (eC l)&&decide (l.length≤16)))) []:=by
 refine(PE _ _ ?_).run
 have key:((List.range' 0 (l.length-0)).all (eC l)&&decide (l.length≤16))=(cM l.length (eC l)&&decide (l.length≤16))→ah C dx aj 4 0 (gu (l.map bV) ((0:Nat):Int)) (fun u st=>av C dx aj u st fun r fs=>r=vB ((cM l.length (eC l)&&decide (l.length≤16)))∧fs=[]):=by
  refine oR (l.length) (fun i=>((List.range' i (l.length-i)).all (eC l)&&decide (l.length≤16))=(cM l.length (eC l)&&decide (l.length≤16))→ah C dx aj 4 0 (gu (l.map bV) i) (fun u st=>av C dx aj u st fun r fs=>r=vB ((cM l.length (eC l)&&decide (l.length≤16)))∧fs=[])) ?_ ?_
  ·intro h0
   refine BX _ _ _ (an (by simp) (K6 _ _ _ _ _ ?_))
   rw[Nat.sub_self] at h0
   simp only[List.range'_zero,List.all_nil,Bool.true_and] at h0
   rw[←h0]
   simp[gz]
   omega
  ·intro i hi hn h0
   rw[ki hi,List.all_cons] at h0
   have gO:(eC l) i=false→(cM l.length (eC l)&&decide (l.length≤16))=false:=fun e=>by rw[←h0,e];rfl
   have gN:(eC l) i=true→ah C dx aj 4 0 (gu (l.map bV) ((i:Int)+1)) (fun u st=>av C dx aj u st fun r fs=>r=vB ((cM l.length (eC l)&&decide (l.length≤16)))∧fs=[]):=fun e=>hn (by rw[←h0,e];rfl)
   refine BX _ _ _ (ai (by simp;omega) ?_)
   have ha:l[i]?=some l[i]:=List.getElem?_eq_getElem hi
   have hh: ∀q,aa C iG [fE (l.take i),vI l[i].fr] (vI q) []↔q=ee (l.take i) l[i].fr:=fun q=>At (l.take i) l[i].fr (by simp;omega) q
   have hcut:aA (l.map bV) 0 (i:Int)=(l.take i).map bV:=by rw[cu,Int.toNat_natCast];rfl
   have hin:eT 0 (i:Int) (l.length:Int)=true:=by simp;omega
   simp only[rA,sQ,hcut,aE,ha,Option.some.injEq,exists_eq_left',exists_eq_left,bI,dQ,fF,c8,dS,cV,dU,dV,fJ,cj,natAdd,List.length_map,List.length_append,List.length_singleton,Bool.true_and,Bool.and_true]
   simp only[ha,hin,hh,exists_eq_left,Option.some.injEq,exists_eq_left',k9,aD,gz,eD,bq,Int.ofNat_eq_natCast,List.length_map]
   rw[aC (by omega)]
   cases i with
   |zero=>
    have e:eC l 0=(jV l[0].id 1 60&&(decide (l[0].fr=0)|| !decide (ee (l.take 0) l[0].fr<0))):=by simp[eC,WM,hJ,hi]
    rw[e] at gO gN
    have hz: ¬((0:Int)<((0:Nat):Int)):=by omega
    simp only[if_neg hz]
    cases h1:jV l[0].id 1 60 with
    |false=>simp only[mF];exact nH _ _ _ (by rw[gO (by rw[h1];simp)];exact⟨rfl,by first|rfl|trivial⟩)
    |true=>
     simp only[k9]
     by_cases h2:l[0].fr=0
     ·rw[if_pos h2];exact gN (by rw[h1,decide_eq_true h2];simp)
     ·rw[if_neg h2]
      by_cases h3:ee (l.take 0) l[0].fr<0
      ·rw[if_pos h3];exact nH _ _ _ (by rw[gO (by rw[decide_eq_false h2,decide_eq_true h3];simp)];exact⟨rfl,by first|rfl|trivial⟩)
      ·rw[if_neg h3];exact gN (by rw[h1,decide_eq_false h3];simp)
   |succ k=>
    have hk:l[k]?=some l[k]:=List.getElem?_eq_getElem (by omega)
    have e:eC l (k+1)=(jV l[k+1].id 1 60&&(decide (l[k].id<l[k+1].id)&&(decide (l[k+1].fr=0)|| !decide (ee (l.take (k+1)) l[k+1].fr<0)))):=by simp only[eC,WM,hJ,hk,ha]
    rw[e] at gO gN
    rw[eB (by omega),show((k+1:Nat):Int)-1=(k:Int) by omega]
    simp only[aE,hk,Option.some.injEq,exists_eq_left']
    rw[if_pos (by omega)]
    cases h1:jV l[k+1].id 1 60 with
    |false=>simp only[mF];exact nH _ _ _ (by rw[gO (by rw[h1];simp)];exact⟨rfl,by first|rfl|trivial⟩)
    |true=>
     simp only[k9]
     by_cases h4:l[k].id<l[k+1].id
     ·rw[if_neg (by omega)]
      by_cases h2:l[k+1].fr=0
      ·rw[if_pos h2];exact gN (by rw[h1,decide_eq_true h4,decide_eq_true h2];simp)
      ·rw[if_neg h2]
       by_cases h3:ee (l.take (k+1)) l[k+1].fr<0
       ·rw[if_pos h3];exact nH _ _ _ (by rw[gO (by rw[decide_eq_false h2,decide_eq_true h3];simp)];exact⟨rfl,by first|rfl|trivial⟩)
       ·rw[if_neg h3];exact gN (by rw[h1,decide_eq_true h4,decide_eq_false h3];simp)
     ·rw[if_pos (by omega)];exact nH _ _ _ (by rw[gO (by rw[decide_eq_false h4];simp)];exact⟨rfl,by first|rfl|trivial⟩)
 exact key rfl
theorem O3 (l:List Age) (hl:l.length≤1073741824) (q:Bool):aa C dx [fE l] (vB q) []↔q=gV l:=rD (AG l hl)
@[simp] theorem EL (b a q:Int):aa C wj [vI b,vI a] (vI q) []↔q=gY b a:=YP ((PO _ _ _ ⟨rfl,by first|rfl|trivial⟩).run)
@[simp] theorem EM (b a k c g q:Int):aa C mT [.ag [iI b,iI a,iI k,iI c,iI g]] (vI q) []↔q=gY b a:=YP (by
  refine(Qj _ _ _ _ _ _ ?_).run
  simp only[EL,exists_eq_left]
  simp)
@[simp] theorem x9 (b a q:Int):aa C sL [vI b,vI a] (vI q) []↔q=gY b a:=YP ((Pn _ _ _ ⟨rfl,by first|rfl|trivial⟩).run)
theorem Ir (t:Tree) (i:Nat) (n:List (List Key)) (hi:i<t.lows.length) (hl:cw t≤1073741824) (hn:n.length≤1073741824) (hz:tot bH n≤1073741824):ah C bA au 4 0 (iq i ((0:Nat):Int) (t.lows.map bC) (t.nodes.map aI) (n.map bX)) (fun u st=>av C bA au u st fun r fs=>r=vB (n.all (bS t.lows i))∧fs=[]):=by
 have hll:t.lows.length≤1073741824:=by unfold cw at hl;omega
 have hlo:t.lows[i]?=some t.lows[i]:=List.getElem?_eq_getElem hi
 have key:(n.drop 0).all (bS t.lows i)=n.all (bS t.lows i)→ah C bA au 4 0 (iq i ((0:Nat):Int) (t.lows.map bC) (t.nodes.map aI) (n.map bX)) (fun u st=>av C bA au u st fun r fs=>r=vB (n.all (bS t.lows i))∧fs=[]):=by
  refine aV n (fun k=>(n.drop k).all (bS t.lows i)=n.all (bS t.lows i)→ah C bA au 4 0 (iq i k (t.lows.map bC) (t.nodes.map aI) (n.map bX)) (fun u st=>av C bA au u st fun r fs=>r=vB (n.all (bS t.lows i))∧fs=[])) ?_ ?_
  ·intro h0
   refine BO _ _ _ _ _ _ (an (by simp) (KI _ _ _ _ _ _ _ ?_))
   rw[List.drop_length] at h0
   simp only[List.all_nil] at h0
   rw[←h0]
   exact⟨rfl,by first|rfl|trivial⟩
  ·intro k s hk hs hd htk hnext h0
   have hsl:s.length≤tot bH n:=lu (w:=bH) hs
   rw[hd,List.all_cons] at h0
   refine BO _ _ _ _ _ _ (ai (by simp;omega) ?_)
   have keyI:(s.drop 0).all (gL t.lows i)=s.all (gL t.lows i)→ah C bA fz 3 2 (jA i k ((0:Nat):Int) (t.lows.map bC) (t.nodes.map aI) (n.map bX)) (fun u st=>mX C bA au 4 0 tE u st (fun u st=>av C bA au u st fun r fs=>r=vB (n.all (bS t.lows i))∧fs=[])):=by
    refine aV s (fun j=>(s.drop j).all (gL t.lows i)=s.all (gL t.lows i)→ah C bA fz 3 2 (jA i k j (t.lows.map bC) (t.nodes.map aI) (n.map bX)) (fun u st=>mX C bA au 4 0 tE u st (fun u st=>av C bA au u st fun r fs=>r=vB (n.all (bS t.lows i))∧fs=[]))) ?_ ?_
    ·intro h1
     rw[List.drop_length] at h1
     simp only[List.all_nil] at h1
     refine BP _ _ _ _ _ _ _ (⟨_,cO hs,an (by simp) (KK _ _ _ _ _ _ _ _ ?_)⟩)
     rw[aC (by omega)]
     exact hnext (by rw[←h0];unfold bS;rw[←h1];simp)
    ·intro j x hj hx hdj htj hn2 h1
     rw[hdj,List.all_cons] at h1
     have gO:gL t.lows i x=false→mX C bA au 4 0 tE TX.ret (qn (t.lows.map bC) (t.nodes.map aI) (n.map bX)) (fun u st=>av C bA au u st fun r fs=>r=vB (n.all (bS t.lows i))∧fs=[]):=fun e=>KJ _ _ _ _ (KL _ _ _ _ (by
      have e2:bS t.lows i s=false:=by unfold bS;rw[←h1,e];rfl
      rw[←h0,e2];exact⟨rfl,by first|rfl|trivial⟩))
     have gN:gL t.lows i x=true→ah C bA fz 3 2 (jA i k ((j:Int)+1) (t.lows.map bC) (t.nodes.map aI) (n.map bX)) (fun u st=>mX C bA au 4 0 tE u st (fun u st=>av C bA au u st fun r fs=>r=vB (n.all (bS t.lows i))∧fs=[])):=fun e=>hn2 (by rw[←h1,e];rfl)
     have e:gL t.lows i x=(!decide (gY x.b x.a<t.lows[i])&&(match t.lows[i+1]? with|some hi=>decide (gY x.b x.a<hi)|none=>true)):=by simp only[gL,Vc,hlo];rfl
     rw[e] at gO gN
     refine BP _ _ _ _ _ _ _ (⟨_,cO hs,ai (by simp;omega) ⟨_,cO hs,?_⟩⟩)
     rw[aC (a:=(i:Int)) (by omega),aC (a:=(j:Int)) (by omega)]
     simp only[jg,rz,aE,hx,hlo,Option.some.injEq,exists_eq_left',EM,exists_eq_left,eD,gz,bq,List.length_map,Int.ofNat_eq_natCast]
     by_cases h2:gY x.b x.a<t.lows[i]
     ·rw[if_pos h2]
      exact gO (by rw[decide_eq_true h2];rfl)
     ·rw[if_neg h2]
      by_cases h3:i+1<t.lows.length
      ·have hhi:t.lows[i+1]?=some t.lows[i+1]:=List.getElem?_eq_getElem h3
       rw[if_pos (by omega),show((i:Int)+1)=((i+1:Nat):Int) by omega,aE,hhi]
       simp only[Option.some.injEq,exists_eq_left']
       rw[hhi] at gO gN
       by_cases h4:gY x.b x.a<t.lows[i+1]
       ·rw[if_neg (by omega)]
        exact gN (by rw[decide_eq_false h2];simp[h4])
       ·rw[if_pos (by omega)]
        exact gO (by simp[h4])
      ·rw[if_neg (by omega)]
       have hno:t.lows[i+1]?=none:=List.getElem?_eq_none (by omega)
       rw[hno] at gN
       exact gN (by rw[decide_eq_false h2];rfl)
   exact keyI rfl
 exact key rfl
theorem Fz (t:Tree) (i:Nat) (n:List (List Key)) (hi:i<t.lows.length) (hl:cw t≤1073741824) (hn:n.length≤1073741824) (hz:tot bH n≤1073741824):ah C aX aj 4 0 (ju i (n.map bX) (n.length:Int) ((0:Nat):Int) (t.lows.map bC) (t.nodes.map aI)) (fun u st=>av C aX aj u st fun r fs=>r=vB (n.all (bS t.lows i))∧fs=[]):=by
 have hll:t.lows.length≤1073741824:=by unfold cw at hl;omega
 have hlo:t.lows[i]?=some t.lows[i]:=List.getElem?_eq_getElem hi
 have key:(n.drop 0).all (bS t.lows i)=n.all (bS t.lows i)→ah C aX aj 4 0 (ju i (n.map bX) (n.length:Int) ((0:Nat):Int) (t.lows.map bC) (t.nodes.map aI)) (fun u st=>av C aX aj u st fun r fs=>r=vB (n.all (bS t.lows i))∧fs=[]):=by
  refine aV n (fun k=>(n.drop k).all (bS t.lows i)=n.all (bS t.lows i)→ah C aX aj 4 0 (ju i (n.map bX) (n.length:Int) k (t.lows.map bC) (t.nodes.map aI)) (fun u st=>av C aX aj u st fun r fs=>r=vB (n.all (bS t.lows i))∧fs=[])) ?_ ?_
  ·intro h0
   refine xz _ _ _ _ _ _ _ (an (by simp) (He _ _ _ _ _ _ _ _ ?_))
   rw[List.drop_length] at h0
   simp only[List.all_nil] at h0
   rw[←h0]
   exact⟨rfl,by first|rfl|trivial⟩
  ·intro k s hk hs hd htk hnext h0
   have hsl:s.length≤tot bH n:=lu (w:=bH) hs
   rw[hd,List.all_cons] at h0
   refine xz _ _ _ _ _ _ _ (ai (by simp;omega) ⟨_,cO hs,?_⟩)
   have keyI:(s.drop 0).all (gL t.lows i)=s.all (gL t.lows i)→ah C aX mj 3 2 (g8 i (n.map bX) (n.length:Int) k (s.map bu) ((0:Nat):Int) (t.lows.map bC) (t.nodes.map aI)) (fun u st=>mX C aX aj 4 0 nr u st (fun u st=>av C aX aj u st fun r fs=>r=vB (n.all (bS t.lows i))∧fs=[])):=by
    refine aV s (fun j=>(s.drop j).all (gL t.lows i)=s.all (gL t.lows i)→ah C aX mj 3 2 (g8 i (n.map bX) (n.length:Int) k (s.map bu) j (t.lows.map bC) (t.nodes.map aI)) (fun u st=>mX C aX aj 4 0 nr u st (fun u st=>av C aX aj u st fun r fs=>r=vB (n.all (bS t.lows i))∧fs=[]))) ?_ ?_
    ·intro h1
     rw[List.drop_length] at h1
     simp only[List.all_nil] at h1
     refine xA _ _ _ _ _ _ _ _ _ (an (by simp) (Hg _ _ _ _ _ _ _ _ _ _ _ ?_))
     rw[aC (by omega)]
     exact hnext (by rw[←h0];unfold bS;rw[←h1];simp)
    ·intro j x hj hx hdj htj hn2 h1
     rw[hdj,List.all_cons] at h1
     have gO:gL t.lows i x=false→mX C aX aj 4 0 nr TX.ret (oA (t.lows.map bC) (t.nodes.map aI) x.b x.a x.k x.c x.g) (fun u st=>av C aX aj u st fun r fs=>r=vB (n.all (bS t.lows i))∧fs=[]):=fun e=>Hf _ _ _ _ _ _ _ _ (Hh _ _ _ _ _ _ _ _ (by
      have e2:bS t.lows i s=false:=by unfold bS;rw[←h1,e];rfl
      rw[←h0,e2];exact⟨rfl,by first|rfl|trivial⟩))
     have gN:gL t.lows i x=true→ah C aX mj 3 2 (g8 i (n.map bX) (n.length:Int) k (s.map bu) ((j:Int)+1) (t.lows.map bC) (t.nodes.map aI)) (fun u st=>mX C aX aj 4 0 nr u st (fun u st=>av C aX aj u st fun r fs=>r=vB (n.all (bS t.lows i))∧fs=[])):=fun e=>hn2 (by rw[←h1,e];rfl)
     have e:gL t.lows i x=(!decide (gY x.b x.a<t.lows[i])&&(match t.lows[i+1]? with|some hi=>decide (gY x.b x.a<hi)|none=>true)):=by simp only[gL,Vc,hlo];rfl
     rw[e] at gO gN
     refine xA _ _ _ _ _ _ _ _ _ (ai (by simp;omega) ?_)
     rw[aC (a:=(i:Int)) (by omega),aC (a:=(j:Int)) (by omega)]
     simp only[jg,rz,aE,hx,hlo,Option.some.injEq,exists_eq_left',x9,exists_eq_left,eD,gz,bq,List.length_map,Int.ofNat_eq_natCast]
     by_cases h2:gY x.b x.a<t.lows[i]
     ·rw[if_pos h2]
      exact gO (by rw[decide_eq_true h2];rfl)
     ·rw[if_neg h2]
      by_cases h3:i+1<t.lows.length
      ·have hhi:t.lows[i+1]?=some t.lows[i+1]:=List.getElem?_eq_getElem h3
       rw[if_pos (by omega),show((i:Int)+1)=((i+1:Nat):Int) by omega,aE,hhi]
       simp only[Option.some.injEq,exists_eq_left']
       rw[hhi] at gO gN
       by_cases h4:gY x.b x.a<t.lows[i+1]
       ·rw[if_neg (by omega)]
        exact gN (by rw[decide_eq_false h2];simp[h4])
       ·rw[if_pos (by omega)]
        exact gO (by simp[h4])
      ·rw[if_neg (by omega)]
       have hno:t.lows[i+1]?=none:=List.getElem?_eq_none (by omega)
       rw[hno] at gN
       exact gN (by rw[decide_eq_false h2];rfl)
   exact keyI rfl
 exact key rfl
theorem Kk (t:Tree) (i:Nat) (n:List (List Key)) (ha:t.nodes[i]?=some n) (hlo:i<t.lows.length) (hl:cw t≤1073741824):aa C bA [c6 t,vI i] (vB (fI n&&((decide (i=0)|| !decide ((aJ n).length=0))&&n.all (bS t.lows i)))) []:=by
 have hz:aH n≤tot aH t.nodes:=lu (w:=aH) ha
 have e1:aH n=n.length+tot bH n:=rfl
 have e2:cw t=t.lows.length+(t.nodes.length+tot aH t.nodes):=rfl
 have hnk:=cU n
 refine(Pq _ _ _ _ ⟨_,cO (e:=aI) ha,_,tf n (by omega) (by omega),?_⟩).run
 cases h1:fI n with
 |false=>exact ai rfl ⟨rfl,by first|rfl|trivial⟩
 |true=>
  refine an rfl ?_
  have hloop:=Ir t i n hlo hl (by omega) (by omega)
  have conv: ∀B:Bool,B=n.all (bS t.lows i)→ah C bA au 4 0 (iq i 0 (t.lows.map bC) (t.nodes.map aI) (n.map bX)) (fun u st=>av C bA au u st fun r fs=>r=vB B∧fs=[]):=fun B hB=>by subst hB;exact hloop
  cases i with
  |zero=>exact an (by simp) (conv _ (by simp))
  |succ k=>
   refine ai (by first|(simp;done)|(simp;omega)) ⟨_,wm n (by omega) (by omega),?_⟩
   by_cases h2:(aJ n).length=0
   ·refine ai (by simp[h2]) ?_
    simp[h2]
   ·exact an (by simpa using h2) (conv _ (by simp[h2]))
theorem th (t:Tree) (hl:cw t≤1073741824):aa C aP [c6 t] (vB (eJ t)) []:=by
 have e2:cw t=t.lows.length+(t.nodes.length+tot aH t.nodes):=rfl
 refine(PD _ _ _ ?_).run
 simp only[Dy,exists_eq_left,List.length_map,Int.ofNat_eq_natCast,aD,bI]
 unfold eJ
 cases h1:jV (t.nodes.length:Int) 1 20 with
 |false=>exact an rfl ⟨rfl,by first|rfl|trivial⟩
 |true=>
  refine ai rfl ?_
  have hn1:1≤t.nodes.length:=by have:=of_decide_eq_true h1;omega
  by_cases h2:t.lows.length=t.nodes.length
  ·refine ai (by simp[h2]) ?_
   have h0:t.lows[0]?=some t.lows[0]:=List.getElem?_eq_getElem (by omega)
   have hz0:fP t.lows 0=some t.lows[0]:=by rw[show(0:Int)=((0:Nat):Int) from rfl,aE];exact h0
   simp only[rz,hz0,h0,Option.some.injEq,exists_eq_left',bq]
   by_cases h3:t.lows[0]=0
   ·rw[if_pos (by simpa using h3)]
    have hw:(true&&(decide (t.lows.length=t.nodes.length)&&((decide (t.lows[0]=0))&&(cM t.nodes.length (cP t)&&decide ((aB t).length≤60)))))=(cM t.nodes.length (cP t)&&decide ((aB t).length≤60)):=by simp[h2,h3]
    rw[hw]
    have key:((List.range' 0 (t.nodes.length-0)).all (cP t)&&decide ((aB t).length≤60))=(cM t.nodes.length (cP t)&&decide ((aB t).length≤60))→ah C aP ak 4 0 (jB ((0:Nat):Int) (t.lows.map bC) (t.nodes.map aI)) (fun u st=>av C aP ak u st fun r fs=>r=vB (cM t.nodes.length (cP t)&&decide ((aB t).length≤60))∧fs=[]):=by
     refine oR t.nodes.length (fun i=>((List.range' i (t.nodes.length-i)).all (cP t)&&decide ((aB t).length≤60))=(cM t.nodes.length (cP t)&&decide ((aB t).length≤60))→ah C aP ak 4 0 (jB i (t.lows.map bC) (t.nodes.map aI)) _) ?_ ?_
     ·intro h0
      rw[Nat.sub_self] at h0
      simp only[List.range'_zero,List.all_nil,Bool.true_and] at h0
      refine BW _ _ _ _ (an (by simp) (K5 _ _ _ _ _ ⟨_,jq t hl,?_⟩))
      rw[←h0]
      simp[gz]
      omega
     ·intro i hi hn h0
      rw[ki hi,List.all_cons] at h0
      have ha:t.nodes[i]?=some t.nodes[i]:=List.getElem?_eq_getElem hi
      have hli:t.lows[i]?=some t.lows[i]:=List.getElem?_eq_getElem (by omega)
      have gO:cP t i=false→av C aP ak TX.ret (nw (t.lows.map bC) (t.nodes.map aI)) (fun r fs=>r=vB (cM t.nodes.length (cP t)&&decide ((aB t).length≤60))∧fs=[]):=fun e=>K4 _ _ _ (by rw[←h0,e];exact⟨rfl,by first|rfl|trivial⟩)
      have gN:cP t i=true→ah C aP ak 4 0 (jB ((i:Int)+1) (t.lows.map bC) (t.nodes.map aI)) (fun u st=>av C aP ak u st fun r fs=>r=vB (cM t.nodes.length (cP t)&&decide ((aB t).length≤60))∧fs=[]):=fun e=>hn (by rw[←h0,e];rfl)
      have hh: ∀q,aa C bA [c6 t,vI i] (vB q) []↔q=_:=fun q=>rD (Kk t i t.nodes[i] ha (by omega) hl)
      refine BW _ _ _ _ (ai (by simp;omega) ?_)
      rw[aC (by omega)]
      simp only[hh,exists_eq_left,eD,gz,bq,bI]
      cases i with
      |zero=>
       have e:cP t 0=(fI t.nodes[0]&&((decide (0=0)|| !decide ((aJ t.nodes[0]).length=0))&&t.nodes[0].all (bS t.lows 0))):=by simp only[cP,hJ,ha,Bool.true_and]
       rw[e] at gO gN
       rw[if_neg (by omega)]
       exact p7 gN gO
      |succ k=>
       have hk:t.lows[k]?=some t.lows[k]:=List.getElem?_eq_getElem (by omega)
       have e:cP t (k+1)=(decide (t.lows[k]<t.lows[k+1])&&(fI t.nodes[k+1]&&((decide (k+1=0)|| !decide ((aJ t.nodes[k+1]).length=0))&&t.nodes[k+1].all (bS t.lows (k+1))))):=by simp only[cP,hJ,ha,hk,hli]
       rw[e] at gO gN
       rw[if_pos (by omega),eB (by omega),show((k+1:Nat):Int)-1=(k:Int) by omega]
       simp only[rz,aE,hk,hli,Option.some.injEq,exists_eq_left']
       by_cases h4:t.lows[k]<t.lows[k+1]
       ·rw[if_neg (by omega)]
        rw[decide_eq_true h4,Bool.true_and] at gO gN
        exact p7 gN gO
       ·rw[if_pos (by omega)]
        exact gO (by rw[decide_eq_false h4];rfl)
    exact key rfl
   ·rw[if_neg (by simpa using h3)]
    simp[h3]
  ·refine an (by simp;omega) ?_
   simp[h2]
theorem GL (t:Tree) (i:Nat) (n:List (List Key)) (ha:t.nodes[i]?=some n) (hlo:i<t.lows.length) (hl:cw t≤1073741824):aa C aX [c6 t,vI i] (vB (n.all (bS t.lows i))) []:=by
 have hz:aH n≤tot aH t.nodes:=lu (w:=aH) ha
 have e1:aH n=n.length+tot bH n:=rfl
 have e2:cw t=t.lows.length+(t.nodes.length+tot aH t.nodes):=rfl
 refine(Ld _ _ _ _ ⟨_,cO (e:=aI) ha,?_⟩).run
 simp only[List.length_map,Int.ofNat_eq_natCast]
 exact Fz t i n hlo hl (by omega) (by omega)
theorem tj (t:Tree) (hl:cw t≤1073741824):aa C bY [c6 t] (vB (eJ t)) []:=by
 have e2:cw t=t.lows.length+(t.nodes.length+tot aH t.nodes):=rfl
 refine(Pk _ _ _ ?_).run
 simp only[sQ,exists_eq_left,List.length_map,Int.ofNat_eq_natCast,aD,bI]
 unfold eJ
 cases h1:jV (t.nodes.length:Int) 1 20 with
 |false=>exact an rfl ⟨rfl,by first|rfl|trivial⟩
 |true=>
  refine ai rfl ?_
  have hn1:1≤t.nodes.length:=by have:=of_decide_eq_true h1;omega
  by_cases h2:t.lows.length=t.nodes.length
  ·refine ai (by simp[h2]) ?_
   have h0:t.lows[0]?=some t.lows[0]:=List.getElem?_eq_getElem (by omega)
   have hz0:fP t.lows 0=some t.lows[0]:=by rw[show(0:Int)=((0:Nat):Int) from rfl,aE];exact h0
   simp only[rz,hz0,h0,Option.some.injEq,exists_eq_left',bq]
   by_cases h3:t.lows[0]=0
   ·rw[if_pos (by simpa using h3)]
    have hw:(true&&(decide (t.lows.length=t.nodes.length)&&((decide (t.lows[0]=0))&&(cM t.nodes.length (cP t)&&decide ((aB t).length≤60)))))=(cM t.nodes.length (cP t)&&decide ((aB t).length≤60)):=by simp[h2,h3]
    rw[hw]
    have key: ∀c:Nat,c+((t.nodes.drop 0).flatMap aJ).length=(aB t).length→((List.range' 0 (t.nodes.length-0)).all (cP t)&&decide ((aB t).length≤60))=(cM t.nodes.length (cP t)&&decide ((aB t).length≤60))→ah C bY au 4 0 (gr c (t.nodes.map aI) ((0:Nat):Int) (t.lows.map bC)) (fun u st=>av C bY au u st fun r fs=>r=vB (cM t.nodes.length (cP t)&&decide ((aB t).length≤60))∧fs=[]):=by
     refine oR t.nodes.length (fun i=> ∀c:Nat,c+((t.nodes.drop i).flatMap aJ).length=(aB t).length→((List.range' i (t.nodes.length-i)).all (cP t)&&decide ((aB t).length≤60))=(cM t.nodes.length (cP t)&&decide ((aB t).length≤60))→ah C bY au 4 0 (gr c (t.nodes.map aI) i (t.lows.map bC)) _) ?_ ?_
     ·intro c hc h0
      rw[Nat.sub_self] at h0
      simp only[List.range'_zero,List.all_nil,Bool.true_and] at h0
      rw[List.drop_length] at hc
      simp at hc
      refine BN _ _ _ _ _ (an (by simp) (KH _ _ _ _ _ _ _ ?_))
      rw[←h0]
      simp[gz]
      omega
     ·intro i hi hn c hc h0
      rw[ki hi,List.all_cons] at h0
      have ha:t.nodes[i]?=some t.nodes[i]:=List.getElem?_eq_getElem hi
      have hli:t.lows[i]?=some t.lows[i]:=List.getElem?_eq_getElem (by omega)
      rw[List.drop_eq_getElem_cons hi,List.flatMap_cons,List.length_append] at hc
      have hz:aH t.nodes[i]≤tot aH t.nodes:=lu (w:=aH) ha
      have e1:aH t.nodes[i]=t.nodes[i].length+tot bH t.nodes[i]:=rfl
      have hnk:=cU t.nodes[i]
      have htk:=eI t
      have gO1:cP t i=false→av C bY au TX.ret (jz (t.lows.map bC) (t.nodes.map aI) (t.nodes[i].map bX)) (fun r fs=>r=vB (cM t.nodes.length (cP t)&&decide ((aB t).length≤60))∧fs=[]):=fun e=>KF _ _ _ _ (by rw[←h0,e];exact⟨rfl,by first|rfl|trivial⟩)
      have gO2:cP t i=false→av C bY au TX.ret (qm (t.lows.map bC) (t.nodes.map aI) (t.nodes[i].map bX) ((aJ t.nodes[i]).map bu)) (fun r fs=>r=vB (cM t.nodes.length (cP t)&&decide ((aB t).length≤60))∧fs=[]):=fun e=>KG _ _ _ _ _ (by rw[←h0,e];exact⟨rfl,by first|rfl|trivial⟩)
      have gN:cP t i=true→ah C bY au 4 0 (gr ((c:Int)+((aJ t.nodes[i]).length:Int)) (t.nodes.map aI) ((i:Int)+1) (t.lows.map bC)) (fun u st=>av C bY au u st fun r fs=>r=vB (cM t.nodes.length (cP t)&&decide ((aB t).length≤60))∧fs=[]):=fun e=>hn (c+(aJ t.nodes[i]).length) (by omega) (by rw[←h0,e];rfl)
      have hb: ∀q,aa C aX [c6 t,vI i] (vB q) []↔q=_:=fun q=>rD (GL t i t.nodes[i] ha (by omega) hl)
      have hk: ∀q,aa C cz [gx t.nodes[i]] (.c (.sub 5 q)) []↔q=(aJ t.nodes[i]).map bu:=fun q=>jy t.nodes[i] (by omega) (by omega) q
      have ho: ∀q,aa C bJ [gx t.nodes[i]] (vB q) []↔q=fI t.nodes[i]:=fun q=>O2 t.nodes[i] (by omega) (by omega) q
      refine BN _ _ _ _ _ (ai (by simp;omega) ?_)
      simp only[rB,aE,ha,Option.some.injEq,exists_eq_left',hb,hk,ho,exists_eq_left,eD,gz,aD,bq,bI,List.length_map,Int.ofNat_eq_natCast]
      rw[aC (a:=(c:Int)) (by omega),aC (a:=(i:Int)) (by omega)]
      cases i with
      |zero=>
       have e:cP t 0=(fI t.nodes[0]&&((decide (0=0)|| !decide ((aJ t.nodes[0]).length=0))&&t.nodes[0].all (bS t.lows 0))):=by simp only[cP,hJ,ha,Bool.true_and]
       rw[e] at gO1 gN
       have hzz: ¬((0:Int)<((0:Nat):Int)):=by omega
       simp only[if_neg hzz]
       cases h4:fI t.nodes[0] with
       |false=>exact an rfl (gO1 (by rw[h4];rfl))
       |true=>
        refine ai rfl ?_
        cases h5:t.nodes[0].all (bS t.lows 0) with
        |false=>exact an rfl (gO1 (by rw[h4,h5];simp))
        |true=>exact ai rfl (gN (by rw[h4,h5];simp))
      |succ k=>
       have hk1:t.lows[k]?=some t.lows[k]:=List.getElem?_eq_getElem (by omega)
       have e:cP t (k+1)=(decide (t.lows[k]<t.lows[k+1])&&(fI t.nodes[k+1]&&((decide (k+1=0)|| !decide ((aJ t.nodes[k+1]).length=0))&&t.nodes[k+1].all (bS t.lows (k+1))))):=by simp only[cP,hJ,ha,hk1,hli]
       rw[e] at gO1 gO2 gN
       have hzz:(0:Int)<((k+1:Nat):Int):=by omega
       simp only[if_pos hzz]
       rw[eB (by omega),show((k+1:Nat):Int)-1=(k:Int) by omega]
       simp only[rz,aE,hk1,hli,Option.some.injEq,exists_eq_left']
       by_cases h6:t.lows[k]<t.lows[k+1]
       ·rw[if_neg (by omega)]
        cases h4:fI t.nodes[k+1] with
        |false=>exact an rfl (gO1 (by rw[h4];simp))
        |true=>
         refine ai rfl ?_
         cases h5:t.nodes[k+1].all (bS t.lows (k+1)) with
         |false=>exact an rfl (gO1 (by rw[h4,h5];simp))
         |true=>
          refine ai rfl ?_
          by_cases h7:(aJ t.nodes[k+1]).length=0
          ·rw[if_pos (by omega)];exact gO2 (by rw[h4,h5];simp[h7])
          ·rw[if_neg (by omega)];exact gN (by rw[h4,h5,decide_eq_true h6];simp[h7])
       ·rw[if_pos (by omega)]
        exact gO1 (by rw[decide_eq_false h6];rfl)
    exact key 0 (by simp[aB]) rfl
   ·rw[if_neg (by simpa using h3)]
    simp[h3]
  ·refine an (by simp;omega) ?_
   simp[h2]
theorem Is (p:Pool) (hS:cY p≤4194304):aa C bw [gW p] (vB (iF p)) []:=by
 have hP:=fo hS
 have hname: ∀v∈p.vols,v.name.size≤140737488355328:=fun v hv=>by have:=nY (w:=qU) hv;have e:qU v=v.name.size:=rfl;omega
 refine(NP _ _ _ _ _ _ _ ?_).run
 unfold iF
 have key:((List.range' 0 (p.vols.length-0)).all (bZ p)&&decide (p.vols.length≤6))=(cM p.vols.length (bZ p)&&decide (p.vols.length≤6))→ah C bw aj 4 0 (j5 ((0:Nat):Int) (p.t.lows.map bC) (p.t.nodes.map aI) (p.ages.map bV) (p.cells.map bU) (p.vols.map dD) p.next) (fun u st=>av C bw aj u st fun r fs=>r=vB (cM p.vols.length (bZ p)&&decide (p.vols.length≤6))∧fs=[]):=by
  refine oR p.vols.length (fun i=>((List.range' i (p.vols.length-i)).all (bZ p)&&decide (p.vols.length≤6))=(cM p.vols.length (bZ p)&&decide (p.vols.length≤6))→ah C bw aj 4 0 (j5 i (p.t.lows.map bC) (p.t.nodes.map aI) (p.ages.map bV) (p.cells.map bU) (p.vols.map dD) p.next) (fun u st=>av C bw aj u st fun r fs=>r=vB (cM p.vols.length (bZ p)&&decide (p.vols.length≤6))∧fs=[])) ?_ ?_
  ·intro h0
   rw[Nat.sub_self] at h0
   simp only[List.range'_zero,List.all_nil,Bool.true_and] at h0
   refine zf _ _ _ _ _ _ _ _ (an (by simp) (IU _ _ _ _ _ _ _ _ _ ?_))
   rw[←h0]
   simp[gz]
   omega
  ·intro i hi hn h0
   rw[ki hi,List.all_cons] at h0
   have ha:p.vols[i]?=some p.vols[i]:=List.getElem?_eq_getElem hi
   have hv:=hname p.vols[i] (List.getElem_mem hi)
   have hkl:=Nk p.ages p.vols[i].age
   have gO1:bZ p i=false→av C bw aj TX.ret (j6 (p.t.lows.map bC) (p.t.nodes.map aI) (p.ages.map bV) (p.cells.map bU) (p.vols.map dD) p.next p.vols[i].name p.vols[i].age p.vols[i].size p.vols[i].fx) (fun r fs=>r=vB (cM p.vols.length (bZ p)&&decide (p.vols.length≤6))∧fs=[]):=fun e=>IS _ _ _ _ _ _ _ _ _ _ _ (by rw[←h0,e];exact⟨rfl,by first|rfl|trivial⟩)
   have gO2:bZ p i=false→av C bw aj TX.ret (pn (p.t.lows.map bC) (p.t.nodes.map aI) (p.ages.map bV) (p.cells.map bU) (p.vols.map dD) p.next p.vols[i].name p.vols[i].age p.vols[i].size p.vols[i].fx ((cZ p.ages p.vols[i].age).map bC)) (fun r fs=>r=vB (cM p.vols.length (bZ p)&&decide (p.vols.length≤6))∧fs=[]):=fun e=>IT _ _ _ _ _ _ _ _ _ _ _ _ (by rw[←h0,e];exact⟨rfl,by first|rfl|trivial⟩)
   have gN:bZ p i=true→ah C bw aj 4 0 (j5 ((i:Int)+1) (p.t.lows.map bC) (p.t.nodes.map aI) (p.ages.map bV) (p.cells.map bU) (p.vols.map dD) p.next) (fun u st=>av C bw aj u st fun r fs=>r=vB (cM p.vols.length (bZ p)&&decide (p.vols.length≤6))∧fs=[]):=fun e=>hn (by rw[←h0,e];rfl)
   have hin: ∀b:Bool,((p.vols.take i).any fun u=>decide (u.age=p.vols[i].age))=b→(b=true→bZ p i=false)→(b=false→bZ p i=true)→ah C bw mh 3 2 (iJ i 0 (p.t.lows.map bC) (p.t.nodes.map aI) (p.ages.map bV) (p.cells.map bU) (p.vols.map dD) p.next p.vols[i].name p.vols[i].age p.vols[i].size p.vols[i].fx) (fun u st=>mX C bw aj 4 0 uW u st (fun u st=>av C bw aj u st fun r fs=>r=vB (cM p.vols.length (bZ p)&&decide (p.vols.length≤6))∧fs=[])):=by
    intro b hb hbt hbf
    have keyI:(((p.vols.take i).drop 0).any fun u=>decide (u.age=p.vols[i].age))=b→ah C bw mh 3 2 (iJ i ((0:Nat):Int) (p.t.lows.map bC) (p.t.nodes.map aI) (p.ages.map bV) (p.cells.map bU) (p.vols.map dD) p.next p.vols[i].name p.vols[i].age p.vols[i].size p.vols[i].fx) (fun u st=>mX C bw aj 4 0 uW u st (fun u st=>av C bw aj u st fun r fs=>r=vB (cM p.vols.length (bZ p)&&decide (p.vols.length≤6))∧fs=[])):=by
     have hle:(p.vols.take i).length=i:=by simp;omega
     refine aV (p.vols.take i) (fun k=>(((p.vols.take i).drop k).any fun u=>decide (u.age=p.vols[i].age))=b→ah C bw mh 3 2 (iJ i k (p.t.lows.map bC) (p.t.nodes.map aI) (p.ages.map bV) (p.cells.map bU) (p.vols.map dD) p.next p.vols[i].name p.vols[i].age p.vols[i].size p.vols[i].fx) (fun u st=>mX C bw aj 4 0 uW u st (fun u st=>av C bw aj u st fun r fs=>r=vB (cM p.vols.length (bZ p)&&decide (p.vols.length≤6))∧fs=[]))) ?_ ?_
     ·intro h1
      rw[List.drop_length] at h1
      simp only[List.any_nil] at h1
      refine zg _ _ _ _ _ _ _ _ _ _ _ _ _ (an (by simp;omega) (IW _ _ _ _ _ _ _ _ _ _ _ _ _ ?_))
      rw[aC (by omega)]
      exact gN (hbf h1.symm)
     ·intro k u hk hu hd htk hn2 h1
      have hu':p.vols[k]?=some u:=by rw[←hu,List.getElem?_take];simp;omega
      rw[hd,List.any_cons] at h1
      refine zg _ _ _ _ _ _ _ _ _ _ _ _ _ (ai (by simp;omega) ?_)
      rw[aC (by omega)]
      simp only[xV,aE,hu',Option.some.injEq,exists_eq_left',aD,bq]
      by_cases h2:u.age=p.vols[i].age
      ·rw[if_pos h2]
       rw[decide_eq_true h2,Bool.true_or] at h1
       exact IV _ _ _ _ _ _ _ _ _ _ _ (gO1 (hbt h1.symm))
      ·rw[if_neg h2]
       rw[decide_eq_false h2,Bool.false_or] at h1
       exact hn2 h1
    exact keyI hb
   have hage: ∀z,aa C dJ [fE p.ages,vI p.vols[i].age] (vI z) []↔z=ee p.ages p.vols[i].age:=fun z=>As p.ages p.vols[i].age (by omega) z
   have hkid: ∀z,aa C eH [fE p.ages,vI p.vols[i].age] (.c (.sub 1 z)) []↔z=(cZ p.ages p.vols[i].age).map bC:=fun z=>TK (td p.ages p.vols[i].age (by omega))
   refine zf _ _ _ _ _ _ _ _ (ai (by simp;omega) ?_)
   simp only[xV,aE,ha,Option.some.injEq,exists_eq_left',OU p.vols[i].name hv,Dy,hage,hkid,exists_eq_left,bI,eD,bq,List.length_map,Int.ofNat_eq_natCast]
   cases h1:C9 p.vols[i].name with
   |false=>exact an rfl (gO1 (by simp[bZ,ha,h1]))
   |true=>
    refine ai rfl ?_
    cases h2:jV p.vols[i].size 1 12 with
    |false=>exact an rfl (gO1 (by simp[bZ,ha,h2]))
    |true=>
     refine ai rfl ?_
     by_cases h3:ee p.ages p.vols[i].age<0
     ·rw[if_pos h3];exact gO1 (by simp[bZ,ha,h3])
     ·rw[if_neg h3]
      by_cases h4:(cZ p.ages p.vols[i].age).length=0
      ·rw[if_neg (by omega)]
       cases i with
       |zero=>
        rw[if_neg (by omega)]
        exact hin _ rfl (fun e=>by simp at e) (fun e=>by simp[bZ,ha,h1,h2,h3,h4,hJ])
       |succ k=>
        have hk:p.vols[k]?=some p.vols[k]:=List.getElem?_eq_getElem (by omega)
        rw[if_pos (by omega),eB (by omega),show((k+1:Nat):Int)-1=(k:Int) by omega]
        simp only[aE,hk,Option.some.injEq,exists_eq_left']
        cases h5:Oy p.vols[k].name p.vols[k+1].name with
        |false=>exact an rfl (gO2 (by simp[bZ,ha,hk,hJ,h5]))
        |true=>exact ai rfl (hin _ rfl (fun e=>by simp only[bZ,ha,e];simp) (fun e=>by simp only[bZ,ha,hk,hJ,h5,h1,h2,e];simp[h3,h4]))
      ·rw[if_pos (by omega)];exact gO2 (by simp[bZ,ha,h4])
 exact key rfl
theorem Kl (p:Pool) (hS:cY p≤4194304):aa C dM [gW p] (vB (iF p)) []:=by
 have hP:=fo hS
 have hname: ∀v∈p.vols,v.name.size≤140737488355328:=fun v hv=>by have:=nY (w:=qU) hv;have e:qU v=v.name.size:=rfl;omega
 refine(Qi _ _ _ _ _ _ _ ?_).run
 unfold iF
 have key:((List.range' 0 (p.vols.length-0)).all (bZ p)&&decide (p.vols.length≤6))=(cM p.vols.length (bZ p)&&decide (p.vols.length≤6))→ah C dM aj 4 0 (jG (p.vols.map dD) ((0:Nat):Int) (p.t.lows.map bC) (p.t.nodes.map aI) (p.ages.map bV) (p.cells.map bU) p.next) (fun u st=>av C dM aj u st fun r fs=>r=vB (cM p.vols.length (bZ p)&&decide (p.vols.length≤6))∧fs=[]):=by
  refine oR p.vols.length (fun i=>((List.range' i (p.vols.length-i)).all (bZ p)&&decide (p.vols.length≤6))=(cM p.vols.length (bZ p)&&decide (p.vols.length≤6))→ah C dM aj 4 0 (jG (p.vols.map dD) i (p.t.lows.map bC) (p.t.nodes.map aI) (p.ages.map bV) (p.cells.map bU) p.next) (fun u st=>av C dM aj u st fun r fs=>r=vB (cM p.vols.length (bZ p)&&decide (p.vols.length≤6))∧fs=[])) ?_ ?_
  ·intro h0
   rw[Nat.sub_self] at h0
   simp only[List.range'_zero,List.all_nil,Bool.true_and] at h0
   refine Cp _ _ _ _ _ _ _ _ (an (by simp) (LX _ _ _ _ _ _ _ _ _ _ ?_))
   rw[←h0]
   simp[gz]
   omega
  ·intro i hi hn h0
   rw[ki hi,List.all_cons] at h0
   have ha:p.vols[i]?=some p.vols[i]:=List.getElem?_eq_getElem hi
   have hv:=hname p.vols[i] (List.getElem_mem hi)
   have hkl:=Nk p.ages p.vols[i].age
   have gO1:bZ p i=false→av C dM aj TX.ret (iw (p.t.lows.map bC) (p.t.nodes.map aI) (p.ages.map bV) (p.cells.map bU) (p.vols.map dD) p.next p.vols[i].name p.vols[i].age p.vols[i].size p.vols[i].fx) (fun r fs=>r=vB (cM p.vols.length (bZ p)&&decide (p.vols.length≤6))∧fs=[]):=fun e=>LV _ _ _ _ _ _ _ _ _ _ _ (by rw[←h0,e];exact⟨rfl,by first|rfl|trivial⟩)
   have gO2:bZ p i=false→av C dM aj TX.ret (kQ (p.t.lows.map bC) (p.t.nodes.map aI) (p.ages.map bV) (p.cells.map bU) (p.vols.map dD) p.next p.vols[i].name p.vols[i].age p.vols[i].size p.vols[i].fx ((cZ p.ages p.vols[i].age).map bC)) (fun r fs=>r=vB (cM p.vols.length (bZ p)&&decide (p.vols.length≤6))∧fs=[]):=fun e=>LW _ _ _ _ _ _ _ _ _ _ _ _ (by rw[←h0,e];exact⟨rfl,by first|rfl|trivial⟩)
   have gN:bZ p i=true→ah C dM aj 4 0 (jG (p.vols.map dD) ((i:Int)+1) (p.t.lows.map bC) (p.t.nodes.map aI) (p.ages.map bV) (p.cells.map bU) p.next) (fun u st=>av C dM aj u st fun r fs=>r=vB (cM p.vols.length (bZ p)&&decide (p.vols.length≤6))∧fs=[]):=fun e=>hn (by rw[←h0,e];rfl)
   have hage: ∀z,aa C iG [fE p.ages,vI p.vols[i].age] (vI z) []↔z=ee p.ages p.vols[i].age:=fun z=>At p.ages p.vols[i].age (by omega) z
   have hkid: ∀z,aa C ef [fE p.ages,vI p.vols[i].age] (.c (.sub 1 z)) []↔z=(cZ p.ages p.vols[i].age).map bC:=fun z=>TK (qk p.ages p.vols[i].age (by omega))
   have hcut:aA (p.vols.map dD) 0 (i:Int)=(p.vols.take i).map dD:=by rw[cu,Int.toNat_natCast];rfl
   have hcin:eT 0 (i:Int) (p.vols.length:Int)=true:=by simp;omega
   have hhas: ∀z,aa C dI [yw (p.vols.take i),.fn nO [[iS p.vols[i].name,iI p.vols[i].age,iI p.vols[i].size,iB p.vols[i].fx]]] (vB z) []↔z=(p.vols.take i).any fun u=>decide (u.age=p.vols[i].age):=fun z=>rD (CD (p.vols.take i) _ _ _ _ (by simp;omega))
   refine Cp _ _ _ _ _ _ _ _ (ai (by simp;omega) ?_)
   simp only[hcut,xV,aE,ha,Option.some.injEq,exists_eq_left',OV p.vols[i].name hv,sQ,hage,hkid,hhas,exists_eq_left,bI,eD,bq,List.length_map,Int.ofNat_eq_natCast]
   rw[aC (by omega)]
   cases h1:C9 p.vols[i].name with
   |false=>exact an rfl (gO1 (by simp[bZ,ha,h1]))
   |true=>
    refine ai rfl ?_
    cases i with
    |zero=>
     rw[if_neg (by omega)]
     cases h2:jV p.vols[0].size 1 12 with
     |false=>exact an rfl (gO1 (by simp[bZ,ha,h2]))
     |true=>
      refine ai rfl ?_
      by_cases h3:ee p.ages p.vols[0].age<0
      ·rw[if_pos h3];exact gO1 (by simp[bZ,ha,h3])
      ·rw[if_neg h3]
       by_cases h4:(cZ p.ages p.vols[0].age).length=0
       ·rw[if_neg (by omega)]
        refine ai hcin ?_
        cases h6:(p.vols.take (0)).any fun u=>decide (u.age=p.vols[0].age) with
        |true=>exact ai rfl (gO2 (by simp only[bZ,ha,h6];simp))
        |false=>exact an rfl (gN (by simp only[bZ,ha,h6,h1,h2,hJ];simp[h3,h4]))
       ·rw[if_pos (by omega)];exact gO2 (by simp[bZ,ha,h4])
    |succ k=>
     have hk:p.vols[k]?=some p.vols[k]:=List.getElem?_eq_getElem (by omega)
     rw[if_pos (by omega),eB (by omega),show((k+1:Nat):Int)-1=(k:Int) by omega]
     simp only[aE,hk,Option.some.injEq,exists_eq_left']
     cases h5:Oy p.vols[k].name p.vols[k+1].name with
     |false=>exact an rfl (gO1 (by simp[bZ,ha,hk,hJ,h5]))
     |true=>
      refine ai rfl ?_
      cases h2:jV p.vols[k+1].size 1 12 with
      |false=>exact an rfl (gO1 (by simp[bZ,ha,h2]))
      |true=>
       refine ai rfl ?_
       by_cases h3:ee p.ages p.vols[k+1].age<0
       ·rw[if_pos h3];exact gO1 (by simp[bZ,ha,h3])
       ·rw[if_neg h3]
        by_cases h4:(cZ p.ages p.vols[k+1].age).length=0
        ·rw[if_neg (by omega)]
         refine ai hcin ?_
         cases h6:(p.vols.take (k+1)).any fun u=>decide (u.age=p.vols[k+1].age) with
         |true=>exact ai rfl (gO2 (by simp only[bZ,ha,h6];simp))
         |false=>exact an rfl (gN (by simp only[bZ,ha,h6,h1,h2,hJ,hk,h5];simp[h3,h4]))
        ·rw[if_pos (by omega)];exact gO2 (by simp[bZ,ha,h4])
 exact key rfl
theorem Y8:pT 24=24:=by unfold pT;rfl
theorem g24 {n:Nat} (h:n≤1000):(true&&dB 24 24&&oF 0 24&&fits (pT 24) n)=true:=by rw[Y8,cW (by omega)];simp
theorem ace:(o8 []).map JQ=List.replicate 24 [iB false]:=by rw[TN];rfl
theorem Iu (p:Pool) (hS:cY p≤4194304):aa C bG [gW p] (vB (iT p)) []:=by
 have hP:=fo hS
 have htl:=eI p.t
 refine(N4 _ _ _ _ _ _ _ ?_).run
 refine⟨_,jq p.t (by omega),?_⟩
 unfold iT
 generalize aB p.t=L at*
 have hdk:cc L≤L.length:=List.length_filter_le _ _
 have key: ∀c:Nat,c+cc (L.drop 0)=cc L→((List.range' 0 (L.length-0)).all (cJ p L)&&decide ((bQ p.cells:Int)=cc L))=(cM L.length (cJ p L)&&decide ((bQ p.cells:Int)=cc L))→ah C bG au 4 0 (iL (c:Int) ((0:Nat):Int) (p.t.lows.map bC) (p.t.nodes.map aI) (p.ages.map bV) (p.cells.map bU) (p.vols.map dD) p.next (L.map bu)) (fun u st=>av C bG au u st fun r fs=>r=vB (cM L.length (cJ p L)&&decide ((bQ p.cells:Int)=cc L))∧fs=[]):=by
  refine oR L.length (fun i=> ∀c:Nat,c+cc (L.drop i)=cc L→((List.range' i (L.length-i)).all (cJ p L)&&decide ((bQ p.cells:Int)=cc L))=(cM L.length (cJ p L)&&decide ((bQ p.cells:Int)=cc L))→ah C bG au 4 0 (iL (c:Int) i (p.t.lows.map bC) (p.t.nodes.map aI) (p.ages.map bV) (p.cells.map bU) (p.vols.map dD) p.next (L.map bu)) (fun u st=>av C bG au u st fun r fs=>r=vB (cM L.length (cJ p L)&&decide ((bQ p.cells:Int)=cc L))∧fs=[])) ?_ ?_
  ·intro c hc h0
   rw[Nat.sub_self] at h0
   simp only[List.range'_zero,List.all_nil,Bool.true_and] at h0
   rw[List.drop_length] at hc
   have hc0:c=cc L:=by simpa [cc] using hc
   subst hc0
   refine zo _ _ _ _ _ _ _ _ _ _ (an (by simp) (Jb _ _ _ _ _ _ _ _ _ _ _ ⟨_,Ft p.cells (by omega),?_⟩))
   rw[←h0]
   refine⟨?_,by first|rfl|trivial⟩
   simp[aD,eq_comm]
  ·intro i hi hn c hc h0
   rw[ki hi,List.all_cons] at h0
   have ha:L[i]?=some L[i]:=List.getElem?_eq_getElem hi
   rw[List.drop_eq_getElem_cons hi,EE] at hc
   have gO1:cJ p L i=false→av C bG au TX.ret (mN (p.t.lows.map bC) (p.t.nodes.map aI) (p.ages.map bV) (p.cells.map bU) (p.vols.map dD) p.next (L.map bu)) (fun r fs=>r=vB (cM L.length (cJ p L)&&decide ((bQ p.cells:Int)=cc L))∧fs=[]):=fun e=>Ja _ _ _ _ _ _ _ _ (by rw[←h0,e];exact⟨rfl,by first|rfl|trivial⟩)
   have gN: ∀c':Nat,c'+cc (L.drop (i+1))=cc L→cJ p L i=true→ah C bG au 4 0 (iL (c':Int) ((i:Int)+1) (p.t.lows.map bC) (p.t.nodes.map aI) (p.ages.map bV) (p.cells.map bU) (p.vols.map dD) p.next (L.map bu)) (fun u st=>av C bG au u st fun r fs=>r=vB (cM L.length (cJ p L)&&decide ((bQ p.cells:Int)=cc L))∧fs=[]):=fun c' e' e=>hn c' e' (by rw[←h0,e];rfl)
   have hin: ∀b:Bool,((L.take i).any fun x=>decide (x.k=1)&&decide (x.c=L[i].c))=b→(b=true→cJ p L i=false)→(b=false→cJ p L i=true)→L[i].k=1→ah C bG gE 3 2 (iM c i 0 (p.t.lows.map bC) (p.t.nodes.map aI) (p.ages.map bV) (p.cells.map bU) (p.vols.map dD) p.next (L.map bu)) (fun u st=>mX C bG au 4 0 qZ u st (fun u st=>av C bG au u st fun r fs=>r=vB (cM L.length (cJ p L)&&decide ((bQ p.cells:Int)=cc L))∧fs=[])):=by
    intro b hb hbt hbf hk1
    rw[if_pos hk1] at hc
    have keyI:(((L.take i).drop 0).any fun x=>decide (x.k=1)&&decide (x.c=L[i].c))=b→ah C bG gE 3 2 (iM c i ((0:Nat):Int) (p.t.lows.map bC) (p.t.nodes.map aI) (p.ages.map bV) (p.cells.map bU) (p.vols.map dD) p.next (L.map bu)) (fun u st=>mX C bG au 4 0 qZ u st (fun u st=>av C bG au u st fun r fs=>r=vB (cM L.length (cJ p L)&&decide ((bQ p.cells:Int)=cc L))∧fs=[])):=by
     have hle:(L.take i).length=i:=by simp;omega
     refine aV (L.take i) (fun k=>(((L.take i).drop k).any fun x=>decide (x.k=1)&&decide (x.c=L[i].c))=b→ah C bG gE 3 2 (iM c i k (p.t.lows.map bC) (p.t.nodes.map aI) (p.ages.map bV) (p.cells.map bU) (p.vols.map dD) p.next (L.map bu)) (fun u st=>mX C bG au 4 0 qZ u st (fun u st=>av C bG au u st fun r fs=>r=vB (cM L.length (cJ p L)&&decide ((bQ p.cells:Int)=cc L))∧fs=[]))) ?_ ?_
     ·intro h1
      rw[List.drop_length] at h1
      simp only[List.any_nil] at h1
      refine zp _ _ _ _ _ _ _ _ _ _ _ (an (by simp;omega) (Jd _ _ _ _ _ _ _ _ _ _ _ ?_))
      rw[aC (by omega),aC (by omega)]
      exact gN (c+1) (by omega) (hbf h1.symm)
     ·intro k u hk hu hd htk hn2 h1
      have hu':L[k]?=some u:=by rw[←hu,List.getElem?_take];simp;omega
      rw[hd,List.any_cons] at h1
      refine zp _ _ _ _ _ _ _ _ _ _ _ (ai (by simp;omega) ?_)
      rw[aC (by omega)]
      simp only[jg,aE,hu',ha,Option.some.injEq,exists_eq_left',aD,bq]
      by_cases h3:u.k=1
      ·rw[if_pos h3]
       by_cases h2:u.c=L[i].c
       ·rw[if_pos h2]
        rw[decide_eq_true h3,decide_eq_true h2,Bool.and_self,Bool.true_or] at h1
        exact Jc _ _ _ _ _ _ _ _ (gO1 (hbt h1.symm))
       ·rw[if_neg h2]
        rw[decide_eq_false h2,Bool.and_false,Bool.false_or] at h1
        exact hn2 h1
      ·rw[if_neg h3]
       rw[decide_eq_false h3,Bool.false_and,Bool.false_or] at h1
       exact hn2 h1
    exact keyI hb
   have hage: ∀z,aa C dJ [fE p.ages,vI L[i].a] (vI z) []↔z=ee p.ages L[i].a:=fun z=>As p.ages L[i].a (by omega) z
   have hcell: ∀n b,aa C sM [iz p.cells,vI L[i].c,vI L[i].g] (.tu [(0,[iI n]),(0,[iB b])]) []↔n=(cellAt p.cells L[i].c L[i].g).1∧b=(cellAt p.cells L[i].c L[i].g).2:=fun n b=>OR p.cells (by omega) _ _ n b
   refine zo _ _ _ _ _ _ _ _ _ _ (ai (by simp;omega) ?_)
   simp only[jg,aE,ha,Option.some.injEq,exists_eq_left',hage,hcell,and_assoc,exists_and_left,exists_eq_left,eD,aD,bI,bq]
   rw[aC (a:=(i:Int)) (by omega)]
   by_cases h1:ee p.ages L[i].a<0
   ·rw[if_pos h1];exact gO1 (by simp[cJ,ha,h1])
   ·rw[if_neg h1]
    by_cases h2:L[i].k=1
    ·rw[if_pos h2]
     cases h3:(cellAt p.cells L[i].c L[i].g).2 with
     |false=>exact an rfl (gO1 (by simp[cJ,ha,h2,h3]))
     |true=>
      refine ai rfl ?_
      exact hin _ rfl (fun e=>by simp only[cJ,ha,e,h2];simp) (fun e=>by simp only[cJ,ha,e,h2,h3];simp[h1]) h2
    ·rw[if_neg h2]
     rw[if_neg h2] at hc
     exact gN c (by omega) (by simp[cJ,ha,h1,h2])
 exact key 0 (by simp) rfl
theorem Iv (p:Pool) (hS:cY p≤4194304) (h24:p.cells.length=24):aa C dN [gW p] (vB (iT p)) []:=by
 have hP:=fo hS
 have htl:=eI p.t
 refine(NQ _ _ _ _ _ _ _ ?_).run
 refine ai (g24 (by omega)) ⟨_,jr p.t (by omega),?_⟩
 unfold iT
 generalize aB p.t=L at*
 have hdk:cc L≤L.length:=List.length_filter_le _ _
 have key: ∀c:Nat,c+cc (L.drop 0)=cc L→((List.range' 0 (L.length-0)).all (cJ p L)&&decide ((bQ p.cells:Int)=cc L))=(cM L.length (cJ p L)&&decide ((bQ p.cells:Int)=cc L))→ah C dN au 4 0 (iK (c:Int) (L.map bu) ((0:Nat):Int) (p.t.lows.map bC) (p.t.nodes.map aI) (p.ages.map bV) (p.cells.map bU) (p.vols.map dD) p.next ((o8 (L.take 0)).map JQ)) (fun u st=>av C dN au u st fun r fs=>r=vB (cM L.length (cJ p L)&&decide ((bQ p.cells:Int)=cc L))∧fs=[]):=by
  refine oR L.length (fun i=> ∀c:Nat,c+cc (L.drop i)=cc L→((List.range' i (L.length-i)).all (cJ p L)&&decide ((bQ p.cells:Int)=cc L))=(cM L.length (cJ p L)&&decide ((bQ p.cells:Int)=cc L))→ah C dN au 4 0 (iK (c:Int) (L.map bu) i (p.t.lows.map bC) (p.t.nodes.map aI) (p.ages.map bV) (p.cells.map bU) (p.vols.map dD) p.next ((o8 (L.take i)).map JQ)) (fun u st=>av C dN au u st fun r fs=>r=vB (cM L.length (cJ p L)&&decide ((bQ p.cells:Int)=cc L))∧fs=[])) ?_ ?_
  ·intro c hc h0
   rw[Nat.sub_self] at h0
   simp only[List.range'_zero,List.all_nil,Bool.true_and] at h0
   rw[List.drop_length] at hc
   have hc0:c=cc L:=by simpa [cc] using hc
   subst hc0
   refine zh _ _ _ _ _ _ _ _ _ _ _ (an (by simp) (IY _ _ _ _ _ _ _ _ _ _ _ _ _ ⟨_,Fu p.cells (by omega),?_⟩))
   rw[←h0]
   refine⟨?_,by first|rfl|trivial⟩
   simp[aD,eq_comm]
  ·intro i hi hn c hc h0
   rw[ki hi,List.all_cons] at h0
   have ha:L[i]?=some L[i]:=List.getElem?_eq_getElem hi
   rw[List.drop_eq_getElem_cons hi,EE] at hc
   have gO1: ∀u,cJ p L i=false→av C dN au TX.ret (mJ (p.t.lows.map bC) (p.t.nodes.map aI) (p.ages.map bV) (p.cells.map bU) (p.vols.map dD) p.next L[i].b L[i].a L[i].k L[i].c L[i].g u (L.map bu)) (fun r fs=>r=vB (cM L.length (cJ p L)&&decide ((bQ p.cells:Int)=cc L))∧fs=[]):=fun u e=>IX _ _ _ _ _ _ _ _ _ _ _ _ _ _ (by rw[←h0,e];exact⟨rfl,by first|rfl|trivial⟩)
   have ht1:L.take (i+1)=L.take i++[L[i]]:=by rw[List.take_add_one,ha];rfl
   have gN: ∀c':Nat,c'+cc (L.drop (i+1))=cc L→cJ p L i=true→ah C dN au 4 0 (iK (c':Int) (L.map bu) ((i:Int)+1) (p.t.lows.map bC) (p.t.nodes.map aI) (p.ages.map bV) (p.cells.map bU) (p.vols.map dD) p.next ((o8 (L.take (i+1))).map JQ)) (fun u st=>av C dN au u st fun r fs=>r=vB (cM L.length (cJ p L)&&decide ((bQ p.cells:Int)=cc L))∧fs=[]):=fun c' e' e=>hn c' e' (by rw[←h0,e];rfl)
   have hage: ∀z,aa C iG [fE p.ages,vI L[i].a] (vI z) []↔z=ee p.ages L[i].a:=fun z=>At p.ages L[i].a (by omega) z
   have hcell: ∀n b,aa C sN [iz p.cells,vI L[i].c,vI L[i].g] (.tu [(0,[iI n]),(0,[iB b])]) []↔n=(cellAt p.cells L[i].c L[i].g).1∧b=(cellAt p.cells L[i].c L[i].g).2:=fun n b=>OT p.cells (by omega) _ _ n b
   refine zh _ _ _ _ _ _ _ _ _ _ _ (ai (by simp;omega) ?_)
   simp only[jg,aE,ha,Option.some.injEq,exists_eq_left',hage,hcell,and_assoc,exists_and_left,exists_eq_left,eD,aD,bI,bq]
   rw[aC (a:=(i:Int)) (by omega)]
   by_cases h1:ee p.ages L[i].a<0
   ·rw[if_pos h1];exact gO1 _ (by simp[cJ,ha,h1])
   ·rw[if_neg h1]
    by_cases h2:L[i].k=1
    ·rw[if_pos h2]
     cases h3:(cellAt p.cells L[i].c L[i].g).2 with
     |false=>exact an rfl (gO1 _ (by simp[cJ,ha,h2,h3]))
     |true=>
      refine ai rfl ?_
      have hci:=WN h3
      rw[h24] at hci
      simp only[aaf,TO (L.take i) hci,Option.some.injEq,exists_eq_left',exists_eq_left,aag]
      cases h4:(L.take i).any fun x=>decide (x.k=1)&&decide (x.c=L[i].c) with
      |true=>exact ai rfl (gO1 _ (by simp only[cJ,ha,h4,h2];simp))
      |false=>
       refine an rfl ?_
       rw[TP (L.take i) L[i] h2 hci,←ht1,aC (a:=(c:Int)) (by omega)]
       rw[if_pos h2] at hc
       exact gN (c+1) (by omega) (by simp only[cJ,ha,h4,h2,h3];simp[h1])
    ·rw[if_neg h2]
     rw[if_neg h2] at hc
     have hg:=gN c (by omega) (by simp[cJ,ha,h1,h2])
     rw[ht1,R6 _ _ h2] at hg
     exact hg
 rw[Y8,←ace];exact key 0 (by simp) rfl
def jS (n:Int) (a:Age):Bool:=decide (a.id<n)
theorem WX (p:Pool):jh p=(p.ages.all (jS p.next)&&(eJ p.t&&(gV p.ages&&(e9 p.cells&&(jV p.next 1 61&&(iF p&&iT p)))))):=rfl
theorem aay {l:List Cell} (h:e9 l=true):l.length=24:=by simp[e9] at h;omega
theorem Iw (p:Pool) (hS:cY p≤4194304):aa C cD [gW p] (vB ((p.ages.all (jS p.next)&&(eJ p.t&&(gV p.ages&&(e9 p.cells&&(jV p.next 1 61&&(iF p&&iT p)))))))) []:=by
 refine(Qb _ _ _ _ _ _ _ ?_).run
 have hP:=fo hS
 have htl:=eI p.t
 have key:((p.ages.drop 0).all (jS p.next)&&(eJ p.t&&(gV p.ages&&(e9 p.cells&&(jV p.next 1 61&&(iF p&&iT p))))))=(p.ages.all (jS p.next)&&(eJ p.t&&(gV p.ages&&(e9 p.cells&&(jV p.next 1 61&&(iF p&&iT p))))))→ah C cD aj 4 0 (kP ((0:Nat):Int) (p.t.lows.map bC) (p.t.nodes.map aI) (p.ages.map bV) (p.cells.map bU) (p.vols.map dD) p.next) (fun u st=>av C cD aj u st fun r fs=>r=vB ((p.ages.all (jS p.next)&&(eJ p.t&&(gV p.ages&&(e9 p.cells&&(jV p.next 1 61&&(iF p&&iT p)))))))∧fs=[]):=by
  refine aV p.ages (fun i=>((p.ages.drop i).all (jS p.next)&&(eJ p.t&&(gV p.ages&&(e9 p.cells&&(jV p.next 1 61&&(iF p&&iT p))))))=(p.ages.all (jS p.next)&&(eJ p.t&&(gV p.ages&&(e9 p.cells&&(jV p.next 1 61&&(iF p&&iT p))))))→ah C cD aj 4 0 (kP i (p.t.lows.map bC) (p.t.nodes.map aI) (p.ages.map bV) (p.cells.map bU) (p.vols.map dD) p.next) (fun u st=>av C cD aj u st fun r fs=>r=vB ((p.ages.all (jS p.next)&&(eJ p.t&&(gV p.ages&&(e9 p.cells&&(jV p.next 1 61&&(iF p&&iT p)))))))∧fs=[])) ?_ ?_
  ·intro h0
   refine Ck _ _ _ _ _ _ _ _ (an (by simp) (LL _ _ _ _ _ _ _ _ _ ?_))
   rw[List.drop_length] at h0
   simp only[List.all_nil,Bool.true_and] at h0
   rw[←h0]
   refine⟨_,th p.t (by omega),?_⟩
   cases h1:eJ p.t with
   |false=>exact an rfl ⟨rfl,by first|rfl|trivial⟩
   |true=>
    refine ai rfl ⟨_,(O1 p.ages (by omega) (gV p.ages)).2 rfl,?_⟩
    cases h2:gV p.ages with
    |false=>exact an rfl ⟨rfl,by first|rfl|trivial⟩
    |true=>
     refine ai rfl ⟨_,(DB p.cells (by omega) (e9 p.cells)).2 rfl,?_⟩
     cases h3:e9 p.cells with
     |false=>exact an rfl ⟨rfl,by first|rfl|trivial⟩
     |true=>
      refine ai rfl ⟨_,Dx p.next 1 61,?_⟩
      cases h4:jV p.next 1 61 with
      |false=>exact an rfl ⟨rfl,by first|rfl|trivial⟩
      |true=>
       refine ai rfl ⟨_,Is p hS,?_⟩
       cases h5:iF p with
       |false=>exact an rfl ⟨rfl,by first|rfl|trivial⟩
       |true=>exact ai rfl ⟨_,Iu p hS,⟨rfl,by first|rfl|trivial⟩⟩
  ·intro i a hi ha hd htk hn h0
   have gO:(jS p.next) a=false→(p.ages.all (jS p.next)&&(eJ p.t&&(gV p.ages&&(e9 p.cells&&(jV p.next 1 61&&(iF p&&iT p))))))=false:=fun e=>by rw[←h0,hd];simp[e]
   have gN:(jS p.next) a=true→ah C cD aj 4 0 (kP ((i:Int)+1) (p.t.lows.map bC) (p.t.nodes.map aI) (p.ages.map bV) (p.cells.map bU) (p.vols.map dD) p.next) (fun u st=>av C cD aj u st fun r fs=>r=vB ((p.ages.all (jS p.next)&&(eJ p.t&&(gV p.ages&&(e9 p.cells&&(jV p.next 1 61&&(iF p&&iT p)))))))∧fs=[]):=fun e=>hn (by rw[←h0,hd];simp[e])
   refine Ck _ _ _ _ _ _ _ _ (ai (by simp;omega) ?_)
   simp only[rA,aE,ha,Option.some.injEq,exists_eq_left',gz,bq]
   rw[aC (by omega)]
   by_cases h1:p.next≤a.id
   ·rw[if_pos h1];exact LK _ _ _ _ _ _ _ (by rw[gO (by simp[jS];omega)];exact⟨rfl,by first|rfl|trivial⟩)
   ·rw[if_neg h1];exact gN (by simp[jS];omega)
 exact key rfl
theorem nj (p:Pool) (hS:cY p≤4194304):aa C cD [gW p] (vB (jh p)) []:=Iw p hS
theorem nq (p:Pool) (hS:cY p≤4194304):aa C fU [gW p] (vB (jh p)) []:=by
 have hP:=fo hS
 rw[WX]
 refine(Pz _ _ _ _ _ _ _ ?_).run
 refine⟨_,tj p.t (by omega),?_⟩
 cases h1:eJ p.t with
 |false=>exact ai rfl ⟨by simp,by first|rfl|trivial⟩
 |true=>
  refine an rfl ⟨_,(O3 p.ages (by omega) (gV p.ages)).2 rfl,?_⟩
  cases h2:gV p.ages with
  |false=>exact ai rfl ⟨by simp,by first|rfl|trivial⟩
  |true=>
   refine an rfl ⟨_,(DC p.cells (by omega) (e9 p.cells)).2 rfl,?_⟩
   cases h3:e9 p.cells with
   |false=>exact ai rfl ⟨by simp,by first|rfl|trivial⟩
   |true=>
    refine an rfl ⟨_,uQ p.next 1 61,?_⟩
    cases h4:jV p.next 1 61 with
    |false=>exact ai rfl ⟨by simp,by first|rfl|trivial⟩
    |true=>
     refine an rfl ?_
     simp only[Bool.true_and]
     have key:((p.ages.drop 0).all (jS p.next)&&(iF p&&iT p))=(p.ages.all (jS p.next)&&(iF p&&iT p))→ah C fU ak 4 0 (nv (p.ages.map bV) ((0:Nat):Int) (p.t.lows.map bC) (p.t.nodes.map aI) (p.cells.map bU) (p.vols.map dD) p.next) (fun u st=>av C fU ak u st fun r fs=>r=vB (p.ages.all (jS p.next)&&(iF p&&iT p))∧fs=[]):=by
      refine aV p.ages (fun i=>((p.ages.drop i).all (jS p.next)&&(iF p&&iT p))=(p.ages.all (jS p.next)&&(iF p&&iT p))→ah C fU ak 4 0 (nv (p.ages.map bV) i (p.t.lows.map bC) (p.t.nodes.map aI) (p.cells.map bU) (p.vols.map dD) p.next) (fun u st=>av C fU ak u st fun r fs=>r=vB (p.ages.all (jS p.next)&&(iF p&&iT p))∧fs=[])) ?_ ?_
      ·intro h0
       rw[List.drop_length] at h0
       simp only[List.all_nil,Bool.true_and] at h0
       refine BT _ _ _ _ _ _ _ _ (an (by simp) (KX _ _ _ _ _ _ _ _ _ _ ⟨_,Kl p hS,?_⟩))
       rw[←h0]
       cases h5:iF p with
       |false=>exact an rfl ⟨rfl,by first|rfl|trivial⟩
       |true=>exact ai rfl ⟨_,Iv p hS (aay h3),⟨rfl,by first|rfl|trivial⟩⟩
      ·intro i a hi ha hd htk hn h0
       rw[hd,List.all_cons] at h0
       refine BT _ _ _ _ _ _ _ _ (ai (by simp;omega) ?_)
       simp only[rA,aE,ha,Option.some.injEq,exists_eq_left',gz,bq]
       rw[aC (by omega)]
       by_cases h5:p.next≤a.id
       ·rw[if_pos h5]
        have e:jS p.next a=false:=by simp[jS];omega
        exact KW _ _ _ _ _ _ _ _ _ (by rw[←h0,e];exact⟨rfl,by first|rfl|trivial⟩)
       ·rw[if_neg h5]
        have e:jS p.next a=true:=by simp[jS];omega
        exact hn (by rw[←h0,e];rfl)
     exact key rfl
theorem AH (l:List Cell) (hl:l.length≤1073741824):aa C jW [iz l] (iz l) []:=by
 refine(Ph _ _ ?_).run
 rw[show bR (l.map bU)=true from by simp[E9],cW (by simp;omega)]
 exact⟨rfl,by first|rfl|trivial⟩
theorem uS (l:List Cell) (hl:l.length≤1073741824):aa C mI [iz l] (iz l) []:=by
 refine(Jy _ _ ?_).run
 rw[show bR (l.map bU)=true from by simp[E9],cW (by simp;omega)]
 exact⟨rfl,by first|rfl|trivial⟩
theorem GM (l:List Cell) (i:Int) (hl:l.length≤1073741824):aa C xY [iz l,vI i] (iz (gM l i)) []:=by
 refine(KY _ _ _ ⟨_,AH l hl,_,(DB l hl (e9 l)).2 rfl,?_⟩).run
 cases h1:e9 l with
 |false=>exact an rfl ⟨by rw[GB h1],by first|rfl|trivial⟩
 |true=>
  refine ai rfl ⟨_,Dx _ _ _,?_⟩
  rw[List.length_map,show dZ (Int.ofNat l.length) 1=(l.length:Int)-1 from eB (by simp;omega)]
  by_cases h2:0≤i∧i<l.length
  ·obtain⟨c,hc⟩:=o6 h2.1 h2.2
   refine ai (by simp[jV];omega) ?_
   simp only[qh,hc,Option.some.injEq,exists_eq_left']
   cases h3:c.u with
   |false=>exact an rfl ⟨by rw[JS hc h3],by first|rfl|trivial⟩
   |true=>
    refine ai rfl (an (by simp) ?_)
    simp only[qh,hc,Option.some.injEq,exists_eq_left',R5]
    exact⟨by rw[GC hc h1 h3],by first|rfl|trivial⟩
  ·exact an (by simp[jV];omega) ⟨by rw[EF (o7 h2)],by first|rfl|trivial⟩
theorem GN (l:List Cell) (i:Int) (hl:l.length≤1073741824):aa C xZ [iz l,vI i] (iz (gM l i)) []:=by
 refine(LM _ _ _ ⟨_,uS l hl,_,(DC l hl (e9 l)).2 rfl,?_⟩).run
 cases h1:e9 l with
 |false=>exact ai rfl ⟨by rw[GB h1],by first|rfl|trivial⟩
 |true=>
  have h24:l.length=24:=by simp[e9] at h1;omega
  refine an rfl ⟨_,uQ _ _ _,?_⟩
  by_cases h2:0≤i∧i<l.length
  ·obtain⟨c,hc⟩:=o6 h2.1 h2.2
   refine an (by simp[jV];omega) ?_
   simp only[qh,hc,Option.some.injEq,exists_eq_left']
   cases h3:c.u with
   |false=>exact ai rfl ⟨by rw[JS hc h3],by first|rfl|trivial⟩
   |true=>
    refine an rfl (an (by simp) ?_)
    simp only[qh,hc,Option.some.injEq,exists_eq_left',R5]
    exact⟨by rw[GC hc h1 h3],by first|rfl|trivial⟩
  ·exact ai (by simp[jV];omega) ⟨by rw[EF (o7 h2)],by first|rfl|trivial⟩
theorem wo (l:List Int) (hl:l.length≤1073741824):aa C sA [lg l] (lg l) []:=by
 refine(L4 _ _ ?_).run
 rw[show bR (l.map bC)=true from kJ _,cW (by simp;omega)]
 exact⟨rfl,by first|rfl|trivial⟩
theorem DD (l:List Key) (b a:Int) (hl:l.length≤1073741824):aa C gD [cH l,vI b,vI a] (Ox (yz l b a)) []:=by
 refine(SC _ _ _ _ ?_).run
 have key:setAt (l.drop 0) b a=setAt l b a→ah C gD aj 4 0 (mO (l.map bu) b a ((0:Nat):Int)) (fun u st=>av C gD aj u st fun r fs=>r=(Ox (yz l b a))∧fs=[]):=by
  refine aV l (fun i=>setAt (l.drop i) b a=setAt l b a→ah C gD aj 4 0 (mO (l.map bu) b a i) (fun u st=>av C gD aj u st fun r fs=>r=(Ox (yz l b a))∧fs=[])) ?_ ?_
  ·intro h0
   rw[List.drop_length] at h0
   refine DT _ _ _ _ _ (an (by simp) (Oi _ _ _ _ _ _ ⟨?_,by first|rfl|trivial⟩))
   unfold yz;rw[←h0];rfl
  ·intro i x hi hx hd htk hn h0
   rw[hd] at h0
   simp only[setAt,List.find?_cons] at h0
   refine DT _ _ _ _ _ (ai (by simp;omega) ?_)
   simp only[jg,aE,hx,Option.some.injEq,exists_eq_left',aD,bq]
   rw[aC (by omega)]
   by_cases h1:x.b=b
   ·rw[if_pos h1]
    by_cases h2:x.a=a
    ·rw[if_pos h2]
     rw[decide_eq_true ⟨h1,h2⟩] at h0
     refine Oh _ _ _ _ _ _ ⟨?_,by first|rfl|trivial⟩
     unfold yz setAt;rw[←h0]
    ·rw[if_neg h2]
     rw[decide_eq_false (fun h=>h2 h.2)] at h0
     exact hn h0
   ·rw[if_neg h1]
    rw[decide_eq_false (fun h=>h1 h.1)] at h0
    exact hn h0
 exact key rfl
theorem Km (n:List (List Key)) (b a:Int) (hl:n.length≤1073741824) (hs: ∀s∈n,s.length≤1073741824):aa C ic [gx n,vI b,vI a] (Ox (nh n b a n.length)) []:=by
 refine(PS _ _ _ _ ?_).run
 have key: ∀k:Nat,k≤n.length→nh n b a k=nh n b a n.length→ah C ic aj 4 0 (nC b a ((k:Int)-1) (n.map bX)) (fun u st=>av C ic aj u st fun r fs=>r=(Ox (nh n b a n.length))∧fs=[]):=by
  intro k
  induction k with
  |zero=>
   intro _ hk
   refine B4 _ _ _ _ _ (an (by simp) (Lf _ _ _ _ _ _ ⟨?_,by first|rfl|trivial⟩))
   rw[←hk];rfl
  |succ k ih=>
   intro hle hk
   have hx:n[k]?=some n[k]:=List.getElem?_eq_getElem (by omega)
   rw[show((k+1:Nat):Int)-1=(k:Int) by omega]
   have hss:=hs n[k] (List.getElem_mem (by omega))
   generalize n[k]=s at hx hss
   simp only[nh,hx] at hk
   refine B4 _ _ _ _ _ (ai (by simp) ?_)
   simp only[sg,aE,hx,Option.some.injEq,exists_eq_left']
   rw[eB (by omega)]
   refine⟨_,_,_,_,_,_,DD s b a hss,?_⟩
   cases h2:(yz s b a).2 with
   |false=>
    rw[h2] at hk
    exact an rfl (an rfl (ih (by omega) (by simpa using hk)))
   |true=>
    rw[h2] at hk
    simp only[if_true] at hk
    refine ai rfl ?_
    by_cases h3:(yz s b a).1.k=0
    ·refine ai (by simp[h3]) (B5 _ _ _ _ _ _ _ _ _ _ _ _ _ ⟨?_,by first|rfl|trivial⟩)
     rw[if_pos h3] at hk
     rw[←hk];rfl
    ·refine an (by simp[h3]) (ai rfl (B5 _ _ _ _ _ _ _ _ _ _ _ _ _ ⟨?_,by first|rfl|trivial⟩))
     rw[if_neg h3] at hk
     rw[←hk,←h2]
 rw[List.length_map,show dZ (Int.ofNat n.length) 1=(n.length:Int)-1 from eB (by simp;omega)]
 exact key n.length (Nat.le_refl _) rfl
theorem yB (t:Tree) (b a:Int) (hl:t.lows.length≤1073741824):aa C eK [c6 t,vI b,vI a] (vI (mz t b a)) []:=by
 refine(N5 _ _ _ _ _ ?_).run
 unfold mz
 have key:ah C eK ak 4 0 (j8 b a (rE (fun x=>decide (x≤gY b a)) t.lows 0) ((0:Nat):Int) (t.lows.map bC) (t.nodes.map aI)) (fun u st=>av C eK ak u st fun r fs=>r=(vI (rE (fun x=>decide (x≤gY b a)) t.lows t.lows.length))∧fs=[]):=by
  refine aV t.lows (fun i=>ah C eK ak 4 0 (j8 b a (rE (fun x=>decide (x≤gY b a)) t.lows i) i (t.lows.map bC) (t.nodes.map aI)) (fun u st=>av C eK ak u st fun r fs=>r=(vI (rE (fun x=>decide (x≤gY b a)) t.lows t.lows.length))∧fs=[])) ?_ ?_
  ·exact zu _ _ _ _ _ _ _ (an (by simp) (Je _ _ _ _ _ _ _ _ ⟨rfl,by first|rfl|trivial⟩))
  ·intro i x hi hx hd htk hn
   simp only[rE,hx] at hn
   refine zu _ _ _ _ _ _ _ (ai (by simp;omega) ?_)
   simp only[rz,aE,hx,Option.some.injEq,exists_eq_left',EL,exists_eq_left,gz,bq]
   rw[aC (by omega)]
   by_cases h1:x≤gY b a
   ·rw[if_pos h1]
    rw[if_pos (decide_eq_true h1)] at hn
    exact hn
   ·rw[if_neg h1]
    rw[if_neg (by simpa using h1)] at hn
    exact hn
 exact key
theorem AI (t:Tree) (b a:Int) (hl:cw t≤1073741824):aa C wg [c6 t,vI b,vI a] (Ox (uJ t b a)) []:=by
 have e2:cw t=t.lows.length+(t.nodes.length+tot aH t.nodes):=rfl
 refine(Qk _ _ _ _ _ ⟨_,yB t b a (by omega),_,Dx _ _ _,?_⟩).run
 unfold uJ
 rw[List.length_map,show dZ (Int.ofNat t.nodes.length) 1=(t.nodes.length:Int)-1 from eB (by simp;omega)]
 by_cases h1:0≤mz t b a∧mz t b a<t.nodes.length
 ·obtain⟨n,hn⟩:=o6 h1.1 h1.2
  have hz:aH n≤tot aH t.nodes:=nY (w:=aH) (Nh hn)
  have e1:aH n=n.length+tot bH n:=rfl
  refine an (by simp[jV];omega) ?_
  simp only[rB,hn,Option.some.injEq,exists_eq_left']
  refine⟨_,_,_,_,_,_,Km n b a (by omega) (fun s hs=> ?_),⟨rfl,by first|rfl|trivial⟩⟩
  have h3:bH s≤tot bH n:=nY (w:=bH) hs
  have h4:bH s=s.length:=rfl
  omega
 ·rw[o7 h1]
  exact ai (by simp[jV];omega) ⟨rfl,by first|rfl|trivial⟩
theorem DE (l:List Key) (b a:Int) (hl:l.length≤1073741824):aa C fR [cH l,vI b,vI a] (Ox (yz l b a)) []:=by
 refine(SD _ _ _ _ ?_).run
 have key:setAt (l.drop 0) b a=setAt l b a→ah C fR aj 4 0 (mP b a (l.map bu) ((0:Nat):Int)) (fun u st=>av C fR aj u st fun r fs=>r=(Ox (yz l b a))∧fs=[]):=by
  refine aV l (fun i=>setAt (l.drop i) b a=setAt l b a→ah C fR aj 4 0 (mP b a (l.map bu) i) (fun u st=>av C fR aj u st fun r fs=>r=(Ox (yz l b a))∧fs=[])) ?_ ?_
  ·intro h0
   rw[List.drop_length] at h0
   refine DU _ _ _ _ _ (an (by simp) (Ok _ _ _ _ _ _ _ ⟨?_,by first|rfl|trivial⟩))
   unfold yz;rw[←h0];rfl
  ·intro i x hi hx hd htk hn h0
   rw[hd] at h0
   simp only[setAt,List.find?_cons] at h0
   refine DU _ _ _ _ _ (ai (by simp;omega) ?_)
   simp only[jg,aE,hx,Option.some.injEq,exists_eq_left',aD,bq]
   rw[aC (by omega)]
   by_cases h1:x.b=b
   ·rw[if_pos h1]
    by_cases h2:x.a=a
    ·rw[if_pos h2]
     rw[decide_eq_true ⟨h1,h2⟩] at h0
     refine Oj _ _ _ _ _ _ ⟨?_,by first|rfl|trivial⟩
     unfold yz setAt;rw[←h0]
    ·rw[if_neg h2]
     rw[decide_eq_false (fun h=>h2 h.2)] at h0
     exact hn h0
   ·rw[if_neg h1]
    rw[decide_eq_false (fun h=>h1 h.1)] at h0
    exact hn h0
 exact key rfl
theorem Kn (n:List (List Key)) (b a:Int) (hl:n.length≤1073741824) (hs: ∀s∈n,s.length≤1073741824):aa C ie [gx n,vI b,vI a] (Ox (nh n b a n.length)) []:=by
 refine(P3 _ _ _ _ ?_).run
 have key: ∀k:Nat,k≤n.length→nh n b a k=nh n b a n.length→ah C ie aj 4 0 (qx b a ((k:Int)-1) (n.map bX)) (fun u st=>av C ie aj u st fun r fs=>r=(Ox (nh n b a n.length))∧fs=[]):=by
  intro k
  induction k with
  |zero=>
   intro _ hk
   refine Ce _ _ _ _ _ (an (by simp) (LA _ _ _ _ _ _ ⟨?_,by first|rfl|trivial⟩))
   rw[←hk];rfl
  |succ k ih=>
   intro hle hk
   have hx:n[k]?=some n[k]:=List.getElem?_eq_getElem (by omega)
   rw[show((k+1:Nat):Int)-1=(k:Int) by omega]
   have hss:=hs n[k] (List.getElem_mem (by omega))
   generalize n[k]=s at hx hss
   simp only[nh,hx] at hk
   refine Ce _ _ _ _ _ (ai (by simp) ?_)
   simp only[sg,aE,hx,Option.some.injEq,exists_eq_left']
   rw[eB (by omega)]
   refine⟨_,_,_,_,_,_,DE s b a hss,?_⟩
   cases h2:(yz s b a).2 with
   |false=>
    rw[h2] at hk
    exact ai rfl (ih (by omega) (by simpa using hk))
   |true=>
    rw[h2] at hk
    simp only[if_true] at hk
    refine an rfl ?_
    by_cases h3:(yz s b a).1.k=0
    ·refine ai (by simp[h3]) (Lx _ _ _ _ _ _ _ _ ⟨?_,by first|rfl|trivial⟩)
     rw[if_pos h3] at hk
     rw[←hk];rfl
    ·refine an (by simp[h3]) (Ly _ _ _ _ _ _ _ ⟨?_,by first|rfl|trivial⟩)
     rw[if_neg h3] at hk
     rw[←hk,←h2]
 rw[List.length_map,show dZ (Int.ofNat n.length) 1=(n.length:Int)-1 from eB (by simp;omega)]
 exact key n.length (Nat.le_refl _) rfl
theorem yC (t:Tree) (b a:Int) (hl:t.lows.length≤1073741824):aa C fK [c6 t,vI b,vI a] (vI (mz t b a)) []:=by
 refine(NS _ _ _ _ _ ?_).run
 have key: ∀k:Nat,k≤t.lows.length→rE (fun x=>decide (x≤gY b a)) t.lows k=mz t b a→ah C fK aj 4 0 (pz b a ((k:Int)-1) (t.lows.map bC) (t.nodes.map aI)) (fun u st=>av C fK aj u st fun r fs=>r=(vI (mz t b a))∧fs=[]):=by
  intro k
  induction k with
  |zero=>
   intro _ hk
   refine zi _ _ _ _ _ _ (an (by simp) (I0 _ _ _ _ _ _ _ ⟨?_,by first|rfl|trivial⟩))
   rw[←hk];rfl
  |succ k ih=>
   intro hle hk
   have hx:t.lows[k]?=some t.lows[k]:=List.getElem?_eq_getElem (by omega)
   rw[show((k+1:Nat):Int)-1=(k:Int) by omega]
   generalize t.lows[k]=x at hx
   simp only[rE,hx] at hk
   refine zi _ _ _ _ _ _ (ai (by simp) ?_)
   simp only[rz,aE,hx,Option.some.injEq,exists_eq_left',x9,exists_eq_left,gz,bq]
   rw[eB (by omega)]
   by_cases h1:x≤gY b a
   ·rw[if_pos h1]
    rw[if_pos (decide_eq_true h1)] at hk
    exact IZ _ _ _ _ ⟨by rw[←hk],by first|rfl|trivial⟩
   ·rw[if_neg h1]
    rw[if_neg (by simpa using h1)] at hk
    exact ih (by omega) hk
 rw[List.length_map,show dZ (Int.ofNat t.lows.length) 1=(t.lows.length:Int)-1 from eB (by simp;omega)]
 exact key t.lows.length (Nat.le_refl _) rfl
theorem tr (t:Tree) (b a:Int) (hl:cw t≤1073741824):aa C wh [c6 t,vI b,vI a] (Ox (uJ t b a)) []:=by
 have e2:cw t=t.lows.length+(t.nodes.length+tot aH t.nodes):=rfl
 refine(PI _ _ _ _ _ ⟨_,yC t b a (by omega),_,uQ _ _ _,?_⟩).run
 unfold uJ
 rw[List.length_map,show dZ (Int.ofNat t.nodes.length) 1=(t.nodes.length:Int)-1 from eB (by simp;omega)]
 by_cases h1:0≤mz t b a∧mz t b a<t.nodes.length
 ·obtain⟨n,hn⟩:=o6 h1.1 h1.2
  have hz:aH n≤tot aH t.nodes:=nY (w:=aH) (Nh hn)
  have e1:aH n=n.length+tot bH n:=rfl
  refine an (by simp[jV];omega) ?_
  simp only[rB,hn,Option.some.injEq,exists_eq_left']
  refine⟨_,_,_,_,_,_,Kn n b a (by omega) (fun s hs=> ?_),⟨rfl,by first|rfl|trivial⟩⟩
  have h3:bH s≤tot bH n:=nY (w:=bH) hs
  have h4:bH s=s.length:=rfl
  omega
 ·rw[o7 h1]
  exact ai (by simp[jV];omega) ⟨rfl,by first|rfl|trivial⟩
theorem AJ (p:Pool) (hS:cY p≤4194304) (id:Int):aa C sK [gW p,vI id] (vI (yA p id)) []:=by
 have hP:=fo hS
 refine(Pf _ _ _ _ _ _ _ _ ⟨_,td p.ages id (by omega),_,EJ p id (by omega),?_⟩).run
 unfold yA
 cases h1:ng p.vols id with
 |false=>exact ai rfl ⟨by simp,by first|rfl|trivial⟩
 |true=>
  refine an rfl ?_
  by_cases h2:(cZ p.ages id).length=1
  ·obtain⟨x,hx⟩:=o6 (l:=cZ p.ages id) (i:=0) (by omega) (by omega)
   refine an (by simp[h2]) ?_
   simp only[rz,hx,Option.some.injEq,exists_eq_left']
   exact⟨by simp[h2],by first|rfl|trivial⟩
  ·exact ai (by simp;omega) ⟨by simp[h2],by first|rfl|trivial⟩
theorem Ix (p:Pool) (hS:cY p≤4194304) (k:Key):aa C Aq [gW p,q7 k] (vB (Rc p k)) []:=by
 have hP:=fo hS
 refine(NY _ _ _ _ _ _ _ _ _ _ _ _ ⟨_,AJ p hS k.a,?_⟩).run
 unfold Rc
 by_cases h1:yA p k.a=0
 ·exact ai (by simp[h1]) ⟨by rw[if_pos h1],by first|rfl|trivial⟩
 ·exact an (by simp[h1]) ⟨_,_,_,_,_,_,AI p.t k.b (yA p k.a) (by omega),⟨by rw[if_neg h1],by first|rfl|trivial⟩⟩
theorem Ko (p:Pool) (hS:cY p≤4194304) (j:Int) (k:Key):aa C Ds [gW p,vI j,q7 k] (vB (oc p j k)) []:=by
 have hP:=fo hS
 refine(Po _ _ _ _ _ _ _ _ _ _ _ _ _ ?_).run
 unfold oc
 by_cases h1:j=1
 ·exact ai (by simp[h1]) ⟨_,Eo p k (by omega) (by omega) (by omega),⟨by rw[if_pos h1],by first|rfl|trivial⟩⟩
 ·refine an (by simp[h1]) ?_
  rw[if_neg h1]
  by_cases h2:j=2
  ·refine ai (by simp[h2]) ⟨_,_,_,_,_,_,Fv p.t p.ages k.b k.a (by omega) (by omega),?_⟩
   rw[if_pos h2]
   by_cases h3:k.k=2
   ·exact ai (by simp[h3]) ⟨by simp[h3],by first|rfl|trivial⟩
   ·exact an (by simp[h3]) ⟨by simp[h3],by first|rfl|trivial⟩
  ·rw[if_neg h2]
   exact an (by simp[h2]) ⟨_,Ix p hS k,⟨rfl,by first|rfl|trivial⟩⟩
theorem Kq (p:Pool) (hS:cY p≤4194304) (id:Int):aa C fq [gW p,vI id] (vB (((aB p.t).all (Da id)&&(ng p.vols id&&decide ((cZ p.ages id).length≤1))))) []:=by
 refine(PJ _ _ _ _ _ _ _ _ ?_).run
 have hP:=fo hS
 have htl:=eI p.t
 refine⟨_,jq p.t (by omega),?_⟩
 have key:(((aB p.t).drop 0).all (Da id)&&(ng p.vols id&&decide ((cZ p.ages id).length≤1)))=((aB p.t).all (Da id)&&(ng p.vols id&&decide ((cZ p.ages id).length≤1)))→ah C fq ak 4 0 (kM id ((0:Nat):Int) (p.t.lows.map bC) (p.t.nodes.map aI) (p.ages.map bV) (p.cells.map bU) (p.vols.map dD) p.next ((aB p.t).map bu)) (fun u st=>av C fq ak u st fun r fs=>r=vB (((aB p.t).all (Da id)&&(ng p.vols id&&decide ((cZ p.ages id).length≤1))))∧fs=[]):=by
  refine aV (aB p.t) (fun i=>(((aB p.t).drop i).all (Da id)&&(ng p.vols id&&decide ((cZ p.ages id).length≤1)))=((aB p.t).all (Da id)&&(ng p.vols id&&decide ((cZ p.ages id).length≤1)))→ah C fq ak 4 0 (kM id i (p.t.lows.map bC) (p.t.nodes.map aI) (p.ages.map bV) (p.cells.map bU) (p.vols.map dD) p.next ((aB p.t).map bu)) (fun u st=>av C fq ak u st fun r fs=>r=vB (((aB p.t).all (Da id)&&(ng p.vols id&&decide ((cZ p.ages id).length≤1))))∧fs=[])) ?_ ?_
  ·intro h0
   refine B2 _ _ _ _ _ _ _ _ _ _ (an (by simp) (Lb _ _ _ _ _ _ _ _ _ _ _ ?_))
   rw[List.drop_length] at h0
   simp only[List.all_nil,Bool.true_and] at h0
   rw[←h0]
   refine⟨_,EJ p id (by omega),?_⟩
   cases h1:ng p.vols id with
   |false=>exact an rfl ⟨rfl,by first|rfl|trivial⟩
   |true=>exact ai rfl ⟨_,td p.ages id (by omega),⟨by simp[gz];omega,by first|rfl|trivial⟩⟩
  ·intro i a hi ha hd htk hn h0
   have gO:(Da id) a=false→((aB p.t).all (Da id)&&(ng p.vols id&&decide ((cZ p.ages id).length≤1)))=false:=fun e=>by rw[←h0,hd];simp[e]
   have gN:(Da id) a=true→ah C fq ak 4 0 (kM id ((i:Int)+1) (p.t.lows.map bC) (p.t.nodes.map aI) (p.ages.map bV) (p.cells.map bU) (p.vols.map dD) p.next ((aB p.t).map bu)) (fun u st=>av C fq ak u st fun r fs=>r=vB (((aB p.t).all (Da id)&&(ng p.vols id&&decide ((cZ p.ages id).length≤1))))∧fs=[]):=fun e=>hn (by rw[←h0,hd];simp[e])
   refine B2 _ _ _ _ _ _ _ _ _ _ (ai (by simp;omega) ?_)
   simp only[jg,aE,ha,Option.some.injEq,exists_eq_left',aD,bq]
   rw[aC (by omega)]
   by_cases h1:a.a=id
   ·rw[if_pos h1];exact La _ _ _ _ _ _ _ _ (by rw[gO (by simp[Da,hasB,h1])];exact⟨rfl,by first|rfl|trivial⟩)
   ·rw[if_neg h1];exact gN (by simp[Da,hasB,h1])
 exact key rfl
theorem Iy (l:List Key) (id:Int) (hl:l.length≤1073741824):aa C eM [cH l,vI id] (vB ((l.any (hasB id)))) []:=by
 refine(NW _ _ _ ?_).run
 have key:((l.drop 0).any (hasB id))=(l.any (hasB id))→ah C eM aj 4 0 (j7 id (l.map bu) ((0:Nat):Int)) (fun u st=>av C eM aj u st fun r fs=>r=vB ((l.any (hasB id)))∧fs=[]):=by
  refine aV l (fun i=>((l.drop i).any (hasB id))=(l.any (hasB id))→ah C eM aj 4 0 (j7 id (l.map bu) i) (fun u st=>av C eM aj u st fun r fs=>r=vB ((l.any (hasB id)))∧fs=[])) ?_ ?_
  ·intro h0
   refine zj _ _ _ _ (an (by simp) (I2 _ _ _ _ _ _ ?_))
   rw[List.drop_length] at h0
   simp only[List.any_nil,Bool.true_and] at h0
   rw[←h0]
   exact⟨rfl,by first|rfl|trivial⟩
  ·intro i a hi ha hd htk hn h0
   have gO:(hasB id) a=true→(l.any (hasB id))=true:=fun e=>by rw[←h0,hd];simp[e]
   have gN:(hasB id) a=false→ah C eM aj 4 0 (j7 id (l.map bu) ((i:Int)+1)) (fun u st=>av C eM aj u st fun r fs=>r=vB ((l.any (hasB id)))∧fs=[]):=fun e=>hn (by rw[←h0,hd];simp[e])
   refine zj _ _ _ _ (ai (by simp;omega) ?_)
   simp only[jg,aE,ha,Option.some.injEq,exists_eq_left',aD,bq]
   rw[aC (by omega)]
   by_cases h1:a.a=id
   ·rw[if_pos h1];exact I1 _ _ _ _ _ _ (by rw[gO (by simp[hasB,h1])];exact⟨rfl,by first|rfl|trivial⟩)
   ·rw[if_neg h1];exact gN (by simp[hasB,h1])
 exact key rfl
theorem Iz (p:Pool) (hS:cY p≤4194304) (hA:gV p.ages=true) (j:Int) (k:Key):aa C Ap [gW p,vI j,q7 k] (vB (oc p j k)) []:=by
 have hP:=fo hS
 refine(N8 _ _ _ _ _ _ _ _ _ _ _ _ _ ?_).run
 unfold oc
 by_cases h1:j=1
 ·exact ai (by simp[h1]) ⟨_,Ep p k (by omega) (by omega) (by omega),⟨by rw[if_pos h1],by first|rfl|trivial⟩⟩
 ·refine an (by simp[h1]) ?_
  rw[if_neg h1]
  by_cases h2:j=2
  ·refine ai (by simp[h2]) ⟨_,_,_,_,_,_,Fx p.t p.ages k.b k.a (by omega) (by omega),?_⟩
   rw[if_pos h2]
   by_cases h3:k.k=2
   ·exact ai (by simp[h3]) ⟨by simp[h3],by first|rfl|trivial⟩
   ·exact an (by simp[h3]) ⟨by simp[h3],by first|rfl|trivial⟩
  ·rw[if_neg h2]
   refine an (by simp[h2]) ⟨_,qk p.ages k.a (by omega),_,EK p k.a (by omega),?_⟩
   unfold Rc yA
   cases h3:ng p.vols k.a with
   |false=>exact ai rfl ⟨by simp,by first|rfl|trivial⟩
   |true=>
    refine an rfl ?_
    by_cases h4:(cZ p.ages k.a).length=1
    ·obtain⟨x,hx⟩:=o6 (l:=cZ p.ages k.a) (i:=0) (by omega) (by omega)
     have hpos:=YU hA x (Nh hx)
     have hne: ¬x=0:=by omega
     refine an (by simp[h4]) ?_
     simp only[rz,hx,Option.some.injEq,exists_eq_left']
     refine⟨(vB (!(uJ p.t k.b x).2),[]),?_,?_,⟨by simp[h4,hne],by first|rfl|trivial⟩⟩
     ·exact⟨_,_,_,_,_,_,tr p.t k.b x (by omega),by first|rfl|trivial⟩
     ·exact⟨_,_,_,_,_,_,tr p.t k.b x (by omega),by first|rfl|trivial⟩
    ·exact ai (by simp;omega) ⟨by simp[h4],by first|rfl|trivial⟩
theorem GO (p:Pool) (hS:cY p≤4194304):aa C aW [gW p] (Uq (ck p)) []:=by
 have hP:=fo hS
 have htl:=eI p.t
 refine(K0 _ _ _ _ _ _ _ ⟨_,nj p hS,?_⟩).run
 cases hok:jh p with
 |false=>exact ai rfl ⟨by unfold ck;rw[hok];rfl,by first|rfl|trivial⟩
 |true=>
 refine an rfl ⟨_,jq p.t (by omega),?_⟩
 have hstep: ∀j:Int,1≤j∧j≤3→(0≤jK p j→ck p=(j,jK p j))→(jK p j<0→ah C aW au 4 0 (lP (j+1) (p.t.lows.map bC) (p.t.nodes.map aI) (p.ages.map bV) (p.cells.map bU) (p.vols.map dD) p.next ((aB p.t).map bu)) (fun u st=>av C aW au u st fun r fs=>r=Uq (ck p)∧fs=[]))→ah C aW au 4 0 (lP j (p.t.lows.map bC) (p.t.nodes.map aI) (p.ages.map bV) (p.cells.map bU) (p.vols.map dD) p.next ((aB p.t).map bu)) (fun u st=>av C aW au u st fun r fs=>r=Uq (ck p)∧fs=[]):=by
  intro j hj h1 h2
  refine xp _ _ _ _ _ _ _ _ _ (ai (by simp;omega) ?_)
  have keyI:ff (oc p j) ((aB p.t).drop 0) ((0:Nat):Int)=jK p j→ah C aW fz 3 2 (lQ j ((0:Nat):Int) (p.t.lows.map bC) (p.t.nodes.map aI) (p.ages.map bV) (p.cells.map bU) (p.vols.map dD) p.next ((aB p.t).map bu)) (fun u st=>mX C aW au 4 0 tE u st (fun u st=>av C aW au u st fun r fs=>r=Uq (ck p)∧fs=[])):=by
   refine aV (aB p.t) (fun i=>ff (oc p j) ((aB p.t).drop i) (i:Int)=jK p j→ah C aW fz 3 2 (lQ j i (p.t.lows.map bC) (p.t.nodes.map aI) (p.ages.map bV) (p.cells.map bU) (p.vols.map dD) p.next ((aB p.t).map bu)) (fun u st=>mX C aW au 4 0 tE u st (fun u st=>av C aW au u st fun r fs=>r=Uq (ck p)∧fs=[]))) ?_ ?_
   ·intro h0
    rw[List.drop_length] at h0
    simp only[ff] at h0
    refine xq _ _ _ _ _ _ _ _ _ _ (an (by simp) (G3 _ _ _ _ _ _ _ _ _ _ _ ?_))
    rw[aC (by omega)]
    exact h2 (by omega)
   ·intro i x hi hx hd htk hn h0
    rw[hd] at h0
    simp only[ff] at h0
    refine xq _ _ _ _ _ _ _ _ _ _ (ai (by simp;omega) ?_)
    simp only[jg,aE,hx,Option.some.injEq,exists_eq_left']
    refine⟨_,Ko p hS j x,?_⟩
    rw[aC (by omega)]
    cases h4:oc p j x with
    |true=>
     rw[if_pos h4] at h0
     exact ai rfl (G2 _ _ _ _ _ _ _ _ _ _ (G4 _ _ _ _ _ _ _ _ _ _ ⟨by rw[h1 (by omega),←h0],by first|rfl|trivial⟩))
    |false=>rw[if_neg (by simp[h4])] at h0;exact an rfl (hn h0)
  exact keyI rfl
 refine hstep 1 (by omega) (fun h=>by unfold ck;rw[if_pos hok,if_pos h]) (fun h1=> ?_)
 refine hstep 2 (by omega) (fun h=>by unfold ck;rw[if_pos hok,if_neg (by omega),if_pos h]) (fun h2=> ?_)
 refine hstep 3 (by omega) (fun h=>by unfold ck;rw[if_pos hok,if_neg (by omega),if_neg (by omega),if_pos h]) (fun h3=> ?_)
 refine xp _ _ _ _ _ _ _ _ _ (an (by simp) (G1 _ _ _ _ _ _ _ _ _ ?_))
 have key5:ff (qi p) (p.ages.drop 0) ((0:Nat):Int)=Fa p→ah C aW bh 4 4 (lR ((0:Nat):Int) (p.t.lows.map bC) (p.t.nodes.map aI) (p.ages.map bV) (p.cells.map bU) (p.vols.map dD) p.next) (fun u st=>av C aW bh u st fun r fs=>r=Uq (ck p)∧fs=[]):=by
  refine aV p.ages (fun i=>ff (qi p) (p.ages.drop i) (i:Int)=Fa p→ah C aW bh 4 4 (lR i (p.t.lows.map bC) (p.t.nodes.map aI) (p.ages.map bV) (p.cells.map bU) (p.vols.map dD) p.next) (fun u st=>av C aW bh u st fun r fs=>r=Uq (ck p)∧fs=[])) ?_ ?_
  ·intro h0
   rw[List.drop_length] at h0
   simp only[ff] at h0
   exact xu _ _ _ _ _ _ _ _ (an (by simp) (G6 _ _ _ _ _ _ _ _ _ ⟨by unfold ck;rw[if_pos hok,if_neg (by omega),if_neg (by omega),if_neg (by omega),if_neg (by omega)],by first|rfl|trivial⟩))
  ·intro i x hi hx hd htk hn h0
   rw[hd] at h0
   simp only[ff] at h0
   refine xu _ _ _ _ _ _ _ _ (ai (by simp;omega) ?_)
   simp only[rA,aE,hx,Option.some.injEq,exists_eq_left']
   rw[aC (by omega)]
   refine⟨_,Kq p hS x.id,?_⟩
   have e:((aB p.t).all (Da x.id)&&(ng p.vols x.id&&decide ((cZ p.ages x.id).length≤1)))=qi p x:=rfl
   rw[e]
   cases h4:qi p x with
   |true=>rw[if_pos h4] at h0;exact ai rfl (G5 _ _ _ _ _ _ _ _ ⟨by unfold ck;rw[if_pos hok,if_neg (by omega),if_neg (by omega),if_neg (by omega),if_pos (by omega),←h0],by first|rfl|trivial⟩)
   |false=>rw[if_neg (by simp[h4])] at h0;exact an rfl (hn h0)
 exact key5 rfl
theorem GP (p:Pool) (hS:cY p≤4194304):aa C aN [gW p] (Uq (ck p)) []:=by
 have hP:=fo hS
 have htl:=eI p.t
 refine(Lo _ _ _ _ _ _ _ ⟨_,nq p hS,?_⟩).run
 cases hok:jh p with
 |false=>exact ai rfl ⟨by unfold ck;rw[hok];rfl,by first|rfl|trivial⟩
 |true=>
 refine an rfl ⟨_,jr p.t (by omega),?_⟩
 have hstep: ∀i0 j:Int,0≤i0∧i0<3→rowAt [[iI 1],[iI 2],[iI 3]] i0=some [iI j]→(0≤jK p j→ck p=(j,jK p j))→(jK p j<0→ah C aN au 4 0 (lU (i0+1) (p.t.lows.map bC) (p.t.nodes.map aI) (p.ages.map bV) (p.cells.map bU) (p.vols.map dD) p.next ((aB p.t).map bu)) (fun u st=>av C aN au u st fun r fs=>r=Uq (ck p)∧fs=[]))→ah C aN au 4 0 (lU i0 (p.t.lows.map bC) (p.t.nodes.map aI) (p.ages.map bV) (p.cells.map bU) (p.vols.map dD) p.next ((aB p.t).map bu)) (fun u st=>av C aN au u st fun r fs=>r=Uq (ck p)∧fs=[]):=by
  intro i0 j hj hr h1 h2
  refine xC _ _ _ _ _ _ _ _ _ (ai (by simp;omega) ⟨_,hr,_,hr,?_⟩)
  have keyI:ff (oc p j) ((aB p.t).drop 0) ((0:Nat):Int)=jK p j→ah C aN nt 3 2 (lV j i0 ((aB p.t).map bu) ((0:Nat):Int) (p.t.lows.map bC) (p.t.nodes.map aI) (p.ages.map bV) (p.cells.map bU) (p.vols.map dD) p.next) (fun u st=>mX C aN au 4 0 nr u st (fun u st=>av C aN au u st fun r fs=>r=Uq (ck p)∧fs=[])):=by
   refine aV (aB p.t) (fun i=>ff (oc p j) ((aB p.t).drop i) (i:Int)=jK p j→ah C aN nt 3 2 (lV j i0 ((aB p.t).map bu) i (p.t.lows.map bC) (p.t.nodes.map aI) (p.ages.map bV) (p.cells.map bU) (p.vols.map dD) p.next) (fun u st=>mX C aN au 4 0 nr u st (fun u st=>av C aN au u st fun r fs=>r=Uq (ck p)∧fs=[]))) ?_ ?_
   ·intro h0
    rw[List.drop_length] at h0
    simp only[ff] at h0
    refine xD _ _ _ _ _ _ _ _ _ _ _ (an (by simp) (Ho _ _ _ _ _ _ _ _ _ _ _ _ _ ?_))
    rw[aC (by omega)]
    exact h2 (by omega)
   ·intro i x hi hx hd htk hn h0
    rw[hd] at h0
    simp only[ff] at h0
    refine xD _ _ _ _ _ _ _ _ _ _ _ (ai (by simp;omega) ?_)
    simp only[jg,aE,hx,Option.some.injEq,exists_eq_left']
    refine⟨_,Iz p hS (JT hok) j x,?_⟩
    rw[aC (by omega)]
    cases h4:oc p j x with
    |true=>
     rw[if_pos h4] at h0
     exact ai rfl (Hl _ _ _ _ _ _ _ _ _ _ _ _ _ _ _ (Hp _ _ _ _ _ _ _ _ _ _ _ _ _ _ _ ⟨by rw[h1 (by omega),←h0],by first|rfl|trivial⟩))
    |false=>rw[if_neg (by simp[h4])] at h0;exact an rfl (hn h0)
  exact keyI rfl
 refine hstep 0 1 (by omega) (by unfold rowAt;rfl) (fun h=>by unfold ck;rw[if_pos hok,if_pos h]) (fun h1=> ?_)
 refine hstep 1 2 (by omega) (by unfold rowAt;rfl) (fun h=>by unfold ck;rw[if_pos hok,if_neg (by omega),if_pos h]) (fun h2=> ?_)
 refine hstep 2 3 (by omega) (by unfold rowAt;rfl) (fun h=>by unfold ck;rw[if_pos hok,if_neg (by omega),if_neg (by omega),if_pos h]) (fun h3=> ?_)
 refine xC _ _ _ _ _ _ _ _ _ (an (by simp) (Hj _ _ _ _ _ _ _ _ _ ?_))
 have key5:ff (qi p) (p.ages.drop 0) ((0:Nat):Int)=Fa p→ah C aN bh 4 4 (fW (p.ages.map bV) ((0:Nat):Int) (p.t.lows.map bC) (p.t.nodes.map aI) (p.cells.map bU) (p.vols.map dD) p.next ((aB p.t).map bu)) (fun u st=>av C aN bh u st fun r fs=>r=Uq (ck p)∧fs=[]):=by
  refine aV p.ages (fun i=>ff (qi p) (p.ages.drop i) (i:Int)=Fa p→ah C aN bh 4 4 (fW (p.ages.map bV) i (p.t.lows.map bC) (p.t.nodes.map aI) (p.cells.map bU) (p.vols.map dD) p.next ((aB p.t).map bu)) (fun u st=>av C aN bh u st fun r fs=>r=Uq (ck p)∧fs=[])) ?_ ?_
  ·intro h0
   rw[List.drop_length] at h0
   simp only[ff] at h0
   exact xE _ _ _ _ _ _ _ _ _ (an (by simp) (Hr _ _ _ _ _ _ _ _ _ _ _ ⟨by unfold ck;rw[if_pos hok,if_neg (by omega),if_neg (by omega),if_neg (by omega),if_neg (by omega)],by first|rfl|trivial⟩))
  ·intro i x hi hx hd htk hn h0
   rw[hd] at h0
   simp only[ff] at h0
   refine xE _ _ _ _ _ _ _ _ _ (ai (by simp;omega) ?_)
   simp only[rA,aE,hx,Option.some.injEq,exists_eq_left']
   rw[aC (by omega)]
   have e:qi p x=(!((aB p.t).any (hasB x.id))&&(ng p.vols x.id&&decide ((cZ p.ages x.id).length≤1))):=by unfold qi;rw[YV]
   have hO:qi p x=true→av C aN bh TX.ret (rM i (p.t.lows.map bC) (p.t.nodes.map aI) (p.ages.map bV) (p.cells.map bU) (p.vols.map dD) p.next x.id x.fr ((aB p.t).map bu) ((cZ p.ages x.id).map bC)) (fun r fs=>r=Uq (ck p)∧fs=[]):=fun h4=>by
    rw[if_pos h4] at h0
    exact Hq _ _ _ _ _ _ _ _ _ _ _ _ ⟨by unfold ck;rw[if_pos hok,if_neg (by omega),if_neg (by omega),if_neg (by omega),if_pos (by omega),←h0],by first|rfl|trivial⟩
   have hN:qi p x=false→ah C aN bh 4 4 (fW (p.ages.map bV) ((i:Int)+1) (p.t.lows.map bC) (p.t.nodes.map aI) (p.cells.map bU) (p.vols.map dD) p.next ((aB p.t).map bu)) (fun u st=>av C aN bh u st fun r fs=>r=Uq (ck p)∧fs=[]):=fun h4=>by
    rw[if_neg (by simp[h4])] at h0;exact hn h0
   refine⟨_,EK p x.id (by omega),?_⟩
   cases h5:ng p.vols x.id with
   |false=>exact an rfl (hN (by rw[e,h5];simp))
   |true=>
    refine ai rfl ⟨_,qk p.ages x.id (by omega),?_⟩
    by_cases h6:(cZ p.ages x.id).length≤1
    ·refine ai (by simp[gz];omega) ⟨_,Iy (aB p.t) x.id (by omega),?_⟩
     cases h7:(aB p.t).any (hasB x.id) with
     |false=>exact ai rfl (hO (by rw[e,h5,h7];simp[h6]))
     |true=>exact an rfl (hN (by rw[e,h7];simp))
    ·exact an (by simp[gz];omega) (hN (by rw[e];simp[h6]))
 exact key5 rfl
theorem wq (l:List Age) (hl:l.length≤1073741824):aa C nN [fE l] (fE l) []:=by
 refine(Ls _ _ ?_).run
 rw[show bR (l.map bV)=true from yx _,cW (by simp;omega)]
 exact⟨rfl,by first|rfl|trivial⟩
theorem rJ (n:List (List Key)) (hl:n.length≤1073741824) (hs: ∀s∈n,s.length≤1073741824):aa C aR [gx n] (gx n) []:=by
 refine(KO _ _ ?_).run
 skip
 have key:((0:Nat)=0→ah C aR ak 4 0 (om (n.map bX)) (fun u st=>av C aR ak u st fun r fs=>r=(gx n)∧fs=[]))∧(0<(0:Nat)→ah C aR ak 4 0 (lM (n.map bX) ((0:Nat):Int) ((n.take 0).map bX)) (fun u st=>av C aR ak u st fun r fs=>r=(gx n)∧fs=[])):=by
  refine aV n (fun i=>(i=0→ah C aR ak 4 0 (om (n.map bX)) (fun u st=>av C aR ak u st fun r fs=>r=(gx n)∧fs=[]))∧(0<i→ah C aR ak 4 0 (lM (n.map bX) i ((n.take i).map bX)) (fun u st=>av C aR ak u st fun r fs=>r=(gx n)∧fs=[]))) ?_ ?_
  ·refine⟨fun h=> ?_,fun h=> ?_⟩
   ·have hnil:n=[]:=List.length_eq_zero_iff.1 h
    refine xg _ _ (an (by simp[h]) (GV _ _ _ _ ⟨?_,by first|rfl|trivial⟩))
    simp[hnil]
   ·rw[List.take_length]
    exact xh _ _ _ _ (an (by simp) (GW _ _ _ _ _ _ ⟨rfl,by first|rfl|trivial⟩))
  ·intro i a hi ha hd htk hn
   have hmem:=List.mem_of_getElem? ha
   refine⟨fun h=> ?_,fun h=> ?_⟩
   ·subst h
    have hz:fP n 0=some a:=(aE n 0).trans ha
    have hn2:=hn.2 (by omega)
    rw[htk] at hn2
    refine xg _ _ (ai (by simp;omega) ?_)
    simp only[sg,hz,Option.some.injEq,exists_eq_left']
    refine⟨_,oe a (by have:=hs a hmem;omega),ai (cW (by simp;try omega)) ?_⟩
    rw[aC (by omega)]
    exact hn2
   ·have hn2:=hn.2 (by omega)
    rw[htk] at hn2
    refine xh _ _ _ _ (ai (by simp;omega) ?_)
    simp only[sg,aE,ha,Option.some.injEq,exists_eq_left']
    refine⟨_,oe a (by have:=hs a hmem;omega),ai (cW (by simp;try omega)) ?_⟩
    rw[aC (by omega)]
    rw[List.map_append] at hn2
    exact hn2
 exact key.1 rfl
theorem tw (n:List (List Key)) (hl:n.length≤1073741824) (hs: ∀s∈n,s.length≤1073741824):aa C bF [gx n] (gx n) []:=by
 refine(Qo _ _ ?_).run
 skip
 have key:((0:Nat)=0→ah C bF ak 4 0 (qB (n.map bX)) (fun u st=>av C bF ak u st fun r fs=>r=(gx n)∧fs=[]))∧(0<(0:Nat)→ah C bF ak 4 0 (nG ((0:Nat):Int) (n.map bX) ((n.take 0).map bX)) (fun u st=>av C bF ak u st fun r fs=>r=(gx n)∧fs=[])):=by
  refine aV n (fun i=>(i=0→ah C bF ak 4 0 (qB (n.map bX)) (fun u st=>av C bF ak u st fun r fs=>r=(gx n)∧fs=[]))∧(0<i→ah C bF ak 4 0 (nG i (n.map bX) ((n.take i).map bX)) (fun u st=>av C bF ak u st fun r fs=>r=(gx n)∧fs=[]))) ?_ ?_
  ·refine⟨fun h=> ?_,fun h=> ?_⟩
   ·have hnil:n=[]:=List.length_eq_zero_iff.1 h
    refine Cr _ _ (an (by simp[h]) (L0 _ _ _ ⟨?_,by first|rfl|trivial⟩))
    simp[hnil]
   ·rw[List.take_length]
    exact Cs _ _ _ _ (an (by simp) (L3 _ _ _ _ _ ⟨rfl,by first|rfl|trivial⟩))
  ·intro i a hi ha hd htk hn
   have hmem:=List.mem_of_getElem? ha
   refine⟨fun h=> ?_,fun h=> ?_⟩
   ·subst h
    have hz:fP n 0=some a:=(aE n 0).trans ha
    have hn2:=hn.2 (by omega)
    rw[htk] at hn2
    refine Cr _ _ (ai (by simp;omega) ?_)
    simp only[sg,hz,Option.some.injEq,exists_eq_left']
    have hsa:=hs a hmem
    refine ai (by rw[show bR (a.map bu)=true from kK _,cW (by simp;omega)];rfl) (ai (cW (by simp;try omega)) ?_)
    rw[aC (by omega)]
    exact hn2
   ·have hn2:=hn.2 (by omega)
    rw[htk] at hn2
    refine Cs _ _ _ _ (ai (by simp;omega) ?_)
    simp only[sg,aE,ha,Option.some.injEq,exists_eq_left']
    have hsa:=hs a hmem
    refine ai (by rw[show bR (a.map bu)=true from kK _,cW (by simp;omega)];rfl) (ai (cW (by simp;try omega)) ?_)
    rw[aC (by omega)]
    rw[List.map_append] at hn2
    exact hn2
 exact key.1 rfl
theorem wu (t:Tree) (hl:t.lows.length≤1073741824∧t.nodes.length≤1073741824) (hs: ∀n∈t.nodes,n.length≤1073741824∧ ∀s∈n,s.length≤1073741824):aa C bD [c6 t] (c6 t) []:=by
 refine(K7 _ _ _ ?_).run
 refine⟨_,wo t.lows hl.1,?_⟩
 have key:((0:Nat)=0→ah C bD ak 4 0 (oz (t.nodes.map aI) (t.lows.map bC)) (fun u st=>av C bD ak u st fun r fs=>r=(c6 t)∧fs=[]))∧(0<(0:Nat)→ah C bD ak 4 0 (lS (t.nodes.map aI) ((0:Nat):Int) (t.lows.map bC) ((t.nodes.take 0).map aI)) (fun u st=>av C bD ak u st fun r fs=>r=(c6 t)∧fs=[])):=by
  refine aV t.nodes (fun i=>(i=0→ah C bD ak 4 0 (oz (t.nodes.map aI) (t.lows.map bC)) (fun u st=>av C bD ak u st fun r fs=>r=(c6 t)∧fs=[]))∧(0<i→ah C bD ak 4 0 (lS (t.nodes.map aI) i (t.lows.map bC) ((t.nodes.take i).map aI)) (fun u st=>av C bD ak u st fun r fs=>r=(c6 t)∧fs=[]))) ?_ ?_
  ·refine⟨fun h=> ?_,fun h=> ?_⟩
   ·have hnil:t.nodes=[]:=List.length_eq_zero_iff.1 h
    refine xx _ _ _ (an (by simp[h]) (G8 _ _ _ _ _ ⟨?_,by first|rfl|trivial⟩))
    simp[hnil]
   ·rw[List.take_length]
    exact xy _ _ _ _ _ (an (by simp) (G9 _ _ _ _ _ _ _ ⟨rfl,by first|rfl|trivial⟩))
  ·intro i a hi ha hd htk hn
   have hmem:=List.mem_of_getElem? ha
   refine⟨fun h=> ?_,fun h=> ?_⟩
   ·subst h
    have hz:fP t.nodes 0=some a:=(aE t.nodes 0).trans ha
    have hn2:=hn.2 (by omega)
    rw[htk] at hn2
    refine xx _ _ _ (ai (by simp;omega) ?_)
    simp only[rB,hz,Option.some.injEq,exists_eq_left']
    refine⟨_,rJ a (hs a hmem).1 (hs a hmem).2,ai (cW (by simp;try omega)) ?_⟩
    rw[aC (by omega)]
    exact hn2
   ·have hn2:=hn.2 (by omega)
    rw[htk] at hn2
    refine xy _ _ _ _ _ (ai (by simp;omega) ?_)
    simp only[rB,aE,ha,Option.some.injEq,exists_eq_left']
    refine⟨_,rJ a (hs a hmem).1 (hs a hmem).2,ai (cW (by simp;try omega)) ?_⟩
    rw[aC (by omega)]
    rw[List.map_append] at hn2
    exact hn2
 exact key.1 rfl
theorem AK (t:Tree) (hl:t.lows.length≤1073741824∧t.nodes.length≤1073741824) (hs: ∀n∈t.nodes,n.length≤1073741824∧ ∀s∈n,s.length≤1073741824):aa C cE [c6 t] (c6 t) []:=by
 refine(Qf _ _ _ ?_).run
 refine ai (by rw[show bR (t.lows.map bC)=true from kJ _,cW (by simp;omega)];rfl) ?_
 have key:((0:Nat)=0→ah C cE ak 4 0 (qA (t.lows.map bC) (t.nodes.map aI)) (fun u st=>av C cE ak u st fun r fs=>r=(c6 t)∧fs=[]))∧(0<(0:Nat)→ah C cE ak 4 0 (nF ((0:Nat):Int) (t.lows.map bC) (t.nodes.map aI) ((t.nodes.take 0).map aI)) (fun u st=>av C cE ak u st fun r fs=>r=(c6 t)∧fs=[])):=by
  refine aV t.nodes (fun i=>(i=0→ah C cE ak 4 0 (qA (t.lows.map bC) (t.nodes.map aI)) (fun u st=>av C cE ak u st fun r fs=>r=(c6 t)∧fs=[]))∧(0<i→ah C cE ak 4 0 (nF i (t.lows.map bC) (t.nodes.map aI) ((t.nodes.take i).map aI)) (fun u st=>av C cE ak u st fun r fs=>r=(c6 t)∧fs=[]))) ?_ ?_
  ·refine⟨fun h=> ?_,fun h=> ?_⟩
   ·have hnil:t.nodes=[]:=List.length_eq_zero_iff.1 h
    refine Cl _ _ _ (an (by simp[h]) (LN _ _ _ _ ⟨?_,by first|rfl|trivial⟩))
    simp[hnil]
   ·rw[List.take_length]
    exact Cm _ _ _ _ _ (an (by simp) (LO _ _ _ _ _ _ ⟨rfl,by first|rfl|trivial⟩))
  ·intro i a hi ha hd htk hn
   have hmem:=List.mem_of_getElem? ha
   refine⟨fun h=> ?_,fun h=> ?_⟩
   ·subst h
    have hz:fP t.nodes 0=some a:=(aE t.nodes 0).trans ha
    have hn2:=hn.2 (by omega)
    rw[htk] at hn2
    refine Cl _ _ _ (ai (by simp;omega) ?_)
    simp only[rB,hz,Option.some.injEq,exists_eq_left']
    refine⟨_,tw a (hs a hmem).1 (hs a hmem).2,ai (cW (by simp;try omega)) ?_⟩
    rw[aC (by omega)]
    exact hn2
   ·have hn2:=hn.2 (by omega)
    rw[htk] at hn2
    refine Cm _ _ _ _ _ (ai (by simp;omega) ?_)
    simp only[rB,aE,ha,Option.some.injEq,exists_eq_left']
    refine⟨_,tw a (hs a hmem).1 (hs a hmem).2,ai (cW (by simp;try omega)) ?_⟩
    rw[aC (by omega)]
    rw[List.map_append] at hn2
    exact hn2
 exact key.1 rfl
theorem wz {t:Tree} (h:cw t≤4194304):(t.lows.length≤1073741824∧t.nodes.length≤1073741824)∧ ∀n∈t.nodes,n.length≤1073741824∧ ∀s∈n,s.length≤1073741824:=by
 have e2:cw t=t.lows.length+(t.nodes.length+tot aH t.nodes):=rfl
 refine⟨⟨by omega,by omega⟩,fun n hn=> ?_⟩
 have h1:aH n≤tot aH t.nodes:=nY (w:=aH) hn
 have h2:aH n=n.length+tot bH n:=rfl
 refine⟨by omega,fun s hs=> ?_⟩
 have h3:bH s≤tot bH n:=nY (w:=bH) hs
 have h4:bH s=s.length:=rfl
 omega
theorem IA (p:Pool) (hS:cY p≤4194304):aa C cN [gW p] (gW p) []:=by
 have hP:=fo hS
 have hN:=wz hP.1
 have hT:=AK p.t hN.1 hN.2
 have hA:(bR (p.ages.map bV)&&fits (Nat.add 0 (p.ages.map bV).length) 16)=true:=by rw[yx,cW (by simp;omega)];rfl
 have hC:=AH p.cells (by omega)
 have hV:(bR (p.vols.map dD)&&fits (Nat.add 0 (p.vols.map dD).length) 40)=true:=by rw[Ed,cW (by simp;omega)];rfl
 refine(NM _ _ _ _ _ _ _ ?_).run
 repeat' first
  |exact rfl
  |refine⟨(gW p,[]),?_,?_,⟨rfl,by first|rfl|trivial⟩⟩
  |refine⟨(gW p,[]),?_,?_,by first|rfl|trivial⟩
  |refine⟨_,_,hT,?_⟩
  |refine ai hA ?_
  |refine⟨_,hC,?_⟩
  |refine ai hV ?_
theorem GQ (p:Pool) (hS:cY p≤4194304):aa C p9 [gW p] (gW p) []:=by
 have hP:=fo hS
 have hN:=wz hP.1
 have hT:=wu p.t hN.1 hN.2
 have hA:=wq p.ages (by omega)
 have hC:=uS p.cells (by omega)
 have hV:(bR (p.vols.map dD)&&fits (Nat.add 0 (p.vols.map dD).length) 40)=true:=by rw[Ed,cW (by simp;omega)];rfl
 refine(Lm _ _ _ _ _ _ _ ?_).run
 repeat' first
  |exact rfl
  |refine⟨(gW p,[]),?_,?_,⟨rfl,by first|rfl|trivial⟩⟩
  |refine⟨(gW p,[]),?_,?_,by first|rfl|trivial⟩
  |refine⟨_,_,hT,?_⟩
  |refine⟨_,hA,?_⟩
  |refine⟨_,hC,?_⟩
  |refine ai hV ?_
theorem jt (l:List Key) (hl:l.length≤1073741824):aa C aL [cH l] (gx (cC l)) []:=by
 refine(NR _ _ ?_).run
 unfold cC
 by_cases h:l.length=0
 ·exact ai (by simp[h]) ⟨by rw[if_pos h];rfl,rfl⟩
 ·refine an (by rw[List.length_map,Int.ofNat_eq_natCast,aD];exact decide_eq_false (by omega)) ?_
  rw[show bR (l.map bu)=true from kK _,cW (by simp;omega)]
  exact⟨by rw[if_neg h];rfl,rfl⟩
theorem og (l:List Key) (hl:l.length≤1073741824):aa C di [cH l] (gx (cC l)) []:=by
 refine(N7 _ _ ?_).run
 unfold cC
 by_cases h:l.length=0
 ·exact ai (by simp[h]) ⟨by rw[if_pos h];rfl,rfl⟩
 ·refine an (by rw[List.length_map,Int.ofNat_eq_natCast,aD];exact decide_eq_false (by omega)) ?_
  exact⟨_,oe l (by omega),⟨by rw[if_neg h];rfl,rfl⟩⟩
theorem wA (n:List (List Key)) (k:Key) (hb:n.length≤1073740000) (hl:tot bH n≤1073740000):aa C fy [gx n,q7 k] (cH (cq n k)) []:=by
 have h1:=cU n
 have h2:=oS (aJ n) k
 exact(Lv _ _ _ _ _ _ _ ⟨_,(jy n (by omega) (by omega) _).2 rfl,_,qj (aJ n) k (by omega),_,EI (fH (aJ n) k) (by omega),⟨rfl,by first|rfl|trivial⟩⟩).run
theorem IB (n:List (List Key)) (k:Key) (hb:n.length≤1073740000) (hl:tot bH n≤1073740000):aa C Am [gx n,q7 k] (WQ (cg n k)) []:=by
 have hs: ∀s∈n,s.length≤1073741824:=fun s hm=>by have:=nY (w:=bH) hm;unfold bH at this hl;omega
 have hcp:=rJ n (by omega) hs
 have hXl:=Fc n k
 have hXt:=Fe n k
 have tail: ∀(X:List (List Key)) (Q:QV),X=jL n k→Q (WQ (cg n k)) []→ ∃(b18:Bool),aa C bJ ([TV.ag [TC.sub 1 (X.map bX)]]) (TV.c (iB b18)) []∧(az b18 (Q (TV.tu [(1,[TC.sub 1 (X.map bX)]),(0,[iB true])]) ([])) (∃(l19:RR),aa C fy ([TV.ag [TC.sub 1 (n.map bX)],q7 k]) (TV.c (TC.sub 5 l19)) []∧(∃(l20:RR),aa C di ([TV.c (TC.sub 5 l19)]) (TV.ag [TC.sub 1 l20]) []∧(az (bK 8 (Int.ofNat (List.length l19))) (∃(l21:RR),aa C aR ([TV.ag [TC.sub 1 (n.map bX)]]) (TV.ag [TC.sub 1 l21]) []∧(Q (TV.tu [(1,[TC.sub 1 l21]),(0,[iB false])]) ([]))) (∃(b22:Bool),aa C bJ ([TV.ag [TC.sub 1 l20]]) (TV.c (iB b22)) []∧(az (!b22) (∃(l23:RR),aa C aR ([TV.ag [TC.sub 1 (n.map bX)]]) (TV.ag [TC.sub 1 l23]) []∧(Q (TV.tu [(1,[TC.sub 1 l23]),(0,[iB false])]) ([]))) (Q (TV.tu [(1,[TC.sub 1 l20]),(0,[iB true])]) ([])))))))):=by
  intro X Q hX hQ
  rw[←hX] at hXl hXt
  have hok:aa C bJ [gx X] (vB (fI X)) []:=tg X (by omega) (by omega)
  have hkl:=o9 n k
  have hnl:=vY (cq n k)
  have hnt:=vZ (cq n k)
  have hok2:aa C bJ [gx (cC (cq n k))] (vB (fI (cC (cq n k)))) []:=tg _ (by omega) (by omega)
  refine⟨_,hok,?_⟩
  unfold cg at hQ
  rw[←hX] at hQ
  cases h1:fI X with
  |true=>
   rw[if_pos h1] at hQ
   exact ai rfl hQ
  |false=>
   rw[if_neg (by rw[h1];simp)] at hQ
   refine an rfl ⟨_,wA n k (by omega) (by omega),_,og (cq n k) (by omega),?_⟩
   by_cases h2:8<(cq n k).length
   ·rw[if_pos h2] at hQ
    exact ai (by simp<;>omega) ⟨_,hcp,hQ⟩
   ·rw[if_neg h2] at hQ
    refine an (by simp<;>omega) ⟨_,hok2,?_⟩
    cases h3:fI (cC (cq n k)) with
    |true=>
     rw[if_pos h3] at hQ
     exact an rfl hQ
    |false=>
     rw[if_neg (by rw[h3];simp)] at hQ
     exact ai rfl ⟨_,hcp,hQ⟩
 refine(N6 _ _ _ _ _ _ _ ⟨_,hcp,?_⟩).run
 rw[List.length_map]
 cases hlast:n[n.length-1]? with
 |none=>
  have h0:n.length=0:=Classical.byContradiction fun h=>by rw[List.getElem?_eq_getElem (by omega)] at hlast;cases hlast
  have hX:n++[[k]]=jL n k:=by unfold jL;rw[hlast]
  refine an (by rw[h0,eB (by simp)];simp) ((ai (cW (by simp<;>omega)) ?_))
  rw[show List.append (n.map bX) [[TC.sub 5 [[iI k.b,iI k.a,iI k.k,iI k.c,iI k.g]]]]=(n++[[k]]).map bX from by simp[bX,bu]]
  exact tail _ (fun r fs=>r=WQ (cg n k)∧fs=[]) hX ⟨rfl,by first|rfl|trivial⟩
 |some s=>
  have hlt:=(List.getElem?_eq_some_iff.1 hlast).1
  have hsub:dZ (Int.ofNat n.length) 1=((n.length-1:Nat):Int):=by rw[eB (by simp<;>omega)];simp;omega
  have hrow:rowAt (n.map bX) ((n.length-1:Nat):Int)=some [TC.sub 5 (s.map bu)]:=by rw[bB,aE,hlast];rfl
  have hsl:=hs s (List.mem_of_getElem? hlast)
  have hset:setRow (n.map bX) ((n.length-1:Nat):Int) 0 [TC.sub 5 ((fH s k).map bu)]=(n.set (n.length-1) (fH s k)).map bX:=Ng (a:=s) (a':=fH s k) hlast rfl
  have happ:List.append (n.map bX) [[TC.sub 5 [[iI k.b,iI k.a,iI k.k,iI k.c,iI k.g]]]]=(n++[[k]]).map bX:=by simp[bX,bu]
  have hfit:fits (Nat.succ n.length) 24=true:=cW (by simp<;>omega)
  rw[hsub]
  refine ai (by simp) ⟨_,hrow,?_⟩
  have key: ∀Q:QV,Q (WQ (cg n k)) []→ ∃(n8:Int) (n9:Int) (n10:Int) (n11:Int) (n12:Int) (b13:Bool),aa C fR ([TV.c (TC.sub 5 (s.map bu)),TV.c (iI k.b),TV.c (iI k.a)]) (TV.tu [(1,[iI n8,iI n9,iI n10,iI n11,iI n12]),(0,[iB b13])]) []∧(az b13 (∃(l14:RR),rowAt (n.map bX) ((n.length-1:Nat):Int)=some [TC.sub 5 l14]∧(∃(l15:RR),aa C c7 ([TV.c (TC.sub 5 l14),q7 k]) (TV.c (TC.sub 5 l15)) []∧(∃(l16:RR),rowAt (n.map bX) ((n.length-1:Nat):Int)=some [TC.sub 5 l16]∧(∃(l17:RR),rowAt (n.map bX) ((n.length-1:Nat):Int)=some [TC.sub 5 l17]∧(∃(b18:Bool),aa C bJ ([TV.ag [TC.sub 1 (setRow (n.map bX) ((n.length-1:Nat):Int) 0 [TC.sub 5 l15])]]) (TV.c (iB b18)) []∧(az b18 (Q (TV.tu [(1,[TC.sub 1 (setRow (n.map bX) ((n.length-1:Nat):Int) 0 [TC.sub 5 l15])]),(0,[iB true])]) ([])) (∃(l19:RR),aa C fy ([TV.ag [TC.sub 1 (n.map bX)],q7 k]) (TV.c (TC.sub 5 l19)) []∧(∃(l20:RR),aa C di ([TV.c (TC.sub 5 l19)]) (TV.ag [TC.sub 1 l20]) []∧(az (bK 8 (Int.ofNat (List.length l19))) (∃(l21:RR),aa C aR ([TV.ag [TC.sub 1 (n.map bX)]]) (TV.ag [TC.sub 1 l21]) []∧(Q (TV.tu [(1,[TC.sub 1 l21]),(0,[iB false])]) ([]))) (∃(b22:Bool),aa C bJ ([TV.ag [TC.sub 1 l20]]) (TV.c (iB b22)) []∧(az (!b22) (∃(l23:RR),aa C aR ([TV.ag [TC.sub 1 (n.map bX)]]) (TV.ag [TC.sub 1 l23]) []∧(Q (TV.tu [(1,[TC.sub 1 l23]),(0,[iB false])]) ([]))) (Q (TV.tu [(1,[TC.sub 1 l20]),(0,[iB true])]) ([])))))))))))))
   (∃(l24:RR),rowAt (n.map bX) ((n.length-1:Nat):Int)=some [TC.sub 5 l24]∧(az (bK (Int.ofNat (List.length l24)) 4) (∃(l25:RR),rowAt (n.map bX) ((n.length-1:Nat):Int)=some [TC.sub 5 l25]∧(∃(l26:RR),aa C c7 ([TV.c (TC.sub 5 l25),q7 k]) (TV.c (TC.sub 5 l26)) []∧(∃(l27:RR),rowAt (n.map bX) ((n.length-1:Nat):Int)=some [TC.sub 5 l27]∧(∃(l28:RR),rowAt (n.map bX) ((n.length-1:Nat):Int)=some [TC.sub 5 l28]∧(∃(b18:Bool),aa C bJ ([TV.ag [TC.sub 1 (setRow (n.map bX) ((n.length-1:Nat):Int) 0 [TC.sub 5 l26])]]) (TV.c (iB b18)) []∧(az b18 (Q (TV.tu [(1,[TC.sub 1 (setRow (n.map bX) ((n.length-1:Nat):Int) 0 [TC.sub 5 l26])]),(0,[iB true])]) ([])) (∃(l19:RR),aa C fy ([TV.ag [TC.sub 1 (n.map bX)],q7 k]) (TV.c (TC.sub 5 l19)) []∧(∃(l20:RR),aa C di ([TV.c (TC.sub 5 l19)]) (TV.ag [TC.sub 1 l20]) []∧(az (bK 8 (Int.ofNat (List.length l19))) (∃(l21:RR),aa C aR ([TV.ag [TC.sub 1 (n.map bX)]]) (TV.ag [TC.sub 1 l21]) []∧(Q (TV.tu [(1,[TC.sub 1 l21]),(0,[iB false])]) ([]))) (∃(b22:Bool),aa C bJ ([TV.ag [TC.sub 1 l20]]) (TV.c (iB b22)) []∧(az (!b22) (∃(l23:RR),aa C aR ([TV.ag [TC.sub 1 (n.map bX)]]) (TV.ag [TC.sub 1 l23]) []∧(Q (TV.tu [(1,[TC.sub 1 l23]),(0,[iB false])]) ([]))) (Q (TV.tu [(1,[TC.sub 1 l20]),(0,[iB true])]) ([]))))))))))))) (az (fits (Nat.succ (List.length n)) 24) (∃(b18:Bool),aa C bJ ([TV.ag [TC.sub 1 (List.append (n.map bX) [[TC.sub 5 [[iI k.b,iI k.a,iI k.k,iI k.c,iI k.g]]]])]]) (TV.c (iB b18)) []∧(az b18 (Q (TV.tu [(1,[TC.sub 1 (List.append (n.map bX) [[TC.sub 5 [[iI k.b,iI k.a,iI k.k,iI k.c,iI k.g]]]])]),(0,[iB true])]) ([])) (∃(l19:RR),aa C fy ([TV.ag [TC.sub 1 (n.map bX)],q7 k]) (TV.c (TC.sub 5 l19)) []∧(∃(l20:RR),aa C di ([TV.c (TC.sub 5 l19)]) (TV.ag [TC.sub 1 l20]) []∧(az (bK 8 (Int.ofNat (List.length l19))) (∃(l21:RR),aa C aR ([TV.ag [TC.sub 1 (n.map bX)]]) (TV.ag [TC.sub 1 l21]) []∧(Q (TV.tu [(1,[TC.sub 1 l21]),(0,[iB false])]) ([]))) (∃(b22:Bool),aa C bJ ([TV.ag [TC.sub 1 l20]]) (TV.c (iB b22)) []∧(az (!b22) (∃(l23:RR),aa C aR ([TV.ag [TC.sub 1 (n.map bX)]]) (TV.ag [TC.sub 1 l23]) []∧(Q (TV.tu [(1,[TC.sub 1 l23]),(0,[iB false])]) ([]))) (Q (TV.tu [(1,[TC.sub 1 l20]),(0,[iB true])]) ([]))))))))) (False))))):=by
   intro Q hQ
   refine⟨_,_,_,_,_,_,DE s k.b k.a hsl,?_⟩
   cases h1:(yz s k.b k.a).2 with
   |true=>
    have hX:n.set (n.length-1) (fH s k)=jL n k:=by unfold jL Fb;rw[hlast];simp[h1]
    refine ai rfl ⟨_,hrow,_,qj s k hsl,_,hrow,_,hrow,?_⟩
    rw[hset]
    exact tail _ _ hX hQ
   |false=>
    refine an rfl ⟨_,hrow,?_⟩
    by_cases h2:s.length<4
    ·have hX:n.set (n.length-1) (fH s k)=jL n k:=by unfold jL Fb;rw[hlast];simp[h1,h2]
     refine ai (by simp<;>omega) ⟨_,hrow,_,qj s k hsl,_,hrow,_,hrow,?_⟩
     rw[hset]
     exact tail _ _ hX hQ
    ·have hX:n++[[k]]=jL n k:=by unfold jL Fb;rw[hlast];simp[h1,h2]
     refine an (by simp<;>omega) (ai hfit ?_)
     rw[happ]
     exact tail _ _ hX hQ
  exact⟨(WQ (cg n k),[]),key (fun a b=>(a,b)=(WQ (cg n k),([]:List TV))) rfl,key (fun a b=>(a,b)=(WQ (cg n k),([]:List TV))) rfl,⟨rfl,rfl⟩⟩
theorem IC (n:List (List Key)) (k:Key) (hb:n.length≤1073740000) (hl:tot bH n≤1073740000):aa C Al [gx n,q7 k] (WQ (cg n k)) []:=by
 have hs: ∀s∈n,s.length≤1073741824:=fun s hm=>by have:=nY (w:=bH) hm;unfold bH at this hl;omega
 have hcp:=tw n (by omega) hs
 have hXl:=Fc n k
 have hXt:=Fe n k
 have tail: ∀(X:List (List Key)) (Q:QV),X=jL n k→Q (WQ (cg n k)) []→ ∃(b22:Bool),aa C bM ([TV.ag [TC.sub 1 (X.map bX)]]) (TV.c (iB b22)) []∧(az b22 (Q (TV.tu [(1,[TC.sub 1 (X.map bX)]),(0,[iB true])]) ([])) (∃(l23:RR),aa C aQ ([TV.ag [TC.sub 1 (n.map bX)]]) (TV.c (TC.sub 5 l23)) []∧(∃(l24:RR),aa C bO ([TV.c (TC.sub 5 l23),q7 k]) (TV.c (TC.sub 5 l24)) []∧(∃(l25:RR),aa C dz ([TV.c (TC.sub 5 l24)]) (TV.c (TC.sub 5 l25)) []∧(az (bK 8 (Int.ofNat (List.length l25))) (∃(l26:RR),aa C bF ([TV.ag [TC.sub 1 (n.map bX)]]) (TV.ag [TC.sub 1 l26]) []∧(Q (TV.tu [(1,[TC.sub 1 l26]),(0,[iB false])]) ([]))) (∃(l27:RR),aa C aL ([TV.c (TC.sub 5 l25)]) (TV.ag [TC.sub 1 l27]) []∧(∃(b28:Bool),aa C bM ([TV.ag [TC.sub 1 l27]]) (TV.c (iB b28)) []∧(az (!b28) (∃(l29:RR),aa C bF ([TV.ag [TC.sub 1 (n.map bX)]]) (TV.ag [TC.sub 1 l29]) []∧(Q (TV.tu [(1,[TC.sub 1 l29]),(0,[iB false])]) ([]))) (∃(l30:RR),aa C aL ([TV.c (TC.sub 5 l25)]) (TV.ag [TC.sub 1 l30]) []∧(Q (TV.tu [(1,[TC.sub 1 l30]),(0,[iB true])]) ([]))))))))))):=by
  intro X Q hX hQ
  rw[←hX] at hXl hXt
  have hok:aa C bM [gx X] (vB (fI X)) []:=tf X (by omega) (by omega)
  have hkl:=o9 n k
  have hnl:=vY (cq n k)
  have hnt:=vZ (cq n k)
  have hok2:aa C bM [gx (cC (cq n k))] (vB (fI (cC (cq n k)))) []:=tf _ (by omega) (by omega)
  refine⟨_,hok,?_⟩
  unfold cg at hQ
  rw[←hX] at hQ
  cases h1:fI X with
  |true=>
   rw[if_pos h1] at hQ
   exact ai rfl hQ
  |false=>
   rw[if_neg (by rw[h1];simp)] at hQ
   have g1:=cU n
   have g2:=oS (aJ n) k
   refine an rfl ⟨_,(eO n (by omega) (by omega) _).2 rfl,_,ni (aJ n) k (by omega),_,x8 (fH (aJ n) k) (by omega),?_⟩
   change az (bK 8 (Int.ofNat (List.length ((cq n k).map bu)))) _ _
   by_cases h2:8<(cq n k).length
   ·rw[if_pos h2] at hQ
    exact ai (by simp<;>omega) ⟨_,hcp,hQ⟩
   ·rw[if_neg h2] at hQ
    refine an (by simp<;>omega) ⟨_,jt (cq n k) (by omega),_,hok2,?_⟩
    cases h3:fI (cC (cq n k)) with
    |true=>
     rw[if_pos h3] at hQ
     exact an rfl ⟨_,jt (cq n k) (by omega),hQ⟩
    |false=>
     rw[if_neg (by rw[h3];simp)] at hQ
     exact ai rfl ⟨_,hcp,hQ⟩
 refine(Og _ _ _ _ _ _ _ ⟨_,hcp,?_⟩).run
 rw[List.length_map]
 cases hlast:n[n.length-1]? with
 |none=>
  have h0:n.length=0:=Classical.byContradiction fun h=>by rw[List.getElem?_eq_getElem (by omega)] at hlast;cases hlast
  have hX:n++[[k]]=jL n k:=by unfold jL;rw[hlast]
  refine an (by rw[h0,eB (by simp)];simp) (an (by rw[h0,eB (by simp)];simp) (ai (cW (by simp<;>omega)) ?_))
  rw[show List.append (n.map bX) [[TC.sub 5 [[iI k.b,iI k.a,iI k.k,iI k.c,iI k.g]]]]=(n++[[k]]).map bX from by simp[bX,bu]]
  exact tail _ (fun r fs=>r=WQ (cg n k)∧fs=[]) hX ⟨rfl,by first|rfl|trivial⟩
 |some s=>
  have hlt:=(List.getElem?_eq_some_iff.1 hlast).1
  have hsub:dZ (Int.ofNat n.length) 1=((n.length-1:Nat):Int):=by rw[eB (by simp<;>omega)];simp;omega
  have hrow:rowAt (n.map bX) ((n.length-1:Nat):Int)=some [TC.sub 5 (s.map bu)]:=by rw[bB,aE,hlast];rfl
  have hsl:=hs s (List.mem_of_getElem? hlast)
  have hset:setRow (n.map bX) ((n.length-1:Nat):Int) 0 [TC.sub 5 ((fH s k).map bu)]=(n.set (n.length-1) (fH s k)).map bX:=Ng (a:=s) (a':=fH s k) hlast rfl
  have happ:List.append (n.map bX) [[TC.sub 5 [[iI k.b,iI k.a,iI k.k,iI k.c,iI k.g]]]]=(n++[[k]]).map bX:=by simp[bX,bu]
  have hfit:fits (Nat.succ n.length) 24=true:=cW (by simp<;>omega)
  rw[hsub]
  refine ai (by simp) ⟨_,hrow,_,hrow,_,_,_,_,_,_,DD s k.b k.a hsl,ai (by simp) ⟨_,hrow,_,hrow,?_⟩⟩
  by_cases h2:s.length<4
  ·have hX:n.set (n.length-1) (fH s k)=jL n k:=by unfold jL Fb;rw[hlast];simp[h2]
   refine ai (by simp<;>omega) ⟨_,hrow,_,hrow,_,ni s k hsl,_,hrow,_,hrow,?_⟩
   rw[hset]
   exact tail _ (fun r fs=>r=WQ (cg n k)∧fs=[]) hX ⟨rfl,by first|rfl|trivial⟩
  ·refine an (by simp<;>omega) ?_
   cases h1:(yz s k.b k.a).2 with
   |true=>
    have hX:n.set (n.length-1) (fH s k)=jL n k:=by unfold jL Fb;rw[hlast];simp[h1]
    refine ai rfl ⟨_,hrow,_,hrow,_,ni s k hsl,_,hrow,_,hrow,?_⟩
    rw[hset]
    exact tail _ (fun r fs=>r=WQ (cg n k)∧fs=[]) hX ⟨rfl,by first|rfl|trivial⟩
   |false=>
    have hX:n++[[k]]=jL n k:=by unfold jL Fb;rw[hlast];simp[h1,h2]
    refine an rfl (ai hfit ?_)
    rw[happ]
    exact tail _ (fun r fs=>r=WQ (cg n k)∧fs=[]) hX ⟨rfl,by first|rfl|trivial⟩
theorem uT (t:Tree) (i:Nat) (lw:List Int) (nd:List (List (List Key))) (h1:i+1≤t.lows.length) (h2:i+1≤t.nodes.length) (hl:t.lows.length≤1073741824) (hn:t.nodes.length≤1073741824) (hlw:lw.length≤1073741824) (hnd:nd.length≤1073741824):aa C cG [c6 t,vI (i:Int),lg lw,uI nd] (c6 (lz t i 1 lw nd)) []:=by
 have e1:aA (t.lows.map bC) 0 (i:Int)=(t.lows.take i).map bC:=by rw[cu];rfl
 have e2:aA (t.lows.map bC) ((i:Int)+1) (Int.ofNat (t.lows.map bC).length)=(t.lows.drop (i+1)).map bC:=by
  rw[cu,List.length_map,show((i:Int)+1).toNat=i+1 from by omega,show(Int.ofNat t.lows.length).toNat=t.lows.length from rfl,List.take_length]
 have e3:aA (t.nodes.map aI) 0 (i:Int)=(t.nodes.take i).map aI:=by rw[cu];rfl
 have ea:ay (i:Int) 1=(i:Int)+1:=aC (by omega)
 have k1:(t.lows.take i).length≤t.lows.length:=by rw[List.length_take];omega
 have k2:(t.lows.drop (i+1)).length≤t.lows.length:=by rw[List.length_drop];omega
 have k3:(t.nodes.take i).length≤t.nodes.length:=by rw[List.length_take];omega
 have k4:(t.nodes.drop (i+1)).length≤t.nodes.length:=by rw[List.length_drop];omega
 have e4:aA (t.nodes.map aI) ((i:Int)+1) (Int.ofNat (t.nodes.map aI).length)=(t.nodes.drop (i+1)).map aI:=by
  rw[cu,List.length_map,show((i:Int)+1).toNat=i+1 from by omega,show(Int.ofNat t.nodes.length).toNat=t.nodes.length from rfl,List.take_length]
 refine(SH _ _ _ _ _ _ ?_).run
 rw[ea,e1,e2,e3,e4,kk,kk,kk,kk]
 refine ai (by simp<;>omega) (ai (by simp<;>omega) (ai (by rw[kJ,cW (by simp<;>omega)];rfl) (ai (by rw[kJ,cW (by simp only[List.length_map,Nat.add_eq];omega)];rfl) (ai (by rw[kJ,cW (by simp only[List.length_map,List.length_append,Nat.add_eq];omega)];rfl)
  (ai (by simp<;>omega) (ai (by simp<;>omega) (ai (cW (by simp<;>omega)) (ai (cW (by simp only[List.length_map,Nat.add_eq];omega)) (ai (cW (by simp only[List.length_map,List.length_append,Nat.add_eq];omega)) ?_)))))))))
 exact⟨rfl,by first|rfl|trivial⟩
attribute [local semireducible] iA aA in
theorem WY {rows:RR} {i c:Nat} (hk:i+c≤rows.length):aA (iA 1 rows 0 (i:Int)) ((i:Int)+(c:Int)) (Int.ofNat rows.length)=rows.drop (i+c):=by
 unfold aA iA
 rw[Int.toNat_natCast,show((i:Int)+(c:Int)).toNat=i+c from by omega,show(0:Int).toNat=0 from rfl,show(Int.ofNat rows.length).toNat=rows.length from rfl,List.take_zero,List.nil_append,Nat.sub_zero]
 rw[List.take_of_length_le (by simp<;>omega),List.drop_append,List.length_replicate,List.drop_of_length_le (by simp),List.nil_append,List.drop_drop]
 congr 1;omega
end Go.T.R
