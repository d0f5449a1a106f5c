/- What the functions answer. -/
import Derived.Test.YtiinnfilgnhjfaaGreatTR1
set_option linter.unusedVariables false
set_option linter.unusedSimpArgs false
set_option maxRecDepth 100000
set_option maxHeartbeats 4000000
namespace Go.T.R
open Go Go.T
theorem toKey (v0:Int) (v1:Int) (v2:Int) (v3:Int) (v4:Int):aa C FI [.ag [iI v0,iI v1,iI v2,iI v3,iI v4]] (.ag [iI v0,iI v1,iI v2,iI v3,iI v4]) []:=(S0 _ _ _ _ _ _ ⟨rfl,by first|rfl|trivial⟩).run
theorem adp (v0:Int) (v1:Int) (v2:Int) (v3:Int) (v4:Int):aa C FJ [.ag [iI v0,iI v1,iI v2,iI v3,iI v4],.ag [iI v0,iI v1,iI v2,iI v3,iI v4]] (vB true) []:=by
 refine(S9 _ _ _ _ _ _ _ _ _ _ _ ?_).run
 simp
theorem acp (l:List (Key)) (hl:l.length≤1099511627776):aa C lM [cM l] (cM l) []:=by
 refine(Qw _ _ ?_).run
 simp only[List.length_map]
 refine ai (by simp;omega) ?_
 simp only[gE,Ar,Int.toNat_natCast]
 refine Au (e:=bw) (z:=[iI 0,iI 0,iI 0,iI 0,iI 0]) l (fun i rows=>ah C lM aj 4 0 (qD (l.map bw) i rows) _) (fun a=>rfl) ?_ ?_
 ·exact Cx _ _ _ _ (an (by simp) (L4 _ _ _ _ _ ⟨rfl,by first|rfl|trivial⟩))
 ·intro i rows a hi ha hr hn
  refine Cx _ _ _ _ (ai (by simp;omega) ⟨_,_,_,_,_,cR ha,_,_,_,_,_,toKey _ _ _ _ _,_,_,_,_,_,hr,_,_,_,_,_,hr,?_⟩)
  rw[aB (by omega)]
  exact hn
theorem acq (l:List (Key)) (hl:l.length≤1099511627776):aa C lN [cM l,cM l] (vB true) []:=by
 refine(Q0 _ _ _ ?_).run
 refine an (by simp) ?_
 refine aW l (fun i=>ah C lN aj 4 0 (qJ (l.map bw) (l.map bw) i) _) ?_ ?_
 ·exact CR _ _ _ _ (an (by simp) (Mz _ _ _ _ _ ⟨rfl,by first|rfl|trivial⟩))
 ·intro i a hi ha _ _ hn
  refine CR _ _ _ _ (ai (by simp;omega) ⟨_,_,_,_,_,cR ha,_,_,_,_,_,cR ha,_,adp _ _ _ _ _,an (by simp) ?_⟩)
  rw[aB (by omega)]
  exact hn
theorem adq (v0:Int) (v1:Int):aa C FE [.ag [iI v0,iI v1]] (.ag [iI v0,iI v1]) []:=(Ta _ _ _ ⟨rfl,by first|rfl|trivial⟩).run
theorem adr (v0:Int) (v1:Int):aa C FG [.ag [iI v0,iI v1],.ag [iI v0,iI v1]] (vB true) []:=by
 refine(SU _ _ _ _ _ ?_).run
 simp
theorem acr (l:List (Age)) (hl:l.length≤1099511627776):aa C lE [fG l] (fG l) []:=by
 refine(Ql _ _ ?_).run
 simp only[List.length_map]
 refine ai (by simp;omega) ?_
 simp only[gE,Ar,Int.toNat_natCast]
 refine Au (e:=bT) (z:=[iI 0,iI 0]) l (fun i rows=>ah C lE aj 4 0 (qA (l.map bT) i rows) _) (fun a=>rfl) ?_ ?_
 ·exact Cp _ _ _ _ (an (by simp) (LJ _ _ _ _ _ ⟨rfl,by first|rfl|trivial⟩))
 ·intro i rows a hi ha hr hn
  refine Cp _ _ _ _ (ai (by simp;omega) ⟨_,_,cR ha,_,_,adq _ _,_,_,hr,_,_,hr,?_⟩)
  rw[aB (by omega)]
  exact hn
theorem acs (l:List (Age)) (hl:l.length≤1099511627776):aa C lG [fG l,fG l] (vB true) []:=by
 refine(QB _ _ _ ?_).run
 refine an (by simp) ?_
 refine aW l (fun i=>ah C lG aj 4 0 (qE (l.map bT) (l.map bT) i) _) ?_ ?_
 ·exact Cz _ _ _ _ (an (by simp) (L7 _ _ _ _ _ ⟨rfl,by first|rfl|trivial⟩))
 ·intro i a hi ha _ _ hn
  refine Cz _ _ _ _ (ai (by simp;omega) ⟨_,_,cR ha,_,_,cR ha,_,adr _ _,an (by simp) ?_⟩)
  rw[aB (by omega)]
  exact hn
theorem toCell (v0:Int) (v1:Bool) (v2:Int):aa C DG [.ag [iI v0,iB v1,iI v2]] (.ag [iI v0,iB v1,iI v2]) []:=(PL _ _ _ _ ⟨rfl,by first|rfl|trivial⟩).run
theorem acu (v0:Int) (v1:Bool) (v2:Int):aa C DH [.ag [iI v0,iB v1,iI v2],.ag [iI v0,iB v1,iI v2]] (vB true) []:=by
 refine(P3 _ _ _ _ _ _ _ ?_).run
 simp
theorem aaQ (l:List (Cell)) (hl:l.length≤1099511627776):aa C jQ [iD l] (iD l) []:=by
 refine(OS _ _ ?_).run
 simp only[List.length_map]
 refine ai (by simp;omega) ?_
 simp only[gE,Ar,Int.toNat_natCast]
 refine Au (e:=bR) (z:=[iI 0,iB false,iI 0]) l (fun i rows=>ah C jQ aj 4 0 (pP (l.map bR) i rows) _) (fun a=>rfl) ?_ ?_
 ·exact zT _ _ _ _ (an (by simp) (JP _ _ _ _ _ ⟨rfl,by first|rfl|trivial⟩))
 ·intro i rows a hi ha hr hn
  refine zT _ _ _ _ (ai (by simp;omega) ⟨_,_,_,cR ha,_,_,_,toCell _ _ _,_,_,_,hr,_,_,_,hr,?_⟩)
  rw[aB (by omega)]
  exact hn
theorem aaR (l:List (Cell)) (hl:l.length≤1099511627776):aa C jR [iD l,iD l] (vB true) []:=by
 refine(Ob _ _ _ ?_).run
 refine an (by simp) ?_
 refine aW l (fun i=>ah C jR aj 4 0 (pH (l.map bR) (l.map bR) i) _) ?_ ?_
 ·exact zA _ _ _ _ (an (by simp) (Ja _ _ _ _ _ ⟨rfl,by first|rfl|trivial⟩))
 ·intro i a hi ha _ _ hn
  refine zA _ _ _ _ (ai (by simp;omega) ⟨_,_,_,cR ha,_,_,_,cR ha,_,acu _ _ _,an (by simp) ?_⟩)
  rw[aB (by omega)]
  exact hn
theorem adt (v0:ByteArray) (v1:Int) (v2:Int) (v3:Bool):aa C FF [.ag [iS v0,iI v1,iI v2,iB v3]] (.ag [iS v0,iI v1,iI v2,iB v3]) []:=(SZ _ _ _ _ _ ⟨rfl,by first|rfl|trivial⟩).run
theorem adu (v0:ByteArray) (v1:Int) (v2:Int) (v3:Bool):aa C FH [.ag [iS v0,iI v1,iI v2,iB v3],.ag [iS v0,iI v1,iI v2,iB v3]] (vB true) []:=by
 refine(S4 _ _ _ _ _ _ _ _ _ ?_).run
 simp
theorem acv (l:List (Vol)) (hl:l.length≤1099511627776):aa C lF [yK l] (yK l) []:=by
 refine(PE _ _ ?_).run
 simp only[List.length_map]
 refine ai (by simp;omega) ?_
 simp only[gE,Ar,Int.toNat_natCast]
 refine Au (e:=dh) (z:=[iS bs0,iI 0,iI 0,iB false]) l (fun i rows=>ah C lF aj 4 0 (qq (l.map dh) i rows) _) (fun a=>rfl) ?_ ?_
 ·exact B3 _ _ _ _ (an (by simp) (KZ _ _ _ _ _ ⟨rfl,by first|rfl|trivial⟩))
 ·intro i rows a hi ha hr hn
  refine B3 _ _ _ _ (ai (by simp;omega) ⟨_,_,_,_,cR ha,_,_,_,_,adt _ _ _ _,_,_,_,_,hr,_,_,_,_,hr,?_⟩)
  rw[aB (by omega)]
  exact hn
theorem acw (l:List (Vol)) (hl:l.length≤1099511627776):aa C lH [yK l,yK l] (vB true) []:=by
 refine(PZ _ _ _ ?_).run
 refine an (by simp) ?_
 refine aW l (fun i=>ah C lH aj 4 0 (qw (l.map dh) (l.map dh) i) _) ?_ ?_
 ·exact B9 _ _ _ _ (an (by simp) (Lf _ _ _ _ _ ⟨rfl,by first|rfl|trivial⟩))
 ·intro i a hi ha _ _ hn
  refine B9 _ _ _ _ (ai (by simp;omega) ⟨_,_,_,_,cR ha,_,_,_,_,cR ha,_,adu _ _ _ _,an (by simp) ?_⟩)
  rw[aB (by omega)]
  exact hn
theorem acy (l:List (Int)) (hl:l.length≤1099511627776):aa C lJ [lz l] (lz l) []:=by
 refine(P2 _ _ ?_).run
 simp only[List.length_map]
 refine ai (by simp;omega) ?_
 simp only[gE,Ar,Int.toNat_natCast]
 refine Au (e:=bq) (z:=[iI 0]) l (fun i rows=>ah C lJ aj 4 0 (qx (l.map bq) i rows) _) (fun a=>rfl) ?_ ?_
 ·exact Cc _ _ _ _ (an (by simp) (Lo _ _ _ _ _ ⟨rfl,by first|rfl|trivial⟩))
 ·intro i rows a hi ha hr hn
  refine Cc _ _ _ _ (ai (by simp;omega) ⟨_,cR ha,_,hr,_,hr,?_⟩)
  rw[aB (by omega)]
  exact hn
theorem acz (l:List (Int)) (hl:l.length≤1099511627776):aa C lK [lz l,lz l] (vB true) []:=by
 refine(Qn _ _ _ ?_).run
 refine an (by simp) ?_
 refine aW l (fun i=>ah C lK aj 4 0 (qB (l.map bq) (l.map bq) i) _) ?_ ?_
 ·exact Cq _ _ _ _ (an (by simp) (LP _ _ _ _ _ ⟨rfl,by first|rfl|trivial⟩))
 ·intro i a hi ha _ _ hn
  refine Cq _ _ _ _ (ai (by simp;omega) ⟨_,cR ha,_,cR ha,an (by simp) ?_⟩)
  rw[aB (by omega)]
  exact hn
theorem aaS (l:List (List Key)) (hl:l.length≤1099511627776) (hs: ∀s∈l,s.length≤1099511627776):aa C jU [GP l] (GP l) []:=by
 refine(OD _ _ ?_).run
 simp only[List.length_map]
 refine ai (by simp;omega) ?_
 simp only[gE,Ar,Int.toNat_natCast]
 refine Au (e:=bX) (z:=[TC.sub 5 []]) l (fun i rows=>ah C jU aj 4 0 (pK (l.map bX) i rows) _) (fun a=>rfl) ?_ ?_
 ·exact zO _ _ _ _ (an (by simp) (JB _ _ _ _ _ ⟨rfl,by first|rfl|trivial⟩))
 ·intro i rows a hi ha hr hn
  refine zO _ _ _ _ (ai (by simp;omega) ⟨_,cR ha,_,acp _ (hs _ (List.mem_of_getElem? ha)),_,hr,_,hr,?_⟩)
  rw[aB (by omega)]
  exact hn
def G1 (n:List (List Key)):Prop:=n.length≤1099511627776∧ ∀s∈n,s.length≤1099511627776
def acA (l:List (List (List Key))):Prop:=l.length≤1099511627776∧ ∀n∈l,G1 n
def RJ (t:Tree):Prop:=t.lows.length≤1099511627776∧acA t.nodes
theorem acB (n:List (List Key)) (h:G1 n):aa C DK [gz n] (gz n) []:=(PS _ _ ⟨_,aaS n h.1 h.2,rfl,rfl⟩).run
theorem aaT (l:List (List (List Key))) (hl:l.length≤1099511627776) (hs: ∀n∈l,G1 n):aa C jS [uR l] (uR l) []:=by
 refine(OI _ _ ?_).run
 simp only[List.length_map]
 refine ai (by simp;omega) ?_
 simp only[gE,Ar,Int.toNat_natCast]
 refine Au (e:=aH) (z:=[TC.sub 1 []]) l (fun i rows=>ah C jS aj 4 0 (pM (l.map aH) i rows) _) (fun a=>rfl) ?_ ?_
 ·exact zQ _ _ _ _ (an (by simp) (JE _ _ _ _ _ ⟨rfl,by first|rfl|trivial⟩))
 ·intro i rows a hi ha hr hn
  refine zQ _ _ _ _ (ai (by simp;omega) ⟨_,cR ha,_,acB _ (hs _ (List.mem_of_getElem? ha)),_,hr,_,hr,?_⟩)
  rw[aB (by omega)]
  exact hn
theorem toTree (t:Tree) (h:RJ t):aa C DA [c8 t] (c8 t) []:=(PY _ _ _ ⟨_,acy _ h.1,_,aaT _ h.2.1 h.2.2,rfl,rfl⟩).run
theorem aaU (l:List (List Key)) (hl:l.length≤1099511627776) (hs: ∀s∈l,s.length≤1099511627776):aa C jV [GP l,GP l] (vB true) []:=by
 refine(OP _ _ _ ?_).run
 refine an (by simp) ?_
 refine aW l (fun i=>ah C jV aj 4 0 (pO (l.map bX) (l.map bX) i) _) ?_ ?_
 ·exact zS _ _ _ _ (an (by simp) (JN _ _ _ _ _ ⟨rfl,by first|rfl|trivial⟩))
 ·intro i a hi ha _ _ hn
  refine zS _ _ _ _ (ai (by simp;omega) ⟨_,cR ha,_,cR ha,_,acq _ (hs _ (List.mem_of_getElem? ha)),an (by simp) ?_⟩)
  rw[aB (by omega)]
  exact hn
theorem acC (n:List (List Key)) (h:G1 n):aa C DL [gz n,gz n] (vB true) []:=(Qb _ _ _ ⟨_,aaU n h.1 h.2,by simp⟩).run
theorem aaV (l:List (List (List Key))) (hl:l.length≤1099511627776) (hs: ∀n∈l,G1 n):aa C jT [uR l,uR l] (vB true) []:=by
 refine(OU _ _ _ ?_).run
 refine an (by simp) ?_
 refine aW l (fun i=>ah C jT aj 4 0 (pQ (l.map aH) (l.map aH) i) _) ?_ ?_
 ·exact zU _ _ _ _ (an (by simp) (JQ _ _ _ _ _ ⟨rfl,by first|rfl|trivial⟩))
 ·intro i a hi ha _ _ hn
  refine zU _ _ _ _ (ai (by simp;omega) ⟨_,cR ha,_,cR ha,_,acC _ (hs _ (List.mem_of_getElem? ha)),an (by simp) ?_⟩)
  rw[aB (by omega)]
  exact hn
theorem acD (t:Tree) (h:RJ t):aa C DB [c8 t,c8 t] (vB true) []:=(Qm _ _ _ _ _ ⟨_,acz _ h.1,an rfl ⟨_,aaV _ h.2.1 h.2.2,by simp⟩⟩).run
structure Uz (p:Pool):Prop where
 t:RJ p.t
 ages:p.ages.length≤1099511627776
 cells:p.cells.length≤1099511627776
 vols:p.vols.length≤1099511627776
theorem SH (p:Pool) (h:Uz p):aa C q7 [eX p] (eX p) []:=(PW _ _ _ _ _ _ _ ⟨_,_,toTree p.t h.t,_,acr _ h.ages,_,aaQ _ h.cells,_,acv _ h.vols,rfl,rfl⟩).run
theorem SI (p:Pool) (h:Uz p):aa C q8 [eX p,eX p] (vB true) []:=(Qz _ _ _ _ _ _ _ _ _ _ _ _ _ ⟨_,acD p.t h.t,an rfl ⟨_,acs _ h.ages,an rfl ⟨_,aaR _ h.cells,an rfl ⟨_,acw _ h.vols,an rfl (by simp)⟩⟩⟩⟩).run
theorem acE (l:List (Int)) (left:Int) (h0:0≤left∧left≤1048576) (hl:l.length≤140737488355328):aa C DF [lz l,vI left] (vI (m4 left l.length)) []:=by
 refine(PJ _ _ _ ?_).run
 simp only[List.length_map,gE]
 rw[eD (by omega)]
 unfold m4
 simp only[dK,bu]
 by_cases h:left<(l.length:Int)
 ·rw[if_pos (by omega),if_pos h];exact⟨rfl,by first|rfl|trivial⟩
 ·rw[if_neg (by omega),if_neg h];exact⟨rfl,by first|rfl|trivial⟩
theorem acF (l:List (Key)) (left:Int) (h0:0≤left∧left≤1048576) (hl:l.length≤140737488355328):aa C DM [cM l,vI left] (vI (m4 left l.length)) []:=by
 refine(Qk _ _ _ ?_).run
 simp only[List.length_map,gE]
 rw[eD (by omega)]
 unfold m4
 simp only[dK,bu]
 by_cases h:left<(l.length:Int)
 ·rw[if_pos (by omega),if_pos h];exact⟨rfl,by first|rfl|trivial⟩
 ·rw[if_neg (by omega),if_neg h];exact⟨rfl,by first|rfl|trivial⟩
theorem acG (l:List (Age)) (left:Int) (h0:0≤left∧left≤1048576) (hl:l.length≤140737488355328):aa C Dz [fG l,vI left] (vI (m4 left l.length)) []:=by
 refine(PX _ _ _ ?_).run
 simp only[List.length_map,gE]
 rw[eD (by omega)]
 unfold m4
 simp only[dK,bu]
 by_cases h:left<(l.length:Int)
 ·rw[if_pos (by omega),if_pos h];exact⟨rfl,by first|rfl|trivial⟩
 ·rw[if_neg (by omega),if_neg h];exact⟨rfl,by first|rfl|trivial⟩
theorem aaW (l:List (Cell)) (left:Int) (h0:0≤left∧left≤1048576) (hl:l.length≤140737488355328):aa C AA [iD l,vI left] (vI (m4 left l.length)) []:=by
 refine(OG _ _ _ ?_).run
 simp only[List.length_map,gE]
 rw[eD (by omega)]
 unfold m4
 simp only[dK,bu]
 by_cases h:left<(l.length:Int)
 ·rw[if_pos (by omega),if_pos h];exact⟨rfl,by first|rfl|trivial⟩
 ·rw[if_neg (by omega),if_neg h];exact⟨rfl,by first|rfl|trivial⟩
theorem aaX (l:List (List Key)) (left:Int) (h0:0≤left∧left≤1048576) (hl:l.length≤140737488355328) (hs: ∀s∈l,s.length≤140737488355328):aa C gr [GP l,vI left] (vI (m4 left (l.length+tot bH l))) []:=by
 refine(On _ _ _ ?_).run
 simp only[List.length_map,gE]
 rw[eD (by omega)]
 simp only[dK,bu]
 by_cases h:left<(l.length:Int)
 ·rw[if_pos (by omega)]
  refine⟨?_,by first|rfl|trivial⟩
  unfold m4
  rw[if_pos (by omega)]
 ·rw[if_neg (by omega)]
  have key: ∀cur:Int,0≤cur∧cur≤1048576→m4 cur (tot bH (l.drop 0))=m4 left (l.length+tot bH l)→ah C gr av 4 0 (mN (l.map bX) cur ((0:Nat):Int)) (fun x st=>au C gr av x st fun r fs=>r=vI (m4 left (l.length+tot bH l))∧fs=[]):=by
   refine aW l (fun i=> ∀cur:Int,0≤cur∧cur≤1048576→m4 cur (tot bH (l.drop i))=m4 left (l.length+tot bH l)→ah C gr av 4 0 (mN (l.map bX) cur i) _) ?_ ?_
   ·intro cur hc he
    refine zI _ _ _ _ (an (by simp) (Jr _ _ _ _ _ ⟨?_,by first|rfl|trivial⟩))
    rw[←he,List.drop_length]
    unfold m4 tot
    rw[if_neg (by omega)]
    simp
   ·intro i a hi ha hd _ hn cur hc he
    rw[hd] at he
    simp only[tot] at he
    refine zI _ _ _ _ (ai (by simp;omega) ⟨_,cR ha,_,acF a cur hc (hs a (List.mem_of_getElem? ha)),?_⟩)
    by_cases hw:cur<(bH a:Int)
    ·refine ai (by simp[m4,bH] at hw ⊢;omega) (Jq _ ⟨?_,by first|rfl|trivial⟩)
     rw[←he]
     unfold m4
     rw[if_pos (by omega)]
    ·have hl2:m4 cur (bH a)=cur-bH a:=if_neg hw
     refine an (by simp[m4,bH] at hw ⊢;omega) ?_
     rw[aB (by omega)]
     have:=hn (cur-bH a) (by omega) (by rw[←he];unfold m4;split<;>split<;>omega)
     rw[←hl2] at this
     exact this
  refine key (left-l.length) (by omega) ?_
  simp only[List.drop_zero]
  unfold m4
  split<;>split<;>omega
theorem VO (n:List (List Key)) (left:Int) (h0:0≤left∧left≤1048576) (hl:n.length≤140737488355328) (hs: ∀s∈n,s.length≤140737488355328):aa C DJ [gz n,vI left] (vI (m4 left (aI n))) []:=by
 refine(Qs _ _ _ ⟨_,aaX n left h0 hl hs,?_⟩).run
 show az _ _ _
 unfold aI
 simp only[dK,bu]
 split
 ·refine⟨?_,by first|rfl|trivial⟩
  unfold m4 at*
  split<;>simp_all<;>omega
 ·simp
theorem aaY (l:List (List (List Key))) (left:Int) (h0:0≤left∧left≤1048576) (hl:l.length≤140737488355328) (hs: ∀n∈l,n.length≤140737488355328∧ ∀s∈n,s.length≤140737488355328):aa C gq [uR l,vI left] (vI (m4 left (l.length+tot aI l))) []:=by
 refine(Ow _ _ _ ?_).run
 simp only[List.length_map,gE]
 rw[eD (by omega)]
 simp only[dK,bu]
 by_cases h:left<(l.length:Int)
 ·rw[if_pos (by omega)]
  refine⟨?_,by first|rfl|trivial⟩
  unfold m4
  rw[if_pos (by omega)]
 ·rw[if_neg (by omega)]
  have key: ∀cur:Int,0≤cur∧cur≤1048576→m4 cur (tot aI (l.drop 0))=m4 left (l.length+tot aI l)→ah C gq av 4 0 (mP (l.map aH) cur ((0:Nat):Int)) (fun x st=>au C gq av x st fun r fs=>r=vI (m4 left (l.length+tot aI l))∧fs=[]):=by
   refine aW l (fun i=> ∀cur:Int,0≤cur∧cur≤1048576→m4 cur (tot aI (l.drop i))=m4 left (l.length+tot aI l)→ah C gq av 4 0 (mP (l.map aH) cur i) _) ?_ ?_
   ·intro cur hc he
    refine zK _ _ _ _ (an (by simp) (Ju _ _ _ _ _ ⟨?_,by first|rfl|trivial⟩))
    rw[←he,List.drop_length]
    unfold m4 tot
    rw[if_neg (by omega)]
    simp
   ·intro i a hi ha hd _ hn cur hc he
    rw[hd] at he
    simp only[tot] at he
    refine zK _ _ _ _ (ai (by simp;omega) ⟨_,cR ha,_,VO a cur hc (hs a (List.mem_of_getElem? ha)).1 (hs a (List.mem_of_getElem? ha)).2,?_⟩)
    by_cases hw:cur<(aI a:Int)
    ·refine ai (by simp[m4,aI] at hw ⊢;omega) (Jt _ ⟨?_,by first|rfl|trivial⟩)
     rw[←he]
     unfold m4
     rw[if_pos (by omega)]
    ·have hl2:m4 cur (aI a)=cur-aI a:=if_neg hw
     refine an (by simp[m4,aI] at hw ⊢;omega) ?_
     rw[aB (by omega)]
     have:=hn (cur-aI a) (by omega) (by rw[←he];unfold m4;split<;>split<;>omega)
     rw[←hl2] at this
     exact this
  refine key (left-l.length) (by omega) ?_
  simp only[List.drop_zero]
  unfold m4
  split<;>split<;>omega
theorem MQ {a:Int} {n m:Nat} (h: ¬m4 a n<0) (h0:0≤a):m4 (m4 a n) m=m4 a (n+m):=by unfold m4 at*;split<;>split<;>split<;>simp_all<;>omega
theorem SJ {a:Int} {n:Nat} (h: ¬m4 a n<0) (h0:0≤a∧a≤1048576):0≤m4 a n∧m4 a n≤1048576:=by unfold m4 at*;split<;>simp_all<;>omega
theorem MR {a:Int} {n m:Nat} (h:m4 a n<0) (h0:0≤a):m4 a (n+m)= -1:=by unfold m4 at*;split<;>simp_all<;>omega
structure ZC (t:Tree):Prop where
 lows:t.lows.length≤140737488355328
 nodes:t.nodes.length≤140737488355328
 node: ∀n∈t.nodes,n.length≤140737488355328∧ ∀s∈n,s.length≤140737488355328
theorem VP (t:Tree) (left:Int) (h0:0≤left∧left≤1048576) (h:ZC t):aa C Dy [c8 t,vI left] (vI (m4 left (cz t))) []:=by
 refine(PD _ _ _ _ ⟨_,acE _ left h0 h.lows,?_⟩).run
 unfold cz rH
 refine qd (fun hb=> ?_) fun hb=>⟨_,aaY _ _ (SJ (by simpa using hb) h0) h.nodes h.node,?_⟩
 ·rw[MR (by simpa using hb) h0.1];exact⟨rfl,by first|rfl|trivial⟩
 ·have hb: ¬m4 left t.lows.length<0:=by simpa using hb
  rw[MQ hb h0.1]
  refine qd (fun hc=> ?_) fun hc=>⟨rfl,by first|rfl|trivial⟩
  refine⟨?_,by first|rfl|trivial⟩
  have hc:m4 left (t.lows.length+(t.nodes.length+tot aI t.nodes))<0:=by simpa using hc
  unfold m4 at*
  split<;>simp_all<;>omega
theorem Xq (s:ByteArray) (a z:Int) (f:Bool) (left:Int) (h0:0≤left∧left≤1048576) (hl:s.size≤140737488355328):aa C FD [.ag [iS s,iI a,iI z,iB f],vI left] (vI (m4 left s.size)) []:=by
 refine(S3 _ _ _ _ _ _ ?_).run
 simp only[Iw,gE]
 rw[eD (by omega)]
 unfold m4
 simp only[dK,bu]
 by_cases h:left<(s.size:Int)
 ·rw[if_pos (by omega),if_pos h];exact⟨rfl,by first|rfl|trivial⟩
 ·rw[if_neg (by omega),if_neg h];exact⟨rfl,by first|rfl|trivial⟩
theorem acH (l:List (Vol)) (left:Int) (h0:0≤left∧left≤1048576) (hl:l.length≤140737488355328) (hs: ∀v∈l,v.name.size≤140737488355328):aa C ig [yK l,vI left] (vI (m4 left (l.length+tot qZ l))) []:=by
 refine(QA _ _ _ ?_).run
 simp only[List.length_map,gE]
 rw[eD (by omega)]
 simp only[dK,bu]
 by_cases h:left<(l.length:Int)
 ·rw[if_pos (by omega)]
  refine⟨?_,by first|rfl|trivial⟩
  unfold m4
  rw[if_pos (by omega)]
 ·rw[if_neg (by omega)]
  have key: ∀cur:Int,0≤cur∧cur≤1048576→m4 cur (tot qZ (l.drop 0))=m4 left (l.length+tot qZ l)→ah C ig av 4 0 (nH (l.map dh) cur ((0:Nat):Int)) (fun x st=>au C ig av x st fun r fs=>r=vI (m4 left (l.length+tot qZ l))∧fs=[]):=by
   refine aW l (fun i=> ∀cur:Int,0≤cur∧cur≤1048576→m4 cur (tot qZ (l.drop i))=m4 left (l.length+tot qZ l)→ah C ig av 4 0 (nH (l.map dh) cur i) _) ?_ ?_
   ·intro cur hc he
    refine Cy _ _ _ _ (an (by simp) (L6 _ _ _ _ _ ⟨?_,by first|rfl|trivial⟩))
    rw[←he,List.drop_length]
    unfold m4 tot
    rw[if_neg (by omega)]
    simp
   ·intro i a hi ha hd _ hn cur hc he
    rw[hd] at he
    simp only[tot] at he
    refine Cy _ _ _ _ (ai (by simp;omega) ⟨_,_,_,_,cR ha,_,Xq _ _ _ _ cur hc (hs a (List.mem_of_getElem? ha)),?_⟩)
    by_cases hw:cur<(qZ a:Int)
    ·refine ai (by simp[m4,qZ] at hw ⊢;omega) (L5 _ ⟨?_,by first|rfl|trivial⟩)
     rw[←he]
     unfold m4
     rw[if_pos (by omega)]
    ·have hl2:m4 cur (qZ a)=cur-qZ a:=if_neg hw
     refine an (by simp[m4,qZ] at hw ⊢;omega) ?_
     rw[aB (by omega)]
     have:=hn (cur-qZ a) (by omega) (by rw[←he];unfold m4;split<;>split<;>omega)
     rw[←hl2] at this
     exact this
  refine key (left-l.length) (by omega) ?_
  simp only[List.drop_zero]
  unfold m4
  split<;>split<;>omega
structure WG (p:Pool):Prop where
 t:ZC p.t
 ages:p.ages.length≤140737488355328
 cells:p.cells.length≤140737488355328
 vols:p.vols.length≤140737488355328
 vol: ∀v∈p.vols,v.name.size≤140737488355328
 siz: ∀v∈p.vols,v.size≤9223372036854775807
theorem VQ (p:Pool) (left:Int) (h0:0≤left∧left≤1048576) (h:WG p):aa C Dx [eX p,vI left] (vI (m4 left (cc p))) []:=by
 refine(Qy _ _ _ _ _ _ _ _ ⟨_,VP p.t left h0 h.t,?_⟩).run
 unfold cc Iz
 refine qd (fun hb=> ?_) fun hb=>⟨_,acG _ _ (SJ (by simpa using hb) h0) h.ages,?_⟩
 ·rw[Nat.add_assoc,Nat.add_assoc,MR (by simpa using hb) h0.1];exact⟨rfl,by first|rfl|trivial⟩
 rw[MQ (by simpa using hb) h0.1]
 refine qd (fun hb=> ?_) fun hb=>⟨_,aaW _ _ (SJ (by simpa using hb) h0) h.cells,?_⟩
 ·rw[Nat.add_assoc,MR (by simpa using hb) h0.1];exact⟨rfl,by first|rfl|trivial⟩
 rw[MQ (by simpa using hb) h0.1]
 refine qd (fun hb=> ?_) fun hb=>⟨_,acH _ _ (SJ (by simpa using hb) h0) h.vols h.vol,?_⟩
 ·rw[MR (by simpa using hb) h0.1];exact⟨rfl,by first|rfl|trivial⟩
 rw[MQ (by simpa using hb) h0.1]
 refine qd (fun hc=> ?_) fun hc=>⟨rfl,by first|rfl|trivial⟩
 refine⟨?_,by first|rfl|trivial⟩
 have hc:m4 left (cz p.t+p.ages.length+p.cells.length+(p.vols.length+tot qZ p.vols))<0:=by simpa using hc
 unfold m4 at*
 split<;>simp_all<;>omega
theorem uZ (a b c:Int):aa C dw [vI a,vI b,vI c] (vB (jZ a b c)) []:=by
 refine(QD _ _ _ _ ?_).run
 simp only[gD,bu,jZ]
 split<;>simp_all<;>omega
theorem DN (a b c:Int):aa C fh [vI a,vI b,vI c] (vB (jZ a b c)) []:=by
 refine(UL _ _ _ _ ?_).run
 simp only[gD,bu,jZ]
 split<;>simp_all<;>omega
@[simp] theorem td (a b c:Int) (q:Bool):aa C dw [vI a,vI b,vI c] (vB q) []↔q=jZ a b c:=rI (uZ a b c)
@[simp] theorem DO (a b c:Int) (q:Bool):aa C fh [vI a,vI b,vI c] (vB q) []↔q=jZ a b c:=rI (DN a b c)
theorem NY (b a k c g:Int):aa C uW [.ag [iI b,iI a,iI k,iI c,iI g]] (vB (gY ⟨b,a,k,c,g⟩)) []:=by
 refine(Tc _ _ _ _ _ _ ?_).run
 simp only[td,exists_eq_left,gY,aD,bJ,bu]
 cases jZ b 0 15<;>cases jZ a 1 60<;>cases jZ k 0 2<;>by_cases h:k=1<;>by_cases h1:c=0<;>by_cases h2:g=0<;>cases jZ c 0 23<;>simp_all
theorem NZ (b a k c g:Int):aa C uV [.ag [iI b,iI a,iI k,iI c,iI g]] (vB (gY ⟨b,a,k,c,g⟩)) []:=by
 refine(SV _ _ _ _ _ _ ?_).run
 simp only[DO,exists_eq_left,gY,aD,bJ,bu]
 cases jZ b 0 15<;>cases jZ a 1 60<;>cases jZ k 0 2<;>by_cases h:k=1<;>by_cases h1:c=0<;>by_cases h2:g=0<;>cases jZ c 0 23<;>simp_all
@[simp] theorem G2 (b a k c g:Int) (q:Bool):aa C uW [.ag [iI b,iI a,iI k,iI c,iI g]] (vB q) []↔q=gY ⟨b,a,k,c,g⟩:=rI (NY b a k c g)
@[simp] theorem G3 (b a k c g:Int) (q:Bool):aa C uV [.ag [iI b,iI a,iI k,iI c,iI g]] (vB q) []↔q=gY ⟨b,a,k,c,g⟩:=rI (NZ b a k c g)
@[simp] theorem DP (b a k c g b' a' k' c' g':Int) (q:Bool):aa C uv [.ag [iI b,iI a,iI k,iI c,iI g],.ag [iI b',iI a',iI k',iI c',iI g']] (vB q) []↔q=dU ⟨b,a,k,c,g⟩ ⟨b',a',k',c',g'⟩:=rI (by
  refine(OE _ _ _ _ _ _ _ _ _ _ _ ?_).run
  simp only[dK,aD,bu,dU]
  by_cases h1:b<b'<;>by_cases h2:b=b'<;>simp_all)
@[simp] theorem DQ (b a k c g b' a' k' c' g':Int) (q:Bool):aa C ur [.ag [iI b,iI a,iI k,iI c,iI g],.ag [iI b',iI a',iI k',iI c',iI g']] (vB q) []↔q=dU ⟨b,a,k,c,g⟩ ⟨b',a',k',c',g'⟩:=rI (by
  refine(Ol _ _ _ _ _ _ _ _ _ _ _ ?_).run
  simp only[dK,aD,bJ,bu,dU]
  by_cases h2:b=b'<;>simp_all)
@[simp] theorem Kv (b a k c g b' a' k' c' g':Int) (q:Bool):aa C qg [.ag [iI b,iI a,iI k,iI c,iI g],.ag [iI b',iI a',iI k',iI c',iI g']] (vB q) []↔q=mK ⟨b,a,k,c,g⟩ ⟨b',a',k',c',g'⟩:=rI (by
  refine(L3 _ _ _ _ _ _ _ _ _ _ _ ?_).run
  simp only[dK,aD,bJ,bu,mK]
  by_cases h2:b=b'<;>simp_all)
@[simp] theorem Kw (b a k c g b' a' k' c' g':Int) (q:Bool):aa C qf [.ag [iI b,iI a,iI k,iI c,iI g],.ag [iI b',iI a',iI k',iI c',iI g']] (vB q) []↔q=mK ⟨b,a,k,c,g⟩ ⟨b',a',k',c',g'⟩:=rI (by
  refine(LC _ _ _ _ _ _ _ _ _ _ _ ?_).run
  simp only[dK,aD,bJ,bu,mK]
  by_cases h2:b=b'<;>simp_all)
theorem nr (l:List Key) (x:Key) (hl:l.length≤1073741824):aa C bO [cM l,ru x] (cM (fJ l x)) []:=by
 refine(P6 _ _ _ _ _ _ _ ?_).run
 have key: ∀(put:Bool) (acc:List Key),acc.length+(l.drop 0).length≤l.length+(if put then 1 else 0)→acc++fI x put (l.drop 0)=fJ l x→ah C bO av 4 0 (fE (l.map bw) put ((0:Nat):Int) x.b x.a x.k x.c x.g (acc.map bw)) (fun u st=>au C bO av u st fun r fs=>r=cM (fJ l x)∧fs=[]):=by
  refine aW l (fun i=> ∀(put:Bool) (acc:List Key),acc.length+(l.drop i).length≤l.length+(if put then 1 else 0)→acc++fI x put (l.drop i)=fJ l x→ah C bO av 4 0 (fE (l.map bw) put i x.b x.a x.k x.c x.g (acc.map bw)) _) ?_ ?_
  ·intro put acc hb he
   refine Cg _ _ _ _ _ _ _ _ _ _ (an (by simp) (Lv _ _ _ _ _ _ _ _ _ _ _ ?_))
   simp only[wm,dg,m5,Bool.true_and,bJ,ck,List.length_map]
   have hb2:acc.length≤l.length+1:=by simp at hb;split at hb<;>omega
   rw[cZ (by omega)]
   rw[List.drop_length] at he
   cases put<;>simp[fI] at he ⊢ <;>rw[←he]<;>simp
  ·intro i a hi ha hd _ hn put acc hb he
   rw[hd] at hb he
   simp only[List.length_cons] at hb
   have hb':acc.length+(List.drop (i+1) l).length+1≤l.length+1:=by split at hb<;>omega
   refine Cg _ _ _ _ _ _ _ _ _ _ (ai (by simp;omega) ?_)
   simp only[jj,aE,ha,Option.some.injEq,exists_eq_left',DQ,Kw,exists_eq_left,bJ,dg,wm,m5,Bool.true_and,ck,List.length_map,List.length_append,List.length_singleton]
   simp (disch:=omega) only[cZ,aB,lu]
   simp only[fI] at he
   cases put<;>cases hk:dU a x<;>cases hs:mK a x<;>simp only[lu,mI]<;>simp[hk,hs] at he hb<;>exact hn _ _ (by simp at hb ⊢;omega) (by simpa using he)
 exact key false [] (by simp) rfl
@[simp] theorem Pf (l:List Key) (hl:l.length≤1073741824) (b a k c g:Int) (q:RR):aa C bO [.c (.sub 5 (l.map bw)),.ag [iI b,iI a,iI k,iI c,iI g]] (.c (.sub 5 q)) []↔q=(fJ l ⟨b,a,k,c,g⟩).map bw:=Uh (nr l ⟨b,a,k,c,g⟩ hl)
theorem qo (l:List Key) (x:Key) (hl:l.length≤1073741824):aa C de [cM l,ru x] (cM (fJ l x)) []:=by
 refine(QW _ _ _ _ _ _ _ ?_).run
 have key: ∀(put:Bool) (acc:List Key),acc.length+(l.drop 0).length≤l.length+(if put then 1 else 0)→acc++fI x put (l.drop 0)=fJ l x→ah C de av 4 0 (fF put (l.map bw) ((0:Nat):Int) x.b x.a x.k x.c x.g (acc.map bw)) (fun u st=>au C de av u st fun r fs=>r=cM (fJ l x)∧fs=[]):=by
  refine aW l (fun i=> ∀(put:Bool) (acc:List Key),acc.length+(l.drop i).length≤l.length+(if put then 1 else 0)→acc++fI x put (l.drop i)=fJ l x→ah C de av 4 0 (fF put (l.map bw) i x.b x.a x.k x.c x.g (acc.map bw)) _) ?_ ?_
  ·intro put acc hb he
   refine CO _ _ _ _ _ _ _ _ _ _ (an (by simp) (Mv _ _ _ _ _ _ _ _ _ _ _ _ ?_))
   simp only[wm,dg,m5,Bool.true_and,bJ,ck,List.length_map]
   have hb2:acc.length≤l.length+1:=by simp at hb;split at hb<;>omega
   rw[cZ (by omega)]
   rw[List.drop_length] at he
   cases put<;>simp[fI] at he ⊢ <;>rw[←he]<;>simp
  ·intro i a hi ha hd _ hn put acc hb he
   rw[hd] at hb he
   simp only[List.length_cons] at hb
   have hb':acc.length+(List.drop (i+1) l).length+1≤l.length+1:=by split at hb<;>omega
   refine CO _ _ _ _ _ _ _ _ _ _ (ai (by simp;omega) ?_)
   simp only[jj,aE,ha,Option.some.injEq,exists_eq_left',DP,Kv,exists_eq_left,bJ,dg,wm,m5,Bool.true_and,ck,List.length_map,List.length_append,List.length_singleton]
   simp (disch:=omega) only[cZ,aB,lu]
   simp only[fI] at he
   cases put<;>cases hk:dU a x<;>cases hs:mK a x<;>simp only[lu,mI]<;>simp[hk,hs] at he hb<;>exact hn _ _ (by simp at hb ⊢;omega) (by simpa using he)
 exact key false [] (by simp) rfl
@[simp] theorem Pg (l:List Key) (hl:l.length≤1073741824) (b a k c g:Int) (q:RR):aa C de [.c (.sub 5 (l.map bw)),.ag [iI b,iI a,iI k,iI c,iI g]] (.c (.sub 5 q)) []↔q=(fJ l ⟨b,a,k,c,g⟩).map bw:=Uh (qo l ⟨b,a,k,c,g⟩ hl)
theorem FK (old new:List Key) (hl:old.length+new.length≤1073741824):aa C eB [cM old,cM new] (cM (cK old new)) []:=by
 refine(JM _ _ _ ?_).run
 rw[kN,cZ (by simp;omega)]
 refine ai rfl ?_
 have key: ∀(acc:List Key),acc.length+(new.drop 0).length≤old.length+new.length→cK acc (new.drop 0)=cK old new→ah C eB aj 4 0 (kD (new.map bw) ((0:Nat):Int) (acc.map bw)) (fun u st=>au C eB aj u st fun r fs=>r=(cM (cK old new))∧fs=[]):=by
  refine aW new (fun i=> ∀(acc:List Key),acc.length+(new.drop i).length≤old.length+new.length→cK acc (new.drop i)=cK old new→ah C eB aj 4 0 (kD (new.map bw) i (acc.map bw)) (fun u st=>au C eB aj u st fun r fs=>r=(cM (cK old new))∧fs=[])) ?_ ?_
  ·intro acc h0 h1
   refine vH _ _ _ _ (an (by simp) (Gd _ _ _ _ _ ?_))
   rw[List.drop_length] at h1
   rw[←h1]
   exact⟨rfl,by first|rfl|trivial⟩
  ·intro i a hi ha hd ht hn acc h0 h1
   refine vH _ _ _ _ (ai (by simp;omega) ?_)
   rw[hd] at h0 h1
   simp only[List.length_cons] at h0
   simp only[jj,Pf acc (by omega),aE,ha,Option.some.injEq,exists_eq_left',exists_eq_left,bJ,dS,fH,dg,dV,cY,dW,dX,fM,ck,natAdd,List.length_map,List.length_append,List.length_singleton,Bool.true_and,Bool.and_true]
   rw[aB (by omega)]
   have h2:=oV acc a
   exact hn _ (by omega) (by rw[←h1];rfl)
 exact key old (by simp) rfl
theorem IG (old new:List Key) (hl:old.length+new.length≤1073741824) (q:RR):aa C eB [cM old,cM new] (.c (.sub 5 q)) []↔q=(cK old new).map bw:=Uh (FK old new hl)
theorem yq (l:List Key) (hl:l.length≤1073741824):aa C dB [cM l] (cM (og l)) []:=by
 refine(UI _ _ ?_).run
 have key: ∀(acc:List Key),acc.length+(l.drop 0).length≤l.length→acc++og (l.drop 0)=og l→ah C dB aj 4 0 (nU (l.map bw) ((0:Nat):Int) (acc.map bw)) (fun u st=>au C dB aj u st fun r fs=>r=(cM (og l))∧fs=[]):=by
  refine aW l (fun i=> ∀(acc:List Key),acc.length+(l.drop i).length≤l.length→acc++og (l.drop i)=og l→ah C dB aj 4 0 (nU (l.map bw) i (acc.map bw)) (fun u st=>au C dB aj u st fun r fs=>r=(cM (og l))∧fs=[])) ?_ ?_
  ·intro acc h0 h1
   refine Fc _ _ _ _ (an (by simp) (PN _ _ _ _ _ ?_))
   rw[List.drop_length] at h1
   simp[og] at h1
   simp[og,h1]
  ·intro i a hi ha hd ht hn acc h0 h1
   refine Fc _ _ _ _ (ai (by simp;omega) ?_)
   rw[hd] at h0 h1
   simp only[List.length_cons] at h0
   simp only[jj,wm,m5,aD,bu,aE,ha,Option.some.injEq,exists_eq_left',exists_eq_left,bJ,dS,fH,dg,dV,cY,dW,dX,fM,ck,natAdd,List.length_map,List.length_append,List.length_singleton,Bool.true_and,Bool.and_true]
   simp (disch:=omega) only[cZ,aB,lu]
   by_cases hk:a.k=0
   ·rw[if_pos hk]
    exact hn _ (by omega) (by rw[←h1];simp[og,hk])
   ·rw[if_neg hk]
    exact hn (acc++[a]) (by simp only[List.length_append,List.length_singleton];omega) (by rw[←h1];simp[og,hk])
 exact key [] (by simp) rfl
theorem wF (n:List (List Key)) (hb:n.length≤1073741824) (hl:tot bH n≤1073741824):aa C aQ [gz n] (cM (aK n)) []:=by
 refine(LS _ _ ?_).run
 have key: ∀(acc:List Key),acc.length+tot bH (n.drop 0)≤tot bH n→(n.drop 0).foldl cK acc=uE n→ah C aQ aj 4 0 (me ((0:Nat):Int) (n.map bX) (acc.map bw)) (fun u st=>au C aQ aj u st fun r fs=>r=(cM (aK n))∧fs=[]):=by
  refine aW n (fun i=> ∀(acc:List Key),acc.length+tot bH (n.drop i)≤tot bH n→(n.drop i).foldl cK acc=uE n→ah C aQ aj 4 0 (me i (n.map bX) (acc.map bw)) (fun u st=>au C aQ aj u st fun r fs=>r=(cM (aK n))∧fs=[])) ?_ ?_
  ·intro acc h0 h1
   refine xU _ _ _ _ (an (by simp) (HP _ _ _ _ _ ?_))
   rw[List.drop_length] at h0 h1
   simp only[List.foldl_nil] at h1
   refine⟨_,yq acc (by omega),?_⟩
   rw[h1]
   exact⟨rfl,by first|rfl|trivial⟩
  ·intro i a hi ha hd ht hn acc h0 h1
   refine xU _ _ _ _ (ai (by simp;omega) ?_)
   rw[hd] at h0 h1
   simp only[tot,bH] at h0
   simp only[su,IG acc a (by omega),aE,ha,Option.some.injEq,exists_eq_left',exists_eq_left,bJ,dS,fH,dg,dV,cY,dW,dX,fM,ck,natAdd,List.length_map,List.length_append,List.length_singleton,Bool.true_and,Bool.and_true]
   rw[aB (by omega)]
   have h2:=sF a acc
   exact hn _ (by omega) (by rw[←h1];rfl)
 exact key [] (by simp) rfl
theorem eP (n:List (List Key)) (hb:n.length≤1073741824) (hl:tot bH n≤1073741824) (q:RR):aa C aQ [.ag [.sub 1 (n.map bX)]] (.c (.sub 5 q)) []↔q=(aK n).map bw:=Uh (wF n hb hl)
theorem ju (t:Tree) (hl:cz t≤1073741824):aa C dx [c8 t] (cM (aC t)) []:=by
 refine(LN _ _ _ ?_).run
 have key: ∀(acc:List Key),acc.length+tot aI (t.nodes.drop 0)≤tot aI t.nodes→acc++(t.nodes.drop 0).flatMap aK=aC t→ah C dx aj 4 0 (lW ((0:Nat):Int) (t.lows.map bq) (t.nodes.map aH) (acc.map bw)) (fun u st=>au C dx aj u st fun r fs=>r=(cM (aC t))∧fs=[]):=by
  refine aW t.nodes (fun i=> ∀(acc:List Key),acc.length+tot aI (t.nodes.drop i)≤tot aI t.nodes→acc++(t.nodes.drop i).flatMap aK=aC t→ah C dx aj 4 0 (lW i (t.lows.map bq) (t.nodes.map aH) (acc.map bw)) (fun u st=>au C dx aj u st fun r fs=>r=(cM (aC t))∧fs=[])) ?_ ?_
  ·intro acc h0 h1
   refine xQ _ _ _ _ _ (an (by simp) (HI _ _ _ _ _ _ ?_))
   rw[List.drop_length] at h1
   simp at h1
   simp[h1]
  ·intro i a hi ha hd ht hn acc h0 h1
   refine xQ _ _ _ _ _ (ai (by have:=hi;unfold cz rH at hl;simp;omega) ?_)
   have hz:a.length+tot bH a≤tot aI t.nodes:=lB (w:=aI) ha
   rw[hd] at h0 h1
   simp only[tot,aI] at h0
   unfold cz rH at hl
   have h2:=cX a
   simp only[WA,rG,eP a (by omega) (by omega),kN,aE,ha,Option.some.injEq,exists_eq_left',exists_eq_left,bJ,dS,fH,dg,dV,cY,dW,dX,fM,ck,natAdd,List.length_map,List.length_append,List.length_singleton,Bool.true_and,Bool.and_true]
   rw[cZ (by omega),aB (by omega)]
   refine ai rfl ?_
   rw[←List.map_append]
   exact hn _ (by simp;omega) (by rw[←h1];simp)
 exact key [] (by simp) rfl
theorem Kx (t:Tree) (b:Int) (hl:cz t≤1073741824):aa C gU [c8 t,vI b] (cM (fU t b)) []:=by
 refine(QZ _ _ _ _ ?_).run
 refine⟨_,ju t hl,?_⟩
 have key: ∀(acc:List Key),acc.length+((aC t).drop 0).length≤(aC t).length→acc++((aC t).drop 0).filter (fun k=>decide (k.b=b))=fU t b→ah C gU av 4 0 (kX b ((0:Nat):Int) (acc.map bw) ((aC t).map bw)) (fun u st=>au C gU av u st fun r fs=>r=(cM (fU t b))∧fs=[]):=by
  refine aW (aC t) (fun i=> ∀(acc:List Key),acc.length+((aC t).drop i).length≤(aC t).length→acc++((aC t).drop i).filter (fun k=>decide (k.b=b))=fU t b→ah C gU av 4 0 (kX b i (acc.map bw) ((aC t).map bw)) (fun u st=>au C gU av u st fun r fs=>r=(cM (fU t b))∧fs=[])) ?_ ?_
  ·intro acc h0 h1
   refine CQ _ _ _ _ _ (an (by simp) (My _ _ _ _ _ _ ?_))
   rw[List.drop_length] at h1
   simp at h1
   simp[h1]
  ·intro i a hi ha hd ht hn acc h0 h1
   refine CQ _ _ _ _ _ (ai (by simp;omega) ?_)
   rw[hd] at h0 h1
   simp only[List.length_cons] at h0
   have hz:=eJ t
   simp only[jj,wm,m5,aD,bu,aE,ha,Option.some.injEq,exists_eq_left',exists_eq_left,bJ,dS,fH,dg,dV,cY,dW,dX,fM,ck,natAdd,List.length_map,List.length_append,List.length_singleton,Bool.true_and,Bool.and_true]
   simp (disch:=omega) only[cZ,aB,lu]
   by_cases hk:a.b=b
   ·rw[if_pos hk]
    exact hn (acc++[a]) (by simp only[List.length_append,List.length_singleton];omega) (by rw[←h1];simp[hk])
   ·rw[if_neg hk]
    exact hn _ (by omega) (by rw[←h1];simp[hk])
 exact key [] (by simp) rfl
theorem om (l:List Key) (hl:l.length≤2147483648):aa C nT [cM l] (cM l) []:=by
 refine(Lb _ _ ?_).run
 rw[kN,cZ (by simp;omega)]
 exact⟨rfl,by first|rfl|trivial⟩
theorem FL (old new:List Key) (hl:old.length+new.length≤1073741824):aa C eC [cM old,cM new] (cM (cK old new)) []:=by
 refine(Jp _ _ _ ?_).run
 refine⟨_,om old (by omega),?_⟩
 have key: ∀(acc:List Key),acc.length+(new.drop 0).length≤old.length+new.length→cK acc (new.drop 0)=cK old new→ah C eC aj 4 0 (kC (new.map bw) ((0:Nat):Int) (acc.map bw)) (fun u st=>au C eC aj u st fun r fs=>r=(cM (cK old new))∧fs=[]):=by
  refine aW new (fun i=> ∀(acc:List Key),acc.length+(new.drop i).length≤old.length+new.length→cK acc (new.drop i)=cK old new→ah C eC aj 4 0 (kC (new.map bw) i (acc.map bw)) (fun u st=>au C eC aj u st fun r fs=>r=(cM (cK old new))∧fs=[])) ?_ ?_
  ·intro acc h0 h1
   refine vA _ _ _ _ (an (by simp) (F6 _ _ _ _ _ _ ?_))
   rw[List.drop_length] at h1
   rw[←h1]
   exact⟨rfl,by first|rfl|trivial⟩
  ·intro i a hi ha hd ht hn acc h0 h1
   refine vA _ _ _ _ (ai (by simp;omega) ?_)
   rw[hd] at h0 h1
   simp only[List.length_cons] at h0
   simp only[jj,Pg acc (by omega),aE,ha,Option.some.injEq,exists_eq_left',exists_eq_left,bJ,dS,fH,dg,dV,cY,dW,dX,fM,ck,natAdd,List.length_map,List.length_append,List.length_singleton,Bool.true_and,Bool.and_true]
   rw[aB (by omega)]
   have h2:=oV acc a
   exact hn _ (by omega) (by rw[←h1];rfl)
 exact key old (by simp) rfl
theorem II (old new:List Key) (hl:old.length+new.length≤1073741824) (q:RR):aa C eC [cM old,cM new] (.c (.sub 5 q)) []↔q=(cK old new).map bw:=Uh (FL old new hl)
theorem E2 (l:List Key) (hl:l.length≤1073741824):aa C jt [cM l] (cM (og l)) []:=by
 refine(UM _ _ ?_).run
 have key: ∀(acc:List Key),acc.length+(l.drop 0).length≤l.length→acc++og (l.drop 0)=og l→ah C jt aj 4 0 (nV (l.map bw) ((0:Nat):Int) (acc.map bw)) (fun u st=>au C jt aj u st fun r fs=>r=(cM (og l))∧fs=[]):=by
  refine aW l (fun i=> ∀(acc:List Key),acc.length+(l.drop i).length≤l.length→acc++og (l.drop i)=og l→ah C jt aj 4 0 (nV (l.map bw) i (acc.map bw)) (fun u st=>au C jt aj u st fun r fs=>r=(cM (og l))∧fs=[])) ?_ ?_
  ·intro acc h0 h1
   refine Fe _ _ _ _ (an (by simp) (Qg _ _ _ _ _ _ ?_))
   rw[List.drop_length] at h1
   simp[og] at h1
   simp[og,h1]
  ·intro i a hi ha hd ht hn acc h0 h1
   refine Fe _ _ _ _ (ai (by simp;omega) ?_)
   rw[hd] at h0 h1
   simp only[List.length_cons] at h0
   simp only[jj,wm,m5,aD,bu,aE,ha,Option.some.injEq,exists_eq_left',exists_eq_left,bJ,dS,fH,dg,dV,cY,dW,dX,fM,ck,natAdd,List.length_map,List.length_append,List.length_singleton,Bool.true_and,Bool.and_true]
   simp (disch:=omega) only[cZ,aB,lu]
   by_cases hk:a.k=0
   ·rw[if_pos hk]
    exact hn _ (by omega) (by rw[←h1];simp[og,hk])
   ·rw[if_neg hk]
    exact hn (acc++[a]) (by simp only[List.length_append,List.length_singleton];omega) (by rw[←h1];simp[og,hk])
 exact key [] (by simp) rfl
theorem G4 (n:List (List Key)) (hb:n.length≤1073741824) (hl:tot bH n≤1073741824):aa C cA [gz n] (cM (aK n)) []:=by
 refine(LU _ _ ?_).run
 have key: ∀(acc:List Key),acc.length+tot bH (n.drop 0)≤tot bH n→(n.drop 0).foldl cK acc=uE n→ah C cA aj 4 0 (mg (n.map bX) ((0:Nat):Int) (acc.map bw)) (fun u st=>au C cA aj u st fun r fs=>r=(cM (aK n))∧fs=[]):=by
  refine aW n (fun i=> ∀(acc:List Key),acc.length+tot bH (n.drop i)≤tot bH n→(n.drop i).foldl cK acc=uE n→ah C cA aj 4 0 (mg (n.map bX) i (acc.map bw)) (fun u st=>au C cA aj u st fun r fs=>r=(cM (aK n))∧fs=[])) ?_ ?_
  ·intro acc h0 h1
   refine xV _ _ _ _ (an (by simp) (HQ _ _ _ _ _ _ ?_))
   rw[List.drop_length] at h0 h1
   simp only[List.foldl_nil] at h1
   refine⟨_,E2 acc (by omega),?_⟩
   rw[h1]
   exact⟨rfl,by first|rfl|trivial⟩
  ·intro i a hi ha hd ht hn acc h0 h1
   refine xV _ _ _ _ (ai (by simp;omega) ?_)
   rw[hd] at h0 h1
   simp only[tot,bH] at h0
   simp only[su,II acc a (by omega),aE,ha,Option.some.injEq,exists_eq_left',exists_eq_left,bJ,dS,fH,dg,dV,cY,dW,dX,fM,ck,natAdd,List.length_map,List.length_append,List.length_singleton,Bool.true_and,Bool.and_true]
   rw[aB (by omega)]
   have h2:=sF a acc
   exact hn _ (by omega) (by rw[←h1];rfl)
 exact key [] (by simp) rfl
theorem jC (n:List (List Key)) (hb:n.length≤1073741824) (hl:tot bH n≤1073741824) (q:RR):aa C cA [.ag [.sub 1 (n.map bX)]] (.c (.sub 5 q)) []↔q=(aK n).map bw:=Uh (G4 n hb hl)
theorem jv (t:Tree) (hl:cz t≤1073741824):aa C dR [c8 t] (cM (aC t)) []:=by
 refine(Ll _ _ _ ?_).run
 have key: ∀(acc:List Key),acc.length+tot aI (t.nodes.drop 0)≤tot aI t.nodes→acc++(t.nodes.drop 0).flatMap aK=aC t→ah C dR aj 4 0 (lR (t.nodes.map aH) ((0:Nat):Int) (acc.map bw)) (fun u st=>au C dR aj u st fun r fs=>r=(cM (aC t))∧fs=[]):=by
  refine aW t.nodes (fun i=> ∀(acc:List Key),acc.length+tot aI (t.nodes.drop i)≤tot aI t.nodes→acc++(t.nodes.drop i).flatMap aK=aC t→ah C dR aj 4 0 (lR (t.nodes.map aH) i (acc.map bw)) (fun u st=>au C dR aj u st fun r fs=>r=(cM (aC t))∧fs=[])) ?_ ?_
  ·intro acc h0 h1
   refine xH _ _ _ _ (an (by simp) (Ht _ _ _ _ _ _ ?_))
   rw[List.drop_length] at h1
   simp at h1
   simp[h1]
  ·intro i a hi ha hd ht hn acc h0 h1
   refine xH _ _ _ _ (ai (by have:=hi;unfold cz rH at hl;simp;omega) ?_)
   have hz:a.length+tot bH a≤tot aI t.nodes:=lB (w:=aI) ha
   rw[hd] at h0 h1
   simp only[tot,aI] at h0
   unfold cz rH at hl
   have h2:=cX a
   simp only[WA,rG,jC a (by omega) (by omega),kN,aE,ha,Option.some.injEq,exists_eq_left',exists_eq_left,bJ,dS,fH,dg,dV,cY,dW,dX,fM,ck,natAdd,List.length_map,List.length_append,List.length_singleton,Bool.true_and,Bool.and_true]
   rw[cZ (by omega),aB (by omega)]
   refine ai rfl ?_
   rw[←List.map_append]
   exact hn _ (by simp;omega) (by rw[←h1];simp)
 exact key [] (by simp) rfl
theorem Ky (t:Tree) (b:Int) (hl:cz t≤1073741824):aa C gV [c8 t,vI b] (cM (fU t b)) []:=by
 refine(Qj _ _ _ _ ?_).run
 refine⟨_,jv t hl,?_⟩
 have key: ∀(acc:List Key),acc.length+((aC t).drop 0).length≤(aC t).length→acc++((aC t).drop 0).filter (fun k=>decide (k.b=b))=fU t b→ah C gV aj 4 0 (kR b ((aC t).map bw) ((0:Nat):Int) (acc.map bw)) (fun u st=>au C gV aj u st fun r fs=>r=(cM (fU t b))∧fs=[]):=by
  refine aW (aC t) (fun i=> ∀(acc:List Key),acc.length+((aC t).drop i).length≤(aC t).length→acc++((aC t).drop i).filter (fun k=>decide (k.b=b))=fU t b→ah C gV aj 4 0 (kR b ((aC t).map bw) i (acc.map bw)) (fun u st=>au C gV aj u st fun r fs=>r=(cM (fU t b))∧fs=[])) ?_ ?_
  ·intro acc h0 h1
   refine Co _ _ _ _ _ (an (by simp) (LH _ _ _ _ _ _ _ ?_))
   rw[List.drop_length] at h1
   simp at h1
   simp[h1]
  ·intro i a hi ha hd ht hn acc h0 h1
   refine Co _ _ _ _ _ (ai (by simp;omega) ?_)
   rw[hd] at h0 h1
   simp only[List.length_cons] at h0
   have hz:=eJ t
   simp only[jj,wm,m5,aD,bu,aE,ha,Option.some.injEq,exists_eq_left',exists_eq_left,bJ,dS,fH,dg,dV,cY,dW,dX,fM,ck,natAdd,List.length_map,List.length_append,List.length_singleton,Bool.true_and,Bool.and_true]
   simp (disch:=omega) only[cZ,aB,lu]
   by_cases hk:a.b=b
   ·rw[if_pos hk]
    exact hn (acc++[a]) (by simp only[List.length_append,List.length_singleton];omega) (by rw[←h1];simp[hk])
   ·rw[if_neg hk]
    exact hn _ (by omega) (by rw[←h1];simp[hk])
 exact key [] (by simp) rfl
theorem rN (l:List Age) (id:Int) (hl:l.length≤1073741824):aa C dL [fG l,vI id] (vI (eg l id)) []:=by
 refine(SW _ _ _ ?_).run
 have key:fj (fun a:Age=>decide (a.id=id)) (l.drop 0) ((0:Nat):Int)=fj (fun a:Age=>decide (a.id=id)) l 0→ah C dL ak 4 0 (oY (l.map bT) id ((0:Nat):Int)) (fun u st=>au C dL ak u st fun r fs=>r=vI (eg l id)∧fs=[]):=by
  refine aW l (fun i=>fj (fun a:Age=>decide (a.id=id)) (l.drop i) (i:Int)=fj (fun a:Age=>decide (a.id=id)) l 0→ah C dL ak 4 0 (oY (l.map bT) id i) _) ?_ ?_
  ·intro h0
   refine D9 _ _ _ _ (an (by simp) (Oj _ _ _ _ _ ?_))
   rw[List.drop_length] at h0
   simp only[fj] at h0
   change _=vI (fj (fun a:Age=>decide (a.id=id)) l 0)∧_
   rw[←h0]
   exact⟨rfl,by first|rfl|trivial⟩
  ·intro i a hi ha hd htk hn h0
   refine D9 _ _ _ _ (ai (by simp;omega) ?_)
   rw[hd] at h0
   simp only[fj] at h0
   simp only[rF,aD,bu,aE,ha,Option.some.injEq,exists_eq_left',exists_eq_left,bJ,dS,fH,dg,dV,cY,dW,dX,fM,ck,natAdd,List.length_map,List.length_append,List.length_singleton,Bool.true_and,Bool.and_true]
   rw[aB (by omega)]
   split at h0
   ·rename_i hp
    have hp:=of_decide_eq_true hp
    first|rw[if_pos hp]|rw[if_pos hp.symm]
    refine Oi _ _ ?_
    rw[h0]
    exact⟨rfl,by first|rfl|trivial⟩
   ·rename_i hp
    have hp: ¬_:=fun h=>hp (decide_eq_true h)
    first|rw[if_neg hp]|rw[if_neg (fun h=>hp h.symm)]
    exact hn h0
 exact key rfl
@[simp] theorem N0 (a b id:Int) (q:Bool):aa C uu [.ag [iI a,iI b],.bx [iI id]] (vB q) []↔q=decide (a=id):=rI (by
  refine(OR _ _ _ _ ?_).run
  simp)
theorem Ph (l:List Age) (id:Int) (hl:l.length≤1073741824):aa C cw [fG l,.fn uu [[iI id]]] (vI (eg l id)) []:=by
 refine(qi _ _ _ ?_).run
 have key:fj (fun a:Age=>decide (a.id=id)) (l.drop 0) ((0:Nat):Int)=fj (fun a:Age=>decide (a.id=id)) l 0→ah C cw ak 4 0 (c6 (l.map bT) ((0:Nat):Int) id) (fun u st=>au C cw ak u st fun r fs=>r=vI (eg l id)∧fs=[]):=by
  refine aW l (fun i=>fj (fun a:Age=>decide (a.id=id)) (l.drop i) (i:Int)=fj (fun a:Age=>decide (a.id=id)) l 0→ah C cw ak 4 0 (c6 (l.map bT) i id) _) ?_ ?_
  ·intro h0
   refine jB _ _ _ _ (an (by simp) (pV _ _ _ _ _ _ ?_))
   rw[List.drop_length] at h0
   simp only[fj] at h0
   change _=vI (fj (fun a:Age=>decide (a.id=id)) l 0)∧_
   rw[←h0]
   exact⟨rfl,by first|rfl|trivial⟩
  ·intro i a hi ha hd htk hn h0
   refine jB _ _ _ _ (ai (by simp;omega) ?_)
   rw[hd] at h0
   simp only[fj] at h0
   simp only[rF,aD,N0,bu,aE,ha,Option.some.injEq,exists_eq_left',exists_eq_left,bJ,dS,fH,dg,dV,cY,dW,dX,fM,ck,natAdd,List.length_map,List.length_append,List.length_singleton,Bool.true_and,Bool.and_true]
   rw[aB (by omega)]
   split at h0
   ·rename_i hp
    have hp:=of_decide_eq_true hp
    first|rw[if_pos hp]|rw[if_pos hp.symm]
    refine pU _ _ _ ?_
    rw[h0]
    exact⟨rfl,by first|rfl|trivial⟩
   ·rename_i hp
    have hp: ¬_:=fun h=>hp (decide_eq_true h)
    first|rw[if_neg hp]|rw[if_neg (fun h=>hp h.symm)]
    exact hn h0
 exact key rfl
theorem u5 (l:List Age) (id:Int) (hl:l.length≤1073741824):aa C iK [fG l,vI id] (vI (eg l id)) []:=(S5 _ _ _ ⟨_,Ph l id hl,rfl,by first|rfl|trivial⟩).run
theorem AI (l:List Age) (id:Int) (hl:l.length≤1073741824) (q:Int):aa C dL [fG l,vI id] (vI q) []↔q=eg l id:=Zi (rN l id hl)
theorem AJ (l:List Age) (id:Int) (hl:l.length≤1073741824) (q:Int):aa C iK [fG l,vI id] (vI q) []↔q=eg l id:=Zi (u5 l id hl)
theorem AR (l:List Age) (id:Int) (hl:l.length≤1073741824):aa C ir [fG l,vI id] (lz (pathOf l id)) []:=by
 refine(QY _ _ _ ⟨_,rN l id hl,?_⟩).run
 have key: ∀(n:Nat) (id':Int) (acc:List Int),acc.length+n=l.length+1→acc++Dp l n id'=pathOf l id→ah C ir qT 4 0 (qI (l.map bT) (eg l id') (acc.map bq)) (fun u st=>au C ir qT u st fun r fs=>r=lz (pathOf l id)∧fs=[]):=by
  intro n
  induction n with
  |zero=>
   intro id' acc h0 h1
   simp only[Dp,List.append_nil] at h1
   refine tQ _ _ _ _ (qd (fun _=> ?_) fun _=>CP _ _ _ _ (by rw[h1];exact⟨rfl,by first|rfl|trivial⟩))
   exact an (by simp;omega) (Mw _ _ _ _ _ (by rw[h1];exact⟨rfl,by first|rfl|trivial⟩))
  |succ n ih=>
   intro id' acc h0 h1
   simp only[Dp] at h1
   by_cases h:eg l id'<0
   ·rw[if_pos h,List.append_nil] at h1
    exact tQ _ _ _ _ (an (by simp;omega) (CP _ _ _ _ (by rw[h1];exact⟨rfl,by first|rfl|trivial⟩)))
   ·rw[if_neg h] at h1
    obtain⟨a,ha,he⟩:=Ez l id' h
    rw[ha] at h1
    refine tQ _ _ _ _ (ai (by simp;omega) (ai (by simp;omega) ?_))
    simp only[rF,ha,Option.some.injEq,exists_eq_left',Sv,Bool.true_and,ck,List.length_map]
    rw[cZ (by omega)]
    refine ai rfl ⟨_,rN l a.fr hl,?_⟩
    rw[MM]
    exact ih a.fr (acc++[a.id]) (by simp;omega) (by rw[←h1,he];simp)
 exact key (l.length+1) id [] (by simp) rfl
theorem AS (l:List Age) (id:Int) (hl:l.length≤1073741824):aa C iu [fG l,vI id] (lz (pathOf l id)) []:=by
 refine(Qi _ _ _ ?_).run
 have key: ∀(n:Nat) (id':Int) (acc:List Int) (k:Nat),k+n=l.length+1→acc.length=k→acc++Dp l n id'=pathOf l id→ah C iu aj 4 0 (qz (l.map bT) id' k (acc.map bq)) (fun u st=>au C iu aj u st fun r fs=>r=lz (pathOf l id)∧fs=[]):=by
  intro n
  induction n with
  |zero=>
   intro id' acc k h0 h2 h1
   simp only[Dp,List.append_nil] at h1
   refine Cn _ _ _ _ _ (an ?_ (LG _ _ _ _ _ _ _ (by rw[h1];exact⟨rfl,by first|rfl|trivial⟩)))
   rw[aB (by simp;omega)];simp;omega
  |succ n ih=>
   intro id' acc k h0 h2 h1
   simp only[Dp] at h1
   refine Cn _ _ _ _ _ (ai (by rw[aB (by simp;omega)];simp;omega) ⟨_,u5 l id' hl,?_⟩)
   by_cases h:eg l id'<0
   ·rw[if_pos h,List.append_nil] at h1
    exact ai (by simp;omega) (LF _ _ _ _ _ _ _ _ (by rw[h1];exact⟨rfl,by first|rfl|trivial⟩))
   ·rw[if_neg h] at h1
    obtain⟨a,ha,he⟩:=Ez l id' h
    rw[ha] at h1
    refine an (by simp;omega) ?_
    simp only[rF,ha,Option.some.injEq,exists_eq_left',Sv,Bool.true_and,ck,List.length_map]
    rw[cZ (by omega)]
    refine ai rfl ?_
    rw[MM,aB (by omega)]
    exact ih a.fr (acc++[id']) (k+1) (by omega) (by simp;omega) (by rw[←h1];simp)
 exact key (l.length+1) id [] 0 (by simp) rfl rfl
theorem N1 (l:List Int) (n:Int) (hl:l.length≤1073741824):aa C iL [lz l,vI n] (vB (EI l n)) []:=by
 refine(SX _ _ _ ?_).run
 have key:(l.drop 0).any (fun a:Int=>decide (a=n))=l.any (fun a:Int=>decide (a=n))→ah C iL ak 4 0 (oZ (l.map bq) n ((0:Nat):Int)) (fun u st=>au C iL ak u st fun r fs=>r=vB (EI l n)∧fs=[]):=by
  refine aW l (fun i=>(l.drop i).any (fun a:Int=>decide (a=n))=l.any (fun a:Int=>decide (a=n))→ah C iL ak 4 0 (oZ (l.map bq) n i) _) ?_ ?_
  ·intro h0
   refine Ea _ _ _ _ (an (by simp) (Ot _ _ _ _ _ ?_))
   rw[List.drop_length] at h0
   simp only[List.any_nil] at h0
   show _=vB (EI l n)∧_
   first|unfold EI|unfold nj|skip
   rw[←h0]
   exact⟨rfl,by first|rfl|trivial⟩
  ·intro i a hi ha hd htk hn h0
   refine Ea _ _ _ _ (ai (by simp;omega) ?_)
   rw[hd] at h0
   simp only[List.any_cons] at h0
   simp only[rE,aD,bu,aE,ha,Option.some.injEq,exists_eq_left',exists_eq_left,bJ,dS,fH,dg,dV,cY,dW,dX,fM,ck,natAdd,List.length_map,List.length_append,List.length_singleton,Bool.true_and,Bool.and_true]
   rw[aB (by omega)]
   split
   ·rename_i hp
    refine Oq _ ?_
    have e:l.any (fun a:Int=>decide (a=n))=true:=by rw[←h0];simp[hp]
    first|unfold EI|unfold nj|skip
    rw[e]
    exact⟨rfl,by first|rfl|trivial⟩
   ·rename_i hp
    exact hn (by simpa [hp] using h0)
 exact key rfl
theorem E3 (p:Pool) (id:Int) (hl:p.vols.length≤1073741824):aa C j7 [eX p,vI id] (vB (nj p.vols id)) []:=by
 refine(UO _ _ _ _ _ _ _ _ ?_).run
 have key:(p.vols.drop 0).any (fun v:Vol=>decide (v.age=id))=p.vols.any (fun v:Vol=>decide (v.age=id))→ah C j7 ak 4 0 (qh id ((0:Nat):Int) (p.t.lows.map bq) (p.t.nodes.map aH) (p.ages.map bT) (p.cells.map bR) (p.vols.map dh) p.next) (fun u st=>au C j7 ak u st fun r fs=>r=vB (nj p.vols id)∧fs=[]):=by
  refine aW p.vols (fun i=>(p.vols.drop i).any (fun v:Vol=>decide (v.age=id))=p.vols.any (fun v:Vol=>decide (v.age=id))→ah C j7 ak 4 0 (qh id i (p.t.lows.map bq) (p.t.nodes.map aH) (p.ages.map bT) (p.cells.map bR) (p.vols.map dh) p.next) _) ?_ ?_
  ·intro h0
   refine Ff _ _ _ _ _ _ _ _ _ (an (by simp) (QN _ _ _ _ _ _ _ _ _ _ ?_))
   rw[List.drop_length] at h0
   simp only[List.any_nil] at h0
   show _=vB (nj p.vols id)∧_
   first|unfold EI|unfold nj|skip
   rw[←h0]
   exact⟨rfl,by first|rfl|trivial⟩
  ·intro i a hi ha hd htk hn h0
   refine Ff _ _ _ _ _ _ _ _ _ (ai (by simp;omega) ?_)
   rw[hd] at h0
   simp only[List.any_cons] at h0
   simp only[yj,aD,bu,aE,ha,Option.some.injEq,exists_eq_left',exists_eq_left,bJ,dS,fH,dg,dV,cY,dW,dX,fM,ck,natAdd,List.length_map,List.length_append,List.length_singleton,Bool.true_and,Bool.and_true]
   rw[aB (by omega)]
   split
   ·rename_i hp
    refine QM _ _ _ _ _ _ _ ?_
    have e:p.vols.any (fun v:Vol=>decide (v.age=id))=true:=by rw[←h0];simp[hp]
    first|unfold EI|unfold nj|skip
    rw[e]
    exact⟨rfl,by first|rfl|trivial⟩
   ·rename_i hp
    exact hn (by simpa [hp] using h0)
 exact key rfl
theorem UA (l:List Int) (n:Int) (hl:l.length≤1073741824):aa C dM [lz l,vI n] (vI (fj (fun a:Int=>decide (a=n)) l 0)) []:=by
 refine(Ge _ _ _ ?_).run
 have key:fj (fun a:Int=>decide (a=n)) (l.drop 0) ((0:Nat):Int)=fj (fun a:Int=>decide (a=n)) l 0→ah C dM ak 4 0 (jm (l.map bq) n ((0:Nat):Int)) (fun u st=>au C dM ak u st fun r fs=>r=vI (fj (fun a:Int=>decide (a=n)) l 0)∧fs=[]):=by
  refine aW l (fun i=>fj (fun a:Int=>decide (a=n)) (l.drop i) (i:Int)=fj (fun a:Int=>decide (a=n)) l 0→ah C dM ak 4 0 (jm (l.map bq) n i) _) ?_ ?_
  ·intro h0
   refine th _ _ _ _ (an (by simp) (Eh _ _ _ _ _ _ ?_))
   rw[List.drop_length] at h0
   simp only[fj] at h0
   change _=vI (fj (fun a:Int=>decide (a=n)) l 0)∧_
   rw[←h0]
   exact⟨rfl,by first|rfl|trivial⟩
  ·intro i a hi ha hd htk hn h0
   refine th _ _ _ _ (ai (by simp;omega) ?_)
   rw[hd] at h0
   simp only[fj] at h0
   simp only[rE,aD,bu,aE,ha,Option.some.injEq,exists_eq_left',exists_eq_left,bJ,dS,fH,dg,dV,cY,dW,dX,fM,ck,natAdd,List.length_map,List.length_append,List.length_singleton,Bool.true_and,Bool.and_true]
   rw[aB (by omega)]
   split at h0
   ·rename_i hp
    have hp:=of_decide_eq_true hp
    first|rw[if_pos hp]|rw[if_pos hp.symm]
    refine Eg _ _ ?_
    rw[h0]
    exact⟨rfl,by first|rfl|trivial⟩
   ·rename_i hp
    have hp: ¬_:=fun h=>hp (decide_eq_true h)
    first|rw[if_neg hp]|rw[if_neg (fun h=>hp h.symm)]
    exact hn h0
 exact key rfl
theorem SK (l:List Int) (n:Int) (hl:l.length≤1073741824):aa C mD [lz l,vI n] (vB (EI l n)) []:=by
 refine(CW _ _ _ ⟨_,UA l n hl,?_⟩).run
 rw[gD,GS _ _ _ (by omega)]
 exact⟨rfl,by first|rfl|trivial⟩
theorem AT (t:Tree) (b:Int) (path:List Int) (hl:cz t≤1073741824) (hp:path.length≤1073741824):aa C eY [c8 t,vI b,lz path] (OY (near (fU t b) path)) []:=by
 refine(PV _ _ _ _ _ ?_).run
 refine⟨_,Kx t b hl,?_⟩
 have key: ∀(pr:Key×Bool),((fU t b).drop 0).foldl (GU path) pr=near (fU t b) path→ah C eY bn 4 0 (iy (path.map bq) pr.2 ((0:Nat):Int) pr.1.b pr.1.a pr.1.k pr.1.c pr.1.g ((fU t b).map bw)) (fun u st=>au C eY bn u st fun r fs=>r=(OY (near (fU t b) path))∧fs=[]):=by
  refine aW (fU t b) (fun i=> ∀(pr:Key×Bool),((fU t b).drop i).foldl (GU path) pr=near (fU t b) path→ah C eY bn 4 0 (iy (path.map bq) pr.2 i pr.1.b pr.1.a pr.1.k pr.1.c pr.1.g ((fU t b).map bw)) (fun u st=>au C eY bn u st fun r fs=>r=(OY (near (fU t b) path))∧fs=[])) ?_ ?_
  ·intro pr h0
   refine B8 _ _ _ _ _ _ _ _ _ _ (an (by simp) (Lc _ _ _ _ _ _ _ _ _ _ _ ?_))
   rw[List.drop_length] at h0
   simp only[List.foldl_nil] at h0
   rw[h0]
   exact⟨rfl,by first|rfl|trivial⟩
  ·intro i a hi ha hd ht hn pr h0
   have hk:=NI t b
   have hz:=eJ t
   refine B8 _ _ _ _ _ _ _ _ _ _ (ai (by simp;omega) ?_)
   rw[hd] at h0
   simp only[List.foldl_cons] at h0
   obtain⟨bk,bf⟩:=pr
   have hh: ∀q,aa C iL [lz path,vI a.a] (vB q) []↔q=EI path a.a:=fun q=>rI (N1 path a.a hp)
   simp only[jj,hh,dK,bu,aE,ha,Option.some.injEq,exists_eq_left',exists_eq_left,bJ,dS,fH,dg,dV,cY,dW,dX,fM,ck,natAdd,List.length_map,List.length_append,List.length_singleton,Bool.true_and,Bool.and_true]
   rw[aB (by omega)]
   have e:GU path (bk,bf) a=if EI path a.a&&(!bf||decide (bk.a<a.a)) then(a,true) else(bk,bf):=rfl
   rw[e] at h0
   cases h1:EI path a.a<;>cases bf<;>by_cases h2:bk.a<a.a<;>simp[h1,h2] at h0 ⊢ <;>first|exact hn (a,true) h0|exact hn (bk,false) h0|exact hn (bk,true) h0
 exact key (eo,false) rfl
theorem AU (t:Tree) (b:Int) (path:List Int) (hl:cz t≤1073741824) (hp:path.length≤1073741824):aa C e7 [c8 t,vI b,lz path] (OY (near (fU t b) path)) []:=by
 refine(Qv _ _ _ _ _ ?_).run
 refine⟨_,Ky t b hl,?_⟩
 have key: ∀(pr:Key×Bool),((fU t b).drop 0).foldl (GU path) pr=near (fU t b) path→ah C e7 aj 4 0 (iz (path.map bq) pr.2 ((fU t b).map bw) ((0:Nat):Int) pr.1.b pr.1.a pr.1.k pr.1.c pr.1.g) (fun u st=>au C e7 aj u st fun r fs=>r=(OY (near (fU t b) path))∧fs=[]):=by
  refine aW (fU t b) (fun i=> ∀(pr:Key×Bool),((fU t b).drop i).foldl (GU path) pr=near (fU t b) path→ah C e7 aj 4 0 (iz (path.map bq) pr.2 ((fU t b).map bw) i pr.1.b pr.1.a pr.1.k pr.1.c pr.1.g) (fun u st=>au C e7 aj u st fun r fs=>r=(OY (near (fU t b) path))∧fs=[])) ?_ ?_
  ·intro pr h0
   refine Cw _ _ _ _ _ _ _ _ _ _ (an (by simp) (L0 _ _ _ _ _ _ _ _ _ _ _ _ ?_))
   rw[List.drop_length] at h0
   simp only[List.foldl_nil] at h0
   rw[h0]
   exact⟨rfl,by first|rfl|trivial⟩
  ·intro i a hi ha hd ht hn pr h0
   have hk:=NI t b
   have hz:=eJ t
   refine Cw _ _ _ _ _ _ _ _ _ _ (ai (by simp;omega) ?_)
   rw[hd] at h0
   simp only[List.foldl_cons] at h0
   obtain⟨bk,bf⟩:=pr
   have hh: ∀q,aa C mD [lz path,vI a.a] (vB q) []↔q=EI path a.a:=fun q=>rI (SK path a.a hp)
   simp only[jj,hh,dK,bu,aE,ha,Option.some.injEq,exists_eq_left',exists_eq_left,bJ,dS,fH,dg,dV,cY,dW,dX,fM,ck,natAdd,List.length_map,List.length_append,List.length_singleton,Bool.true_and,Bool.and_true]
   rw[aB (by omega)]
   have e:GU path (bk,bf) a=if EI path a.a&&(!bf||decide (bk.a<a.a)) then(a,true) else(bk,bf):=rfl
   rw[e] at h0
   cases h1:EI path a.a<;>cases bf<;>by_cases h2:bk.a<a.a<;>simp[h1,h2] at h0 ⊢ <;>first|exact hn (a,true) h0|exact hn (bk,false) h0|exact hn (bk,true) h0
 exact key (eo,false) rfl
@[simp] theorem Pj (a:Int) (q:Bool):aa C DC [vI a] (vB q) []↔q=GQ a:=rI ((QE _ _ ⟨_,DN _ _ _,rfl,by first|rfl|trivial⟩).run)
theorem Kz (l:List Cell) (i gen:Int) (hl:l.length≤1073741824):aa C sW [iD l,vI i,vI gen] (tIB (cellAt l i gen)) []:=by
 refine(Qd _ _ _ _ ?_).run
 simp only[DO,exists_eq_left,List.length_map,Int.ofNat_eq_natCast,bJ,qm]
 rw[eD (by omega)]
 by_cases h:0≤i∧i<l.length
 ·obtain⟨a,ha⟩:=pz h.1 h.2
  have e:jZ i 0 ((l.length:Int)-1)=true:=decide_eq_true (by omega)
  simp only[e,lu,ha,Option.some.injEq,exists_eq_left',aD,bu,cellAt]
  cases h1:a.u<;>by_cases h2:a.g=gen<;>simp[h1,h2]
 ·have e:jZ i 0 ((l.length:Int)-1)=false:=decide_eq_false (by omega)
  have hn:fT l i=none:=pE h
  simp[e,cellAt,hn]
theorem Pk (l:List Cell) (hl:l.length≤1073741824) (i gen:Int) (n:Int) (q:Bool):aa C sW [iD l,vI i,vI gen] (.tu [(0,[iI n]),(0,[iB q])]) []↔n=(cellAt l i gen).1∧q=(cellAt l i gen).2:=abx (Kz l i gen hl)
theorem FM (l:List Cell) (hl:l.length≤1073741824):aa C ez [iD l] (vI (bQ l)) []:=by
 refine(JK _ _ ?_).run
 have key: ∀(n:Nat),n+(l.drop 0).length≤l.length→n+bQ (l.drop 0)=bQ l→ah C ez aj 4 0 (iR (l.map bR) n ((0:Nat):Int)) (fun u st=>au C ez aj u st fun r fs=>r=(vI (bQ l))∧fs=[]):=by
  refine aW l (fun i=> ∀(n:Nat),n+(l.drop i).length≤l.length→n+bQ (l.drop i)=bQ l→ah C ez aj 4 0 (iR (l.map bR) n i) (fun u st=>au C ez aj u st fun r fs=>r=(vI (bQ l))∧fs=[])) ?_ ?_
  ·intro n h0 h1
   refine vF _ _ _ _ (an (by simp) (Gb _ _ _ _ _ ?_))
   rw[List.drop_length] at h1
   simp[bQ] at h1
   simp[h1,bQ]
  ·intro i a hi ha hd ht hn n h0 h1
   refine vF _ _ _ _ (ai (by simp;omega) ?_)
   rw[hd] at h0 h1
   simp only[List.length_cons] at h0
   simp only[qm,aE,ha,Option.some.injEq,exists_eq_left',exists_eq_left,bJ,dS,fH,dg,dV,cY,dW,dX,fM,ck,natAdd,List.length_map,List.length_append,List.length_singleton,Bool.true_and,Bool.and_true]
   rw[aB (by omega),aB (by omega)]
   cases hu:a.u
   ·exact hn n (by omega) (by rw[←h1];simp[bQ,hu])
   ·exact hn (n+1) (by omega) (by rw[←h1];simp[bQ,hu];omega)
 exact key 0 (by simp) (by simp)
theorem IJ (l:List Cell) (hl:l.length≤1073741824):aa C dG [iD l] (vB ((l.all iH&&decide (l.length=24)))) []:=by
 refine(OV _ _ ?_).run
 have key:((l.drop 0).all iH&&decide (l.length=24))=(l.all iH&&decide (l.length=24))→ah C dG ak 4 0 (iU (l.map bR) ((0:Nat):Int)) (fun u st=>au C dG ak u st fun r fs=>r=vB ((l.all iH&&decide (l.length=24)))∧fs=[]):=by
  refine aW l (fun i=>((l.drop i).all iH&&decide (l.length=24))=(l.all iH&&decide (l.length=24))→ah C dG ak 4 0 (iU (l.map bR) i) (fun u st=>au C dG ak u st fun r fs=>r=vB ((l.all iH&&decide (l.length=24)))∧fs=[])) ?_ ?_
  ·intro h0
   refine zV _ _ _ (an (by simp) (JS _ _ _ _ ?_))
   rw[List.drop_length] at h0
   simp only[List.all_nil,Bool.true_and] at h0
   rw[←h0]
   simp[aD]
   try omega
  ·intro i a hi ha hd htk hn h0
   have gO:iH a=false→(l.all iH&&decide (l.length=24))=false:=fun e=>by rw[←h0,hd];simp[e]
   have gN:iH a=true→ah C dG ak 4 0 (iU (l.map bR) ((i:Int)+1)) (fun u st=>au C dG ak u st fun r fs=>r=vB ((l.all iH&&decide (l.length=24)))∧fs=[]):=fun e=>hn (by rw[←h0,hd];simp[e])
   refine zV _ _ _ (ai (by simp;omega) ?_)
   simp only[qm,DO,Pj,aD,aE,ha,Option.some.injEq,exists_eq_left',exists_eq_left,bJ,dS,fH,dg,dV,cY,dW,dX,fM,ck,natAdd,List.length_map,List.length_append,List.length_singleton,Bool.true_and,Bool.and_true]
   rw[aB (by omega)]
   cases h1:jZ a.g 0 999<;>cases h2:GQ a.n<;>cases h3:a.u<;>by_cases h4:a.n=0<;>simp only[h1,h2,h3,h4,lu,mI,decide_true,decide_false,not_true_eq_false,not_false_eq_true,Bool.not_true,Bool.not_false]<;>first|exact gN (by unfold iH;rw[h1,h2,h3];simp[h4])|exact JR _ (by rw[gO (by unfold iH;rw[h1,h2,h3];simp[h4])];exact⟨rfl,by first|rfl|trivial⟩)
 exact key rfl
theorem DR (l:List Cell) (hl:l.length≤1073741824) (q:Bool):aa C dG [iD l] (vB q) []↔q=ff l:=rI (IJ l hl)
@[simp] theorem Pm (a:Int) (q:Bool):aa C DE [vI a] (vB q) []↔q=GQ a:=rI ((PG _ _ ⟨_,uZ _ _ _,rfl,by first|rfl|trivial⟩).run)
theorem KA (l:List Cell) (i gen:Int) (hl:l.length≤1073741824):aa C sX [iD l,vI i,vI gen] (tIB (cellAt l i gen)) []:=by
 refine(Qe _ _ _ _ ?_).run
 simp only[td,exists_eq_left,List.length_map,Int.ofNat_eq_natCast,bJ,qm]
 rw[eD (by omega)]
 by_cases h:0≤i∧i<l.length
 ·obtain⟨a,ha⟩:=pz h.1 h.2
  have e:jZ i 0 ((l.length:Int)-1)=true:=decide_eq_true (by omega)
  simp only[e,lu,ha,Option.some.injEq,exists_eq_left',aD,bu,cellAt]
  cases h1:a.u<;>by_cases h2:a.g=gen<;>simp[h1,h2]
 ·have e:jZ i 0 ((l.length:Int)-1)=false:=decide_eq_false (by omega)
  have hn:fT l i=none:=pE h
  simp[e,cellAt,hn]
theorem Pn (l:List Cell) (hl:l.length≤1073741824) (i gen:Int) (n:Int) (q:Bool):aa C sX [iD l,vI i,vI gen] (.tu [(0,[iI n]),(0,[iB q])]) []↔n=(cellAt l i gen).1∧q=(cellAt l i gen).2:=abx (KA l i gen hl)
theorem FN (l:List Cell) (hl:l.length≤1073741824):aa C eA [iD l] (vI (bQ l)) []:=by
 refine(JL _ _ ?_).run
 have key: ∀(n:Nat),n+(l.drop 0).length≤l.length→n+bQ (l.drop 0)=bQ l→ah C eA aj 4 0 (iT n (l.map bR) ((0:Nat):Int)) (fun u st=>au C eA aj u st fun r fs=>r=(vI (bQ l))∧fs=[]):=by
  refine aW l (fun i=> ∀(n:Nat),n+(l.drop i).length≤l.length→n+bQ (l.drop i)=bQ l→ah C eA aj 4 0 (iT n (l.map bR) i) (fun u st=>au C eA aj u st fun r fs=>r=(vI (bQ l))∧fs=[])) ?_ ?_
  ·intro n h0 h1
   refine vG _ _ _ _ (an (by simp) (Gc _ _ _ _ _ _ ?_))
   rw[List.drop_length] at h1
   simp[bQ] at h1
   simp[h1,bQ]
  ·intro i a hi ha hd ht hn n h0 h1
   refine vG _ _ _ _ (ai (by simp;omega) ?_)
   rw[hd] at h0 h1
   simp only[List.length_cons] at h0
   simp only[qm,aE,ha,Option.some.injEq,exists_eq_left',exists_eq_left,bJ,dS,fH,dg,dV,cY,dW,dX,fM,ck,natAdd,List.length_map,List.length_append,List.length_singleton,Bool.true_and,Bool.and_true]
   rw[aB (by omega),aB (by omega)]
   cases hu:a.u
   ·exact hn n (by omega) (by rw[←h1];simp[bQ,hu])
   ·exact hn (n+1) (by omega) (by rw[←h1];simp[bQ,hu];omega)
 exact key 0 (by simp) (by simp)
theorem IK (l:List Cell) (hl:l.length≤1073741824):aa C dH [iD l] (vB ((l.all iH&&decide (l.length=24)))) []:=by
 refine(OJ _ _ ?_).run
 have key:((l.drop 0).all iH&&decide (l.length=24))=(l.all iH&&decide (l.length=24))→ah C dH ak 4 0 (iQ (l.map bR) ((0:Nat):Int)) (fun u st=>au C dH ak u st fun r fs=>r=vB ((l.all iH&&decide (l.length=24)))∧fs=[]):=by
  refine aW l (fun i=>((l.drop i).all iH&&decide (l.length=24))=(l.all iH&&decide (l.length=24))→ah C dH ak 4 0 (iQ (l.map bR) i) (fun u st=>au C dH ak u st fun r fs=>r=vB ((l.all iH&&decide (l.length=24)))∧fs=[])) ?_ ?_
  ·intro h0
   refine zR _ _ _ (an (by simp) (JH _ _ _ _ _ ?_))
   rw[List.drop_length] at h0
   simp only[List.all_nil,Bool.true_and] at h0
   rw[←h0]
   simp[aD]
   try omega
  ·intro i a hi ha hd htk hn h0
   have gO:iH a=false→(l.all iH&&decide (l.length=24))=false:=fun e=>by rw[←h0,hd];simp[e]
   have gN:iH a=true→ah C dH ak 4 0 (iQ (l.map bR) ((i:Int)+1)) (fun u st=>au C dH ak u st fun r fs=>r=vB ((l.all iH&&decide (l.length=24)))∧fs=[]):=fun e=>hn (by rw[←h0,hd];simp[e])
   refine zR _ _ _ (ai (by simp;omega) ?_)
   simp only[qm,td,Pm,aD,aE,ha,Option.some.injEq,exists_eq_left',exists_eq_left,bJ,dS,fH,dg,dV,cY,dW,dX,fM,ck,natAdd,List.length_map,List.length_append,List.length_singleton,Bool.true_and,Bool.and_true]
   rw[aB (by omega)]
   cases h1:jZ a.g 0 999<;>cases h2:GQ a.n<;>cases h3:a.u<;>by_cases h4:a.n=0<;>simp only[h1,h2,h3,h4,lu,mI,decide_true,decide_false,not_true_eq_false,not_false_eq_true,Bool.not_true,Bool.not_false]<;>first|exact gN (by unfold iH;rw[h1,h2,h3];simp[h4])|exact JG _ _ _ _ (by rw[gO (by unfold iH;rw[h1,h2,h3];simp[h4])];exact⟨rfl,by first|rfl|trivial⟩)
 exact key rfl
theorem DS (l:List Cell) (hl:l.length≤1073741824) (q:Bool):aa C dH [iD l] (vB q) []↔q=ff l:=rI (IK l hl)
theorem KB (s:ByteArray) (hl:s.size≤140737488355328):aa C eF [vS s] (vB ((cP s.size (ey s)&&jZ s.size 1 6))) []:=by
 refine(QG _ _ ?_).run
 have key:((List.range' 0 (s.size-0)).all (ey s)&&jZ s.size 1 6)=(cP s.size (ey s)&&jZ s.size 1 6)→ah C eF ak 4 0 (jI s ((0:Nat):Int)) (fun u st=>au C eF ak u st fun r fs=>r=vB ((cP s.size (ey s)&&jZ s.size 1 6))∧fs=[]):=by
  refine oU (s.size) (fun i=>((List.range' i (s.size-i)).all (ey s)&&jZ s.size 1 6)=(cP s.size (ey s)&&jZ s.size 1 6)→ah C eF ak 4 0 (jI s i) (fun u st=>au C eF ak u st fun r fs=>r=vB ((cP s.size (ey s)&&jZ s.size 1 6))∧fs=[])) ?_ ?_
  ·intro h0
   refine CD _ _ _ (an (by simp) (Mh _ _ _ _ ?_))
   rw[Nat.sub_self] at h0
   simp only[List.range'_zero,List.all_nil,Bool.true_and] at h0
   rw[←h0]
   simp only[DO,exists_eq_left,Iw,Int.ofNat_eq_natCast]
   simp
  ·intro i hi hn h0
   rw[ko hi,List.all_cons] at h0
   have gO:(ey s) i=false→(cP s.size (ey s)&&jZ s.size 1 6)=false:=fun e=>by rw[←h0,e];rfl
   have gN:(ey s) i=true→ah C eF ak 4 0 (jI s ((i:Int)+1)) (fun u st=>au C eF ak u st fun r fs=>r=vB ((cP s.size (ey s)&&jZ s.size 1 6))∧fs=[]):=fun e=>hn (by rw[←h0,e];rfl)
   refine CD _ _ _ (ai (by simp;omega) ?_)
   obtain⟨n,hb,hn0,hn1⟩:=RA hi
   have hw:tT .i64 n=n:=Ui (by omega)
   simp only[hb,Option.some.injEq,exists_eq_left',DO,exists_eq_left,hw,bJ]
   rw[aB (by omega)]
   have e:ey s i=(jZ n 97 122||jZ n 48 57):=by unfold ey;rw[hb];rfl
   rw[e] at gO gN
   cases h1:jZ n 97 122<;>cases h2:jZ n 48 57<;>simp only[lu,mI]<;>first|exact gN (by rw[h1,h2];rfl)|exact Mg _ (by rw[gO (by rw[h1,h2];rfl)];exact⟨rfl,by first|rfl|trivial⟩)
 exact key rfl
theorem Po (s:ByteArray) (hl:s.size≤140737488355328) (q:Bool):aa C eF [vS s] (vB q) []↔q=Dq s:=rI (KB s hl)
theorem abA (l:List Age): ∀(id:Int),id=0→c7 l id=[]:=fun id h=>if_pos h
theorem tD (l:List Age) (id:Int) (hl:l.length≤1073741824):aa C eI [fG l,vI id] (lz (c7 l id)) []:=by
 refine(Qq _ _ _ ?_).run
 have key: ∀(acc:List Int),acc.length+(l.drop 0).length≤l.length→acc++c7 (l.drop 0) id=c7 l id→ah C eI aj 4 0 (jH (l.map bT) id ((0:Nat):Int) (acc.map bq)) (fun u st=>au C eI aj u st fun r fs=>r=(lz (c7 l id))∧fs=[]):=by
  refine aW l (fun i=> ∀(acc:List Int),acc.length+(l.drop i).length≤l.length→acc++c7 (l.drop i) id=c7 l id→ah C eI aj 4 0 (jH (l.map bT) id i (acc.map bq)) (fun u st=>au C eI aj u st fun r fs=>r=(lz (c7 l id))∧fs=[])) ?_ ?_
  ·intro acc h0 h1
   refine Cu _ _ _ _ _ (an (by simp) (LW _ _ _ _ _ _ ?_))
   rw[List.drop_length] at h1
   simp[c7] at h1
   simp[c7,h1]
  ·intro i a hi ha hd ht hn acc h0 h1
   refine Cu _ _ _ _ _ (ai (by simp;omega) ?_)
   rw[hd] at h0 h1
   simp only[List.length_cons] at h0
   simp only[rF,MM,Sv,aD,bu,aE,ha,Option.some.injEq,exists_eq_left',exists_eq_left,bJ,dS,fH,dg,dV,cY,dW,dX,fM,ck,natAdd,List.length_map,List.length_append,List.length_singleton,Bool.true_and,Bool.and_true]
   simp (disch:=omega) only[cZ,aB,lu]
   by_cases hz:id=0
   ·rw[abA _ _ hz] at h1
    have e: ∀(A B:Prop),(if a.fr=id then(if id=0 then A else B) else A)=if a.fr=id then A else A:=fun A B=>by rw[if_pos hz]
    rw[e,ite_self]
    exact hn _ (by omega) (by rw[abA _ _ hz,←h1])
   by_cases hk:a.fr=id
   ·rw[if_pos hk,if_neg hz]
    exact hn (acc++[a.id]) (by simp only[List.length_append,List.length_singleton];omega) (by rw[←h1];simp[c7,hk,hz])
   ·rw[if_neg hk]
    exact hn _ (by omega) (by rw[←h1];simp[c7,hk,hz])
 exact key [] (by simp) rfl
theorem IL (l:List Key) (hl:l.length≤1073741824):aa C g9 [cM l] (vB (cP l.length (ie l dU))) []:=by
 refine(OF _ _ ?_).run
 have key: ∀(k i:Nat),i+k=l.length→1≤i→(List.range' i k).all (ie l dU)=cP l.length (ie l dU)→ah C g9 ak 4 0 (pL (l.map bw) i) (fun u st=>au C g9 ak u st fun r fs=>r=vB (cP l.length (ie l dU))∧fs=[]):=by
  intro k
  induction k with
  |zero=>
   intro i h h1 h0
   refine sC _ _ _ (an (by simp;omega) (zP _ _ _ _ ?_))
   simp only[List.range'_zero,List.all_nil] at h0
   rw[←h0];exact⟨rfl,by first|rfl|trivial⟩
  |succ k ih=>
   intro i h h1 h0
   obtain⟨j,rfl⟩: ∃j,i=j+1:=⟨i-1,by omega⟩
   have hj:l[j]?=some l[j]:=List.getElem?_eq_getElem (by omega)
   have hj1:l[j+1]?=some l[j+1]:=List.getElem?_eq_getElem (by omega)
   have e:ie l dU (j+1)=dU l[j] l[j+1]:=by simp only[ie,hj,hj1]
   rw[List.range'_succ,List.all_cons,e] at h0
   refine sC _ _ _ (ai (by simp;omega) ?_)
   rw[eD (by omega),show((j+1:Nat):Int)-1=(j:Int) by omega]
   simp only[jj,aE,hj,hj1,Option.some.injEq,exists_eq_left',DQ,exists_eq_left,dg,bJ]
   rw[aB (by omega)]
   cases hb:dU l[j] l[j+1] with
   |true=>
    rw[hb,Bool.true_and] at h0
    exact ai rfl (ih (j+1+1) (by omega) (by omega) h0)
   |false=>
    rw[hb,Bool.false_and] at h0
    refine an rfl (JC _ ?_)
    rw[←h0];exact⟨rfl,by first|rfl|trivial⟩
 cases hz:l.length with
 |zero=>
  have:l=[]:=List.eq_nil_of_length_eq_zero hz
  subst this
  exact sC _ _ _ (an (by simp) (zP _ _ _ _ ⟨rfl,by first|rfl|trivial⟩))
 |succ n=>
  rw[hz] at key
  exact key n 1 (by omega) (by omega) (by unfold cP;rw[List.range'_succ,List.all_cons];rfl)
theorem N2 (l:List Key) (hl:l.length≤1073741824):aa C e9 [cM l] (vB ((l.all gY&&(cP l.length (ie l dU)&&decide (l.length≤60))))) []:=by
 refine(Td _ _ ?_).run
 have key:((l.drop 0).all gY&&(cP l.length (ie l dU)&&decide (l.length≤60)))=(l.all gY&&(cP l.length (ie l dU)&&decide (l.length≤60)))→ah C e9 ak 4 0 (mT (l.map bw) ((0:Nat):Int)) (fun u st=>au C e9 ak u st fun r fs=>r=vB ((l.all gY&&(cP l.length (ie l dU)&&decide (l.length≤60))))∧fs=[]):=by
  refine aW l (fun i=>((l.drop i).all gY&&(cP l.length (ie l dU)&&decide (l.length≤60)))=(l.all gY&&(cP l.length (ie l dU)&&decide (l.length≤60)))→ah C e9 ak 4 0 (mT (l.map bw) i) (fun u st=>au C e9 ak u st fun r fs=>r=vB ((l.all gY&&(cP l.length (ie l dU)&&decide (l.length≤60))))∧fs=[])) ?_ ?_
  ·intro h0
   refine Ei _ _ _ (an (by simp) (OX _ _ _ _ ?_))
   rw[List.drop_length] at h0
   simp only[List.all_nil,Bool.true_and] at h0
   rw[←h0]
   refine⟨_,IL l hl,?_⟩
   simp only[gD,List.length_map,Int.ofNat_eq_natCast]
   cases cP l.length (ie l dU)<;>simp
   omega
  ·intro i a hi ha hd htk hn h0
   have gO:gY a=false→(l.all gY&&(cP l.length (ie l dU)&&decide (l.length≤60)))=false:=fun e=>by rw[←h0,hd];simp[e]
   have gN:gY a=true→ah C e9 ak 4 0 (mT (l.map bw) ((i:Int)+1)) (fun u st=>au C e9 ak u st fun r fs=>r=vB ((l.all gY&&(cP l.length (ie l dU)&&decide (l.length≤60))))∧fs=[]):=fun e=>hn (by rw[←h0,hd];simp[e])
   refine Ei _ _ _ (ai (by simp;omega) ?_)
   simp only[jj,G3,aE,ha,Option.some.injEq,exists_eq_left',exists_eq_left,bJ,dS,fH,dg,dV,cY,dW,dX,fM,ck,natAdd,List.length_map,List.length_append,List.length_singleton,Bool.true_and,Bool.and_true]
   rw[aB (by omega)]
   cases h1:gY a<;>simp only[lu,mI]<;>first|exact gN (by assumption)|exact OW _ (by rw[gO (by assumption)];exact⟨rfl,by first|rfl|trivial⟩)
 exact key rfl
theorem KC (l:List Key) (hl:l.length≤1073741824):aa C e9 [cM l] (vB (Dm l)) []:=by
 have:=N2 l hl
 rw[NH]
 exact this
theorem SL (l:List Key) (hl:l.length≤1073741824) (q:Bool):aa C e9 [cM l] (vB q) []↔q=Dm l:=rI (KC l hl)
theorem KD (s:ByteArray) (hl:s.size≤140737488355328):aa C eH [vS s] (vB ((cP s.size (ey s)&&jZ s.size 1 6))) []:=by
 refine(QH _ _ ?_).run
 have key:((List.range' 0 (s.size-0)).all (ey s)&&jZ s.size 1 6)=(cP s.size (ey s)&&jZ s.size 1 6)→ah C eH ak 4 0 (jJ s ((0:Nat):Int)) (fun u st=>au C eH ak u st fun r fs=>r=vB ((cP s.size (ey s)&&jZ s.size 1 6))∧fs=[]):=by
  refine oU (s.size) (fun i=>((List.range' i (s.size-i)).all (ey s)&&jZ s.size 1 6)=(cP s.size (ey s)&&jZ s.size 1 6)→ah C eH ak 4 0 (jJ s i) (fun u st=>au C eH ak u st fun r fs=>r=vB ((cP s.size (ey s)&&jZ s.size 1 6))∧fs=[])) ?_ ?_
  ·intro h0
   refine CF _ _ _ (an (by simp) (Mj _ _ _ _ ?_))
   rw[Nat.sub_self] at h0
   simp only[List.range'_zero,List.all_nil,Bool.true_and] at h0
   rw[←h0]
   simp only[td,exists_eq_left,Iw,Int.ofNat_eq_natCast]
   simp
  ·intro i hi hn h0
   rw[ko hi,List.all_cons] at h0
   have gO:(ey s) i=false→(cP s.size (ey s)&&jZ s.size 1 6)=false:=fun e=>by rw[←h0,e];rfl
   have gN:(ey s) i=true→ah C eH ak 4 0 (jJ s ((i:Int)+1)) (fun u st=>au C eH ak u st fun r fs=>r=vB ((cP s.size (ey s)&&jZ s.size 1 6))∧fs=[]):=fun e=>hn (by rw[←h0,e];rfl)
   refine CF _ _ _ (ai (by simp;omega) ?_)
   obtain⟨n,hb,hn0,hn1⟩:=RA hi
   have hw:tT .i64 n=n:=Ui (by omega)
   simp only[hb,Option.some.injEq,exists_eq_left',td,exists_eq_left,hw,bJ]
   rw[aB (by omega)]
   have e:ey s i=(jZ n 97 122||jZ n 48 57):=by unfold ey;rw[hb];rfl
   rw[e] at gO gN
   cases h1:jZ n 97 122<;>cases h2:jZ n 48 57<;>simp only[lu,mI]<;>first|exact gN (by rw[h1,h2];rfl)|exact Mi _ (by rw[gO (by rw[h1,h2];rfl)];exact⟨rfl,by first|rfl|trivial⟩)
 exact key rfl
theorem Pp (s:ByteArray) (hl:s.size≤140737488355328) (q:Bool):aa C eH [vS s] (vB q) []↔q=Dq s:=rI (KD s hl)
theorem qp (l:List Age) (id:Int) (hl:l.length≤1073741824):aa C ek [fG l,vI id] (lz (c7 l id)) []:=by
 refine(QO _ _ _ ?_).run
 unfold c7
 by_cases hz:id=0
 ·refine ai (by simp[hz]) ?_
  rw[if_pos hz]
  exact⟨rfl,by first|rfl|trivial⟩
 refine an (by simp[hz]) ?_
 rw[if_neg hz]
 have key: ∀(acc:List Int),acc.length+(l.drop 0).length≤l.length→acc++((l.drop 0).filter fun a=>decide (a.fr=id)).map (·.id)=(l.filter fun a=>decide (a.fr=id)).map (·.id)→ah C ek av 4 0 (kV id (l.map bT) ((0:Nat):Int) (acc.map bq)) (fun u st=>au C ek av u st fun r fs=>r=lz ((l.filter fun a=>decide (a.fr=id)).map (·.id))∧fs=[]):=by
  refine aW l (fun i=> ∀(acc:List Int),acc.length+(l.drop i).length≤l.length→acc++((l.drop i).filter fun a=>decide (a.fr=id)).map (·.id)=(l.filter fun a=>decide (a.fr=id)).map (·.id)→ah C ek av 4 0 (kV id (l.map bT) i (acc.map bq)) (fun u st=>au C ek av u st fun r fs=>r=lz ((l.filter fun a=>decide (a.fr=id)).map (·.id))∧fs=[])) ?_ ?_
  ·intro acc h0 h1
   refine CH _ _ _ _ _ (an (by simp) (Mo _ _ _ _ _ _ _ ?_))
   rw[List.drop_length] at h1
   simp only[List.filter_nil,List.map_nil,List.append_nil] at h1
   rw[h1]
   exact⟨rfl,by first|rfl|trivial⟩
  ·intro i a hi ha hd ht hn acc h0 h1
   refine CH _ _ _ _ _ (ai (by simp;omega) ?_)
   rw[hd] at h0 h1
   simp only[List.length_cons] at h0
   simp only[rF,MM,Sv,aD,bu,aE,ha,Option.some.injEq,exists_eq_left',exists_eq_left,bJ,dS,fH,dg,dV,cY,dW,dX,fM,ck,natAdd,List.length_map,List.length_append,List.length_singleton,Bool.true_and,Bool.and_true]
   simp (disch:=omega) only[cZ,aB,lu]
   by_cases hk:a.fr=id
   ·rw[if_pos hk]
    exact hn (acc++[a.id]) (by simp only[List.length_append,List.length_singleton];omega) (by rw[←h1];simp[hk])
   ·rw[if_neg hk]
    exact hn _ (by omega) (by rw[←h1];simp[hk])
 exact key [] (by simp) rfl
theorem KE (l:List Key) (hl:l.length≤1073741824):aa C e8 [cM l] (vB ((cP l.length (mB l)&&decide (l.length≤60)))) []:=by
 refine(S8 _ _ ?_).run
 have key:((List.range' 0 (l.length-0)).all (mB l)&&decide (l.length≤60))=(cP l.length (mB l)&&decide (l.length≤60))→ah C e8 ak 4 0 (kE (l.map bw) ((0:Nat):Int)) (fun u st=>au C e8 ak u st fun r fs=>r=vB ((cP l.length (mB l)&&decide (l.length≤60)))∧fs=[]):=by
  refine oU (l.length) (fun i=>((List.range' i (l.length-i)).all (mB l)&&decide (l.length≤60))=(cP l.length (mB l)&&decide (l.length≤60))→ah C e8 ak 4 0 (kE (l.map bw) i) (fun u st=>au C e8 ak u st fun r fs=>r=vB ((cP l.length (mB l)&&decide (l.length≤60)))∧fs=[])) ?_ ?_
  ·intro h0
   refine Ee _ _ _ (an (by simp) (OQ _ _ _ _ _ ?_))
   rw[Nat.sub_self] at h0
   simp only[List.range'_zero,List.all_nil,Bool.true_and] at h0
   rw[←h0]
   simp[gD]
   omega
  ·intro i hi hn h0
   rw[ko hi,List.all_cons] at h0
   have gO:(mB l) i=false→(cP l.length (mB l)&&decide (l.length≤60))=false:=fun e=>by rw[←h0,e];rfl
   have gN:(mB l) i=true→ah C e8 ak 4 0 (kE (l.map bw) ((i:Int)+1)) (fun u st=>au C e8 ak u st fun r fs=>r=vB ((cP l.length (mB l)&&decide (l.length≤60)))∧fs=[]):=fun e=>hn (by rw[←h0,e];rfl)
   refine Ee _ _ _ (ai (by simp;omega) ?_)
   have ha:l[i]?=some l[i]:=List.getElem?_eq_getElem hi
   simp only[jj,G2,DP,aE,ha,Option.some.injEq,exists_eq_left',exists_eq_left,bJ,dS,fH,dg,dV,cY,dW,dX,fM,ck,natAdd,List.length_map,List.length_append,List.length_singleton,Bool.true_and,Bool.and_true]
   rw[aB (by omega)]
   cases i with
   |zero=>
    have e:mB l 0=gY l[0]:=by simp[mB,Xh,ie,hi]
    simp only[e] at gO gN
    cases h1:gY l[0]<;>simp only[h1,lu,mI,dK,bu,Int.natCast_zero,Int.lt_irrefl,if_false]<;>first|exact gN h1|exact Ef _ _ _ _ _ _ (by rw[gO h1];exact⟨rfl,by first|rfl|trivial⟩)
   |succ k=>
    have hk:l[k]?=some l[k]:=List.getElem?_eq_getElem (by omega)
    have e:mB l (k+1)=(gY l[k+1]&&dU l[k] l[k+1]):=by simp only[mB,Xh,ie,hk,ha]
    simp only[e] at gO gN
    rw[eD (by omega),show((k+1:Nat):Int)-1=(k:Int) by omega]
    simp only[aE,hk,Option.some.injEq,exists_eq_left',dg,dK,bu]
    rw[if_pos (by omega)]
    cases h1:gY l[k+1]<;>cases h2:dU l[k] l[k+1]<;>simp only[lu,mI]<;>first|exact gN (by rw[h1,h2];rfl)|exact Ef _ _ _ _ _ _ (by rw[gO (by rw[h1,h2];rfl)];exact⟨rfl,by first|rfl|trivial⟩)
 exact key rfl
theorem SM (l:List Key) (hl:l.length≤1073741824) (q:Bool):aa C e8 [cM l] (vB q) []↔q=Dm l:=rI (KE l hl)
theorem Pq (t:Tree) (l:List Age) (b id:Int) (hl:cz t≤1073741824) (ha:l.length≤1073741823):aa C IE [c8 t,fG l,vI b,vI id] (OY (EX t l b id)) []:=by
 refine(UQ _ _ _ _ _ _ ?_).run
 refine⟨_,AR l id (by omega),_,_,_,_,_,_,AT t b _ hl (by have:=Av l id;omega),?_⟩
 exact⟨rfl,by first|rfl|trivial⟩
theorem FO (t:Tree) (l:List Age) (b id:Int) (hl:cz t≤1073741824) (ha:l.length≤1073741823):aa C uX [c8 t,fG l,vI b,vI id] (OY (yM t l b id)) []:=by
 refine(JI _ _ _ _ _ _ ?_).run
 have hp:=Av l id
 refine⟨_,AR l id (by omega),?_⟩
 simp only[List.length_map,Int.ofNat_eq_natCast,aD,bu,cv]
 unfold yM
 by_cases h:(pathOf l id).length=0
 ·rw[if_pos (by omega),List.eq_nil_of_length_eq_zero h]
  simp[Zk,eo]
 ·rw[if_neg (by omega)]
  refine ai (by simp;omega) ⟨_,_,_,_,_,_,AT t b _ hl (by simp;omega),?_⟩
  have e:List.drop (Int.toNat 1) (List.take (Int.toNat ((pathOf l id).length:Int)) (pathOf l id))=(pathOf l id).drop 1:=by rw[Int.toNat_natCast,List.take_length];rfl
  rw[e]
  exact⟨rfl,by first|rfl|trivial⟩
theorem Pt (t:Tree) (l:List Age) (k:Key) (id:Int) (hl:cz t≤1073741824) (ha:l.length≤1073741823):aa C EE [c8 t,fG l,ru k,vI id] (vB (kr t l k id)) []:=by
 refine(UP _ _ _ _ _ _ _ _ _ _ ?_).run
 refine⟨_,_,_,_,_,_,Pq t l k.b id hl ha,?_⟩
 unfold kr
 simp only[aD]
 cases h:(EX t l k.b id).2
 ·exact an rfl ⟨rfl,by first|rfl|trivial⟩
 ·exact ai rfl ⟨by simp,by first|rfl|trivial⟩
theorem FP (p:Pool) (k:Key) (ht:cz p.t≤1073741824) (hg:p.ages.length≤1073741823) (hl:p.vols.length≤1073741824):aa C cU [eX p,ru k] (vB ((p.vols.any (fun v:Vol=>decide (k.b<v.size)&&kr p.t p.ages k v.age)))) []:=by
 refine(JW _ _ _ _ _ _ _ _ _ _ _ _ ?_).run
 have key:((p.vols.drop 0).any (fun v:Vol=>decide (k.b<v.size)&&kr p.t p.ages k v.age))=(p.vols.any (fun v:Vol=>decide (k.b<v.size)&&kr p.t p.ages k v.age))→ah C cU ak 4 0 (gK ((0:Nat):Int) (p.t.lows.map bq) (p.t.nodes.map aH) (p.ages.map bT) (p.cells.map bR) (p.vols.map dh) p.next k.b k.a k.k k.c k.g) (fun u st=>au C cU ak u st fun r fs=>r=vB ((p.vols.any (fun v:Vol=>decide (k.b<v.size)&&kr p.t p.ages k v.age)))∧fs=[]):=by
  refine aW p.vols (fun i=>((p.vols.drop i).any (fun v:Vol=>decide (k.b<v.size)&&kr p.t p.ages k v.age))=(p.vols.any (fun v:Vol=>decide (k.b<v.size)&&kr p.t p.ages k v.age))→ah C cU ak 4 0 (gK i (p.t.lows.map bq) (p.t.nodes.map aH) (p.ages.map bT) (p.cells.map bR) (p.vols.map dh) p.next k.b k.a k.k k.c k.g) (fun u st=>au C cU ak u st fun r fs=>r=vB ((p.vols.any (fun v:Vol=>decide (k.b<v.size)&&kr p.t p.ages k v.age)))∧fs=[])) ?_ ?_
  ·intro h0
   refine vK _ _ _ _ _ _ _ _ _ _ _ _ _ (an (by simp) (Gh _ _ _ _ _ _ _ _ _ _ _ _ _ _ ?_))
   rw[List.drop_length] at h0
   simp only[List.any_nil,Bool.true_and] at h0
   rw[←h0]
   exact⟨rfl,by first|rfl|trivial⟩
  ·intro i a hi ha hd htk hn h0
   have gO:(fun v:Vol=>decide (k.b<v.size)&&kr p.t p.ages k v.age) a=true→(p.vols.any (fun v:Vol=>decide (k.b<v.size)&&kr p.t p.ages k v.age))=true:=fun e=>by rw[←h0,hd];simp[e]
   have gN:(fun v:Vol=>decide (k.b<v.size)&&kr p.t p.ages k v.age) a=false→ah C cU ak 4 0 (gK ((i:Int)+1) (p.t.lows.map bq) (p.t.nodes.map aH) (p.ages.map bT) (p.cells.map bR) (p.vols.map dh) p.next k.b k.a k.k k.c k.g) (fun u st=>au C cU ak u st fun r fs=>r=vB ((p.vols.any (fun v:Vol=>decide (k.b<v.size)&&kr p.t p.ages k v.age)))∧fs=[]):=fun e=>hn (by rw[←h0,hd];simp[e])
   refine vK _ _ _ _ _ _ _ _ _ _ _ _ _ (ai (by simp;omega) ?_)
   have hh: ∀q,aa C EE [c8 p.t,fG p.ages,ru k,vI a.age] (vB q) []↔q=kr p.t p.ages k a.age:=fun q=>rI (Pt p.t p.ages k a.age ht hg)
   simp only[yj,hh,dK,bu,aE,ha,Option.some.injEq,exists_eq_left',exists_eq_left,bJ,dS,fH,dg,dV,cY,dW,dX,fM,ck,natAdd,List.length_map,List.length_append,List.length_singleton,Bool.true_and,Bool.and_true]
   rw[aB (by omega)]
   by_cases h1:k.b<a.size<;>cases h2:kr p.t p.ages k a.age<;>simp only[h1,if_true,if_false,lu,mI]<;>first|exact gN (by simp[h1,h2])|exact Gg _ _ _ _ _ _ _ _ _ _ _ _ (by rw[gO (by simp[h1,h2])];exact⟨rfl,by first|rfl|trivial⟩)
 exact key rfl
theorem EJ (p:Pool) (k:Key) (ht:cz p.t≤1073741824) (hg:p.ages.length≤1073741823) (hl:p.vols.length≤1073741824):aa C cU [eX p,ru k] (vB (IB p k)) []:=FP p k ht hg hl
theorem Pu (t:Tree) (l:List Age) (b id:Int) (hl:cz t≤1073741824) (ha:l.length≤1073741823):aa C IF [c8 t,fG l,vI b,vI id] (OY (EX t l b id)) []:=by
 refine(UK _ _ _ _ _ _ ?_).run
 refine⟨_,AS l id (by omega),_,_,_,_,_,_,AU t b _ hl (by have:=Av l id;omega),?_⟩
 exact⟨rfl,by first|rfl|trivial⟩
theorem FQ (t:Tree) (l:List Age) (b id:Int) (hl:cz t≤1073741824) (ha:l.length≤1073741823):aa C uY [c8 t,fG l,vI b,vI id] (OY (yM t l b id)) []:=by
 refine(JU _ _ _ _ _ _ ?_).run
 have hp:=Av l id
 refine⟨_,AS l id (by omega),?_⟩
 simp only[List.length_map,Int.ofNat_eq_natCast,cv,aax]
 unfold yM
 have e: ∀m:Int,((m=1∧1≤(pathOf l id).length)∨(m=0∧(pathOf l id).length=0))→List.drop m.toNat (List.take (Int.toNat ((pathOf l id).length:Int)) (pathOf l id))=(pathOf l id).drop 1:=fun m hm=>by
  rw[Int.toNat_natCast,List.take_length]
  rcases hm with⟨rfl,_⟩|⟨rfl,h⟩
  ·rfl
  ·rw[List.eq_nil_of_length_eq_zero h];rfl
 have hm:(if((pathOf l id).length:Int)<1 then((pathOf l id).length:Int) else 1)=1∧1≤(pathOf l id).length∨((if((pathOf l id).length:Int)<1 then((pathOf l id).length:Int) else 1)=0∧(pathOf l id).length=0):=by split<;>omega
 revert hm
 generalize (if((pathOf l id).length:Int)<1 then((pathOf l id).length:Int) else 1)=m
 intro hm
 rw[e m hm]
 refine ai (by simp;omega) ⟨_,_,_,_,_,_,AU t b _ hl (by simp;omega),?_⟩
 exact⟨rfl,by first|rfl|trivial⟩
theorem Pv (t:Tree) (l:List Age) (k:Key) (id:Int) (hl:cz t≤1073741824) (ha:l.length≤1073741823):aa C EF [c8 t,fG l,ru k,vI id] (vB (kr t l k id)) []:=by
 refine(UJ _ _ _ _ _ _ _ _ _ _ ?_).run
 refine⟨_,_,_,_,_,_,Pu t l k.b id hl ha,?_⟩
 unfold kr
 simp only[aD]
 cases h:(EX t l k.b id).2
 ·exact an rfl ⟨rfl,by first|rfl|trivial⟩
 ·exact ai rfl ⟨by simp,by first|rfl|trivial⟩
theorem FR (p:Pool) (k:Key) (ht:cz p.t≤1073741824) (hg:p.ages.length≤1073741823) (hl:p.vols.length≤1073741824):aa C cV [eX p,ru k] (vB ((p.vols.any (fun v:Vol=>decide (k.b<v.size)&&kr p.t p.ages k v.age)))) []:=by
 refine(JA _ _ _ _ _ _ _ _ _ _ _ _ ?_).run
 have key:((p.vols.drop 0).any (fun v:Vol=>decide (k.b<v.size)&&kr p.t p.ages k v.age))=(p.vols.any (fun v:Vol=>decide (k.b<v.size)&&kr p.t p.ages k v.age))→ah C cV ak 4 0 (gJ (p.vols.map dh) ((0:Nat):Int) (p.t.lows.map bq) (p.t.nodes.map aH) (p.ages.map bT) (p.cells.map bR) p.next k.b k.a k.k k.c k.g) (fun u st=>au C cV ak u st fun r fs=>r=vB ((p.vols.any (fun v:Vol=>decide (k.b<v.size)&&kr p.t p.ages k v.age)))∧fs=[]):=by
  refine aW p.vols (fun i=>((p.vols.drop i).any (fun v:Vol=>decide (k.b<v.size)&&kr p.t p.ages k v.age))=(p.vols.any (fun v:Vol=>decide (k.b<v.size)&&kr p.t p.ages k v.age))→ah C cV ak 4 0 (gJ (p.vols.map dh) i (p.t.lows.map bq) (p.t.nodes.map aH) (p.ages.map bT) (p.cells.map bR) p.next k.b k.a k.k k.c k.g) (fun u st=>au C cV ak u st fun r fs=>r=vB ((p.vols.any (fun v:Vol=>decide (k.b<v.size)&&kr p.t p.ages k v.age)))∧fs=[])) ?_ ?_
  ·intro h0
   refine vC _ _ _ _ _ _ _ _ _ _ _ _ _ (an (by simp) (F8 _ _ _ _ _ _ _ _ _ _ _ _ _ _ _ ?_))
   rw[List.drop_length] at h0
   simp only[List.any_nil,Bool.true_and] at h0
   rw[←h0]
   exact⟨rfl,by first|rfl|trivial⟩
  ·intro i a hi ha hd htk hn h0
   have gO:(fun v:Vol=>decide (k.b<v.size)&&kr p.t p.ages k v.age) a=true→(p.vols.any (fun v:Vol=>decide (k.b<v.size)&&kr p.t p.ages k v.age))=true:=fun e=>by rw[←h0,hd];simp[e]
   have gN:(fun v:Vol=>decide (k.b<v.size)&&kr p.t p.ages k v.age) a=false→ah C cV ak 4 0 (gJ (p.vols.map dh) ((i:Int)+1) (p.t.lows.map bq) (p.t.nodes.map aH) (p.ages.map bT) (p.cells.map bR) p.next k.b k.a k.k k.c k.g) (fun u st=>au C cV ak u st fun r fs=>r=vB ((p.vols.any (fun v:Vol=>decide (k.b<v.size)&&kr p.t p.ages k v.age)))∧fs=[]):=fun e=>hn (by rw[←h0,hd];simp[e])
   refine vC _ _ _ _ _ _ _ _ _ _ _ _ _ (ai (by simp;omega) ?_)
   have hh: ∀q,aa C EF [c8 p.t,fG p.ages,ru k,vI a.age] (vB q) []↔q=kr p.t p.ages k a.age:=fun q=>rI (Pv p.t p.ages k a.age ht hg)
   simp only[yj,hh,dK,bu,aE,ha,Option.some.injEq,exists_eq_left',exists_eq_left,bJ,dS,fH,dg,dV,cY,dW,dX,fM,ck,natAdd,List.length_map,List.length_append,List.length_singleton,Bool.true_and,Bool.and_true]
   rw[aB (by omega)]
   by_cases h1:k.b<a.size<;>cases h2:kr p.t p.ages k a.age<;>simp only[h1,if_true,if_false,lu,mI]<;>first|exact gN (by simp[h1,h2])|exact F7 _ _ _ _ _ _ _ _ _ _ _ _ _ _ _ _ (by rw[gO (by simp[h1,h2])];exact⟨rfl,by first|rfl|trivial⟩)
 exact key rfl
theorem EK (p:Pool) (k:Key) (ht:cz p.t≤1073741824) (hg:p.ages.length≤1073741823) (hl:p.vols.length≤1073741824):aa C cV [eX p,ru k] (vB (IB p k)) []:=FR p k ht hg hl
@[simp] theorem Pw (n:ByteArray) (a z:Int) (f:Bool) (id:Int) (q:Bool):aa C sY [.ag [iS n,iI a,iI z,iB f],.bx [iI id]] (vB q) []↔q=decide (a=id):=rI (by
  refine(Qx _ _ _ _ _ _ ?_).run
  simp)
theorem EL (l:List Vol) (id:Int) (hl:l.length≤1073741824):aa C aO [yK l,.fn sY [[iI id]]] (vI (fj (fun v:Vol=>decide (v.age=id)) l 0)) []:=by
 refine(qV _ _ _ ?_).run
 have key:fj (fun v:Vol=>decide (v.age=id)) (l.drop 0) ((0:Nat):Int)=fj (fun v:Vol=>decide (v.age=id)) l 0→ah C aO ak 4 0 (di (l.map dh) ((0:Nat):Int) id) (fun u st=>au C aO ak u st fun r fs=>r=vI (fj (fun v:Vol=>decide (v.age=id)) l 0)∧fs=[]):=by
  refine aW l (fun i=>fj (fun v:Vol=>decide (v.age=id)) (l.drop i) (i:Int)=fj (fun v:Vol=>decide (v.age=id)) l 0→ah C aO ak 4 0 (di (l.map dh) i id) _) ?_ ?_
  ·intro h0
   refine jN _ _ _ _ (an (by simp) (p7 _ _ _ _ _ _ ?_))
   rw[List.drop_length] at h0
   simp only[fj] at h0
   change _=vI (fj (fun v:Vol=>decide (v.age=id)) l 0)∧_
   rw[←h0]
   exact⟨rfl,by first|rfl|trivial⟩
  ·intro i a hi ha hd htk hn h0
   refine jN _ _ _ _ (ai (by simp;omega) ?_)
   rw[hd] at h0
   simp only[fj] at h0
   simp only[yj,aD,Pw,bu,aE,ha,Option.some.injEq,exists_eq_left',exists_eq_left,bJ,dS,fH,dg,dV,cY,dW,dX,fM,ck,natAdd,List.length_map,List.length_append,List.length_singleton,Bool.true_and,Bool.and_true]
   rw[aB (by omega)]
   split at h0
   ·rename_i hp
    have hp:=of_decide_eq_true hp
    first|rw[if_pos hp]|rw[if_pos hp.symm]
    refine p6 _ _ _ ?_
    rw[h0]
    exact⟨rfl,by first|rfl|trivial⟩
   ·rename_i hp
    have hp: ¬_:=fun h=>hp (decide_eq_true h)
    first|rw[if_neg hp]|rw[if_neg (fun h=>hp h.symm)]
    exact hn h0
 exact key rfl
theorem EM (l:List Vol) (id:Int) (hl:l.length≤1073741824):aa C dJ [yK l,.fn sY [[iI id]]] (vB (l.any (fun v:Vol=>decide (v.age=id)))) []:=by
 refine(pT _ _ _ ⟨_,EL l id hl,?_⟩).run
 rw[gD,GS _ _ _ (by omega)]
 exact⟨rfl,by first|rfl|trivial⟩
@[simp] theorem KF (n:ByteArray) (a z:Int) (f:Bool) (s:ByteArray) (a' z':Int) (f':Bool) (q:Bool):aa C nS [.ag [iS n,iI a,iI z,iB f],.bx [iS s,iI a',iI z',iB f']] (vB q) []↔q=decide (a=a'):=rI (by
  refine(MA _ _ _ _ _ _ _ _ _ ?_).run
  simp)
theorem CT (l:List Vol) (s:ByteArray) (a' z':Int) (f':Bool) (hl:l.length≤1073741824):aa C aO [yK l,.fn nS [[iS s,iI a',iI z',iB f']]] (vI (fj (fun v:Vol=>decide (v.age=a')) l 0)) []:=by
 refine(p8 _ _ _ _ _ _ ?_).run
 have key:fj (fun v:Vol=>decide (v.age=a')) (l.drop 0) ((0:Nat):Int)=fj (fun v:Vol=>decide (v.age=a')) l 0→ah C aO ak 4 0 (cW (l.map dh) ((0:Nat):Int) s a' z' f') (fun u st=>au C aO ak u st fun r fs=>r=vI (fj (fun v:Vol=>decide (v.age=a')) l 0)∧fs=[]):=by
  refine aW l (fun i=>fj (fun v:Vol=>decide (v.age=a')) (l.drop i) (i:Int)=fj (fun v:Vol=>decide (v.age=a')) l 0→ah C aO ak 4 0 (cW (l.map dh) i s a' z' f') _) ?_ ?_
  ·intro h0
   refine jq _ _ _ _ _ _ _ (an (by simp) (o7 _ _ _ _ _ _ _ _ _ ?_))
   rw[List.drop_length] at h0
   simp only[fj] at h0
   change _=vI (fj (fun v:Vol=>decide (v.age=a')) l 0)∧_
   rw[←h0]
   exact⟨rfl,by first|rfl|trivial⟩
  ·intro i a hi ha hd htk hn h0
   refine jq _ _ _ _ _ _ _ (ai (by simp;omega) ?_)
   rw[hd] at h0
   simp only[fj] at h0
   simp only[yj,aD,KF,bu,aE,ha,Option.some.injEq,exists_eq_left',exists_eq_left,bJ,dS,fH,dg,dV,cY,dW,dX,fM,ck,natAdd,List.length_map,List.length_append,List.length_singleton,Bool.true_and,Bool.and_true]
   rw[aB (by omega)]
   split at h0
   ·rename_i hp
    have hp:=of_decide_eq_true hp
    first|rw[if_pos hp]|rw[if_pos hp.symm]
    refine o6 _ _ _ _ _ _ ?_
    rw[h0]
    exact⟨rfl,by first|rfl|trivial⟩
   ·rename_i hp
    have hp: ¬_:=fun h=>hp (decide_eq_true h)
    first|rw[if_neg hp]|rw[if_neg (fun h=>hp h.symm)]
    exact hn h0
 exact key rfl
theorem CU (l:List Vol) (s:ByteArray) (a' z':Int) (f':Bool) (hl:l.length≤1073741824):aa C dJ [yK l,.fn nS [[iS s,iI a',iI z',iB f']]] (vB (l.any (fun v:Vol=>decide (v.age=a')))) []:=by
 refine(oJ _ _ _ _ _ _ ⟨_,CT l s a' z' f' hl,?_⟩).run
 rw[gD,GS _ _ _ (by omega)]
 exact⟨rfl,by first|rfl|trivial⟩
theorem E4 (p:Pool) (id:Int) (hl:p.vols.length≤1073741824):aa C ED [eX p,vI id] (vB (nj p.vols id)) []:=(UN _ _ _ _ _ _ _ _ ⟨_,EM p.vols id hl,rfl,by first|rfl|trivial⟩).run
theorem IM (n:List (List Key)) (hb:n.length≤1073741824) (hl:tot bH n≤1073741824):aa C gu [gz n] (vI (cq n)) []:=by
 refine(Oo _ _ ?_).run
 have key: ∀(c:Nat),c+tot bH (n.drop 0)=cq n→ah C gu aj 4 0 (mO c ((0:Nat):Int) (n.map bX)) (fun u st=>au C gu aj u st fun r fs=>r=(vI (cq n))∧fs=[]):=by
  refine aW n (fun i=> ∀(c:Nat),c+tot bH (n.drop i)=cq n→ah C gu aj 4 0 (mO c i (n.map bX)) (fun u st=>au C gu aj u st fun r fs=>r=(vI (cq n))∧fs=[])) ?_ ?_
  ·intro c h0
   refine zJ _ _ _ _ (an (by simp) (Js _ _ _ _ _ ?_))
   rw[List.drop_length] at h0
   simp only[tot,Nat.add_zero] at h0
   rw[h0]
   exact⟨rfl,by first|rfl|trivial⟩
  ·intro i a hi ha hd ht hn c h0
   refine zJ _ _ _ _ (ai (by simp;omega) ?_)
   rw[hd] at h0
   have e5:tot bH (a::n.drop (i+1))=a.length+tot bH (n.drop (i+1)):=rfl
   rw[e5] at h0
   unfold cq at h0
   simp only[su,aE,ha,Option.some.injEq,exists_eq_left',exists_eq_left,bJ,dS,fH,dg,dV,cY,dW,dX,fM,ck,natAdd,List.length_map,List.length_append,List.length_singleton,Bool.true_and,Bool.and_true]
   rw[aB (by simp only[Int.ofNat_eq_natCast];omega),aB (by omega)]
   exact hn (c+a.length) (by unfold cq;omega)
 exact key 0 (by simp[cq])
theorem IN (n:List (List Key)) (hs:tot bH n≤1073741824) (hl:n.length≤1073741824):aa C bM [gz n] (vB ((n.all dj&&(decide (n.length≤3)&&decide (cq n≤8))))) []:=by
 refine(QT _ _ ?_).run
 have key:((n.drop 0).all dj&&(decide (n.length≤3)&&decide (cq n≤8)))=(n.all dj&&(decide (n.length≤3)&&decide (cq n≤8)))→ah C bM ak 4 0 (kW ((0:Nat):Int) (n.map bX)) (fun u st=>au C bM ak u st fun r fs=>r=vB ((n.all dj&&(decide (n.length≤3)&&decide (cq n≤8))))∧fs=[]):=by
  refine aW n (fun i=>((n.drop i).all dj&&(decide (n.length≤3)&&decide (cq n≤8)))=(n.all dj&&(decide (n.length≤3)&&decide (cq n≤8)))→ah C bM ak 4 0 (kW i (n.map bX)) (fun u st=>au C bM ak u st fun r fs=>r=vB ((n.all dj&&(decide (n.length≤3)&&decide (cq n≤8))))∧fs=[])) ?_ ?_
  ·intro h0
   refine CK _ _ _ (an (by simp) (Mt _ _ _ _ ?_))
   rw[List.drop_length] at h0
   simp only[List.all_nil,Bool.true_and] at h0
   rw[←h0]
   simp only[gD,List.length_map,Int.ofNat_eq_natCast,bu]
   by_cases h3:n.length≤3
   ·rw[if_pos (by omega)]
    refine⟨_,IM n hl hs,?_⟩
    simp[h3]
    omega
   ·rw[if_neg (by omega)]
    simp[h3]
  ·intro i a hi ha hd htk hn h0
   have gO:dj a=false→(n.all dj&&(decide (n.length≤3)&&decide (cq n≤8)))=false:=fun e=>by rw[←h0,hd];simp[e]
   have gN:dj a=true→ah C bM ak 4 0 (kW ((i:Int)+1) (n.map bX)) (fun u st=>au C bM ak u st fun r fs=>r=vB ((n.all dj&&(decide (n.length≤3)&&decide (cq n≤8))))∧fs=[]):=fun e=>hn (by rw[←h0,hd];simp[e])
   refine CK _ _ _ (ai (by simp;omega) ?_)
   have hz:a.length≤tot bH n:=lB (w:=bH) ha
   have hh: ∀q,aa C e9 [cM a] (vB q) []↔q=Dm a:=fun q=>SL a (by omega) q
   simp only[su,hh,aD,Int.ofNat_eq_natCast,bu,aE,ha,Option.some.injEq,exists_eq_left',exists_eq_left,bJ,dS,fH,dg,dV,cY,dW,dX,fM,ck,natAdd,List.length_map,List.length_append,List.length_singleton,Bool.true_and,Bool.and_true]
   rw[aB (by omega)]
   cases h1:Dm a<;>by_cases h2:a.length=0<;>simp only[lu,mI]<;>first|(rw[if_pos (by omega)];exact CL _ _ (by rw[gO (by simp[dj,h1,h2])];exact⟨rfl,by first|rfl|trivial⟩))|(rw[if_neg (by omega)];exact gN (by simp[dj,h1,h2]))|exact CL _ _ (by rw[gO (by simp[dj,h1,h2])];exact⟨rfl,by first|rfl|trivial⟩)
 exact key rfl
theorem tE (n:List (List Key)) (hb:n.length≤1073741824) (hl:tot bH n≤1073741824):aa C bM [gz n] (vB (fK n)) []:=by
 have:=IN n hl hb
 rw[RC]
 exact this
theorem AV (l:List Age) (hl:l.length≤1073741824):aa C dy [fG l] (vB ((cP l.length (eE l)&&decide (l.length≤16)))) []:=by
 refine(Qo _ _ ?_).run
 have key:((List.range' 0 (l.length-0)).all (eE l)&&decide (l.length≤16))=(cP l.length (eE l)&&decide (l.length≤16))→ah C dy ak 4 0 (gy (l.map bT) ((0:Nat):Int)) (fun u st=>au C dy ak u st fun r fs=>r=vB ((cP l.length (eE l)&&decide (l.length≤16)))∧fs=[]):=by
  refine oU (l.length) (fun i=>((List.range' i (l.length-i)).all (eE l)&&decide (l.length≤16))=(cP l.length (eE l)&&decide (l.length≤16))→ah C dy ak 4 0 (gy (l.map bT) i) (fun u st=>au C dy ak u st fun r fs=>r=vB ((cP l.length (eE l)&&decide (l.length≤16)))∧fs=[])) ?_ ?_
  ·intro h0
   refine Cr _ _ _ (an (by simp) (LQ _ _ _ _ ?_))
   rw[Nat.sub_self] at h0
   simp only[List.range'_zero,List.all_nil,Bool.true_and] at h0
   rw[←h0]
   simp[gD]
   omega
  ·intro i hi hn h0
   rw[ko hi,List.all_cons] at h0
   have gO:(eE l) i=false→(cP l.length (eE l)&&decide (l.length≤16))=false:=fun e=>by rw[←h0,e];rfl
   have gN:(eE l) i=true→ah C dy ak 4 0 (gy (l.map bT) ((i:Int)+1)) (fun u st=>au C dy ak u st fun r fs=>r=vB ((cP l.length (eE l)&&decide (l.length≤16)))∧fs=[]):=fun e=>hn (by rw[←h0,e];rfl)
   refine Cr _ _ _ (ai (by simp;omega) ?_)
   have ha:l[i]?=some l[i]:=List.getElem?_eq_getElem hi
   have hh: ∀q,aa C dL [fG (l.take i),vI l[i].fr] (vI q) []↔q=eg (l.take i) l[i].fr:=fun q=>AI (l.take i) l[i].fr (by simp;omega) q
   have hcut:aA (l.map bT) 0 (i:Int)=(l.take i).map bT:=by rw[cv,Int.toNat_natCast];rfl
   have hin:eU 0 (i:Int) (l.length:Int)=true:=by simp;omega
   simp only[rF,DO,hcut,aE,ha,Option.some.injEq,exists_eq_left',exists_eq_left,bJ,dS,fH,dg,dV,cY,dW,dX,fM,ck,natAdd,List.length_map,List.length_append,List.length_singleton,Bool.true_and,Bool.and_true]
   simp only[ha,hin,hh,exists_eq_left,Option.some.injEq,exists_eq_left',lu,aD,gD,dK,bu,Int.ofNat_eq_natCast,List.length_map]
   rw[aB (by omega)]
   cases i with
   |zero=>
    have e:eE l 0=(jZ l[0].id 1 60&&(decide (l[0].fr=0)|| !decide (eg (l.take 0) l[0].fr<0))):=by simp[eE,Xh,ie,hi]
    rw[e] at gO gN
    have hz: ¬((0:Int)<((0:Nat):Int)):=by omega
    simp only[if_neg hz]
    cases h1:jZ l[0].id 1 60 with
    |false=>simp only[mI];exact nL _ (by rw[gO (by rw[h1];simp)];exact⟨rfl,by first|rfl|trivial⟩)
    |true=>
     simp only[lu]
     by_cases h2:l[0].fr=0
     ·rw[if_pos h2];exact gN (by rw[h1,decide_eq_true h2];simp)
     ·rw[if_neg h2]
      by_cases h3:eg (l.take 0) l[0].fr<0
      ·rw[if_pos h3];exact nL _ (by rw[gO (by rw[decide_eq_false h2,decide_eq_true h3];simp)];exact⟨rfl,by first|rfl|trivial⟩)
      ·rw[if_neg h3];exact gN (by rw[h1,decide_eq_false h3];simp)
   |succ k=>
    have hk:l[k]?=some l[k]:=List.getElem?_eq_getElem (by omega)
    have e:eE l (k+1)=(jZ l[k+1].id 1 60&&(decide (l[k].id<l[k+1].id)&&(decide (l[k+1].fr=0)|| !decide (eg (l.take (k+1)) l[k+1].fr<0)))):=by simp only[eE,Xh,ie,hk,ha]
    rw[e] at gO gN
    rw[eD (by omega),show((k+1:Nat):Int)-1=(k:Int) by omega]
    simp only[aE,hk,Option.some.injEq,exists_eq_left']
    rw[if_pos (by omega)]
    cases h1:jZ l[k+1].id 1 60 with
    |false=>simp only[mI];exact nL _ (by rw[gO (by rw[h1];simp)];exact⟨rfl,by first|rfl|trivial⟩)
    |true=>
     simp only[lu]
     by_cases h4:l[k].id<l[k+1].id
     ·rw[if_neg (by omega)]
      by_cases h2:l[k+1].fr=0
      ·rw[if_pos h2];exact gN (by rw[h1,decide_eq_true h4,decide_eq_true h2];simp)
      ·rw[if_neg h2]
       by_cases h3:eg (l.take (k+1)) l[k+1].fr<0
       ·rw[if_pos h3];exact nL _ (by rw[gO (by rw[decide_eq_false h2,decide_eq_true h3];simp)];exact⟨rfl,by first|rfl|trivial⟩)
       ·rw[if_neg h3];exact gN (by rw[h1,decide_eq_true h4,decide_eq_false h3];simp)
     ·rw[if_pos (by omega)];exact nL _ (by rw[gO (by rw[decide_eq_false h4];simp)];exact⟨rfl,by first|rfl|trivial⟩)
 exact key rfl
theorem Px (l:List Age) (hl:l.length≤1073741824) (q:Bool):aa C dy [fG l] (vB q) []↔q=gX l:=rI (AV l hl)
theorem IP (n:List (List Key)) (hb:n.length≤1073741824) (hl:tot bH n≤1073741824):aa C bK [gz n] (vB (n.all dj&&(decide (n.length≤3)&&decide (cq n≤8)))) []:=by
 refine(PU _ _ ?_).run
 have key: ∀(c:Nat),c+tot bH (n.drop 0)=cq n→((n.drop 0).all dj&&(decide (n.length≤3)&&decide (cq n≤8)))=(n.all dj&&(decide (n.length≤3)&&decide (cq n≤8)))→ah C bK aj 4 0 (ny c (n.map bX) ((0:Nat):Int)) (fun u st=>au C bK aj u st fun r fs=>r=(vB (n.all dj&&(decide (n.length≤3)&&decide (cq n≤8))))∧fs=[]):=by
  refine aW n (fun i=> ∀(c:Nat),c+tot bH (n.drop i)=cq n→((n.drop i).all dj&&(decide (n.length≤3)&&decide (cq n≤8)))=(n.all dj&&(decide (n.length≤3)&&decide (cq n≤8)))→ah C bK aj 4 0 (ny c (n.map bX) i) (fun u st=>au C bK aj u st fun r fs=>r=(vB (n.all dj&&(decide (n.length≤3)&&decide (cq n≤8))))∧fs=[])) ?_ ?_
  ·intro c h0 h1
   refine B7 _ _ _ _ (an (by simp) (K9 _ _ _ _ _ _ ?_))
   rw[List.drop_length] at h0 h1
   simp only[tot,Nat.add_zero] at h0
   simp only[List.all_nil,Bool.true_and] at h1
   rw[←h1]
   simp only[gD,List.length_map,Int.ofNat_eq_natCast,bu]
   by_cases h3:n.length≤3
   ·rw[if_pos (by omega)]
    simp[h3]
    omega
   ·rw[if_neg (by omega)]
    simp[h3]
  ·intro i a hi ha hd ht hn c h0 h1
   refine B7 _ _ _ _ (ai (by simp;omega) ?_)
   have hz:a.length≤tot bH n:=lB (w:=bH) ha
   have hh: ∀q,aa C e8 [cM a] (vB q) []↔q=Dm a:=fun q=>SM a (by omega) q
   rw[hd] at h0 h1
   have e5:tot bH (a::n.drop (i+1))=a.length+tot bH (n.drop (i+1)):=rfl
   rw[e5] at h0
   unfold cq at h0
   have hO:dj a=false→au C bK aj TX.ret (qv (n.map bX)) (fun r fs=>r=vB (n.all dj&&(decide (n.length≤3)&&decide (cq n≤8)))∧fs=[]):=fun e=>K8 _ _ (by rw[←h1];simp only[List.all_cons,e];exact⟨rfl,by first|rfl|trivial⟩)
   simp only[su,hh,aD,Int.ofNat_eq_natCast,bu,aE,ha,Option.some.injEq,exists_eq_left',exists_eq_left,bJ,dS,fH,dg,dV,cY,dW,dX,fM,ck,natAdd,List.length_map,List.length_append,List.length_singleton,Bool.true_and,Bool.and_true]
   rw[aB (by omega),aB (by omega)]
   cases h2:Dm a<;>by_cases h3:a.length=0<;>simp only[lu,mI]
   ·exact hO (by simp[dj,h2])
   ·exact hO (by simp[dj,h2])
   ·rw[if_pos (by omega)];exact hO (by simp[dj,h3])
   ·rw[if_neg (by omega)]
    exact hn (c+a.length) (by unfold cq;omega) (by rw[←h1];simp[dj,h2,h3])
 exact key 0 (by simp[cq]) rfl
theorem tF (n:List (List Key)) (hb:n.length≤1073741824) (hl:tot bH n≤1073741824):aa C bK [gz n] (vB (fK n)) []:=by
 have:=IP n hb hl
 rw[RC]
 exact this
theorem Py (n:List (List Key)) (hb:n.length≤1073741824) (hl:tot bH n≤1073741824) (q:Bool):aa C bK [.ag [.sub 1 (n.map bX)]] (vB q) []↔q=fK n:=rI (tF n hb hl)
theorem AW (l:List Age) (hl:l.length≤1073741824):aa C dz [fG l] (vB ((cP l.length (eE l)&&decide (l.length≤16)))) []:=by
 refine(P5 _ _ ?_).run
 have key:((List.range' 0 (l.length-0)).all (eE l)&&decide (l.length≤16))=(cP l.length (eE l)&&decide (l.length≤16))→ah C dz ak 4 0 (gx (l.map bT) ((0:Nat):Int)) (fun u st=>au C dz ak u st fun r fs=>r=vB ((cP l.length (eE l)&&decide (l.length≤16)))∧fs=[]):=by
  refine oU (l.length) (fun i=>((List.range' i (l.length-i)).all (eE l)&&decide (l.length≤16))=(cP l.length (eE l)&&decide (l.length≤16))→ah C dz ak 4 0 (gx (l.map bT) i) (fun u st=>au C dz ak u st fun r fs=>r=vB ((cP l.length (eE l)&&decide (l.length≤16)))∧fs=[])) ?_ ?_
  ·intro h0
   refine Ce _ _ _ (an (by simp) (Lt _ _ _ _ _ ?_))
   rw[Nat.sub_self] at h0
   simp only[List.range'_zero,List.all_nil,Bool.true_and] at h0
   rw[←h0]
   simp[gD]
   omega
  ·intro i hi hn h0
   rw[ko hi,List.all_cons] at h0
   have gO:(eE l) i=false→(cP l.length (eE l)&&decide (l.length≤16))=false:=fun e=>by rw[←h0,e];rfl
   have gN:(eE l) i=true→ah C dz ak 4 0 (gx (l.map bT) ((i:Int)+1)) (fun u st=>au C dz ak u st fun r fs=>r=vB ((cP l.length (eE l)&&decide (l.length≤16)))∧fs=[]):=fun e=>hn (by rw[←h0,e];rfl)
   refine Ce _ _ _ (ai (by simp;omega) ?_)
   have ha:l[i]?=some l[i]:=List.getElem?_eq_getElem hi
   have hh: ∀q,aa C iK [fG (l.take i),vI l[i].fr] (vI q) []↔q=eg (l.take i) l[i].fr:=fun q=>AJ (l.take i) l[i].fr (by simp;omega) q
   have hcut:aA (l.map bT) 0 (i:Int)=(l.take i).map bT:=by rw[cv,Int.toNat_natCast];rfl
   have hin:eU 0 (i:Int) (l.length:Int)=true:=by simp;omega
   simp only[rF,td,hcut,aE,ha,Option.some.injEq,exists_eq_left',exists_eq_left,bJ,dS,fH,dg,dV,cY,dW,dX,fM,ck,natAdd,List.length_map,List.length_append,List.length_singleton,Bool.true_and,Bool.and_true]
   simp only[ha,hin,hh,exists_eq_left,Option.some.injEq,exists_eq_left',lu,aD,gD,dK,bu,Int.ofNat_eq_natCast,List.length_map]
   rw[aB (by omega)]
   cases i with
   |zero=>
    have e:eE l 0=(jZ l[0].id 1 60&&(decide (l[0].fr=0)|| !decide (eg (l.take 0) l[0].fr<0))):=by simp[eE,Xh,ie,hi]
    rw[e] at gO gN
    have hz: ¬((0:Int)<((0:Nat):Int)):=by omega
    simp only[if_neg hz]
    cases h1:jZ l[0].id 1 60 with
    |false=>simp only[mI];exact nK _ _ _ (by rw[gO (by rw[h1];simp)];exact⟨rfl,by first|rfl|trivial⟩)
    |true=>
     simp only[lu]
     by_cases h2:l[0].fr=0
     ·rw[if_pos h2];exact gN (by rw[h1,decide_eq_true h2];simp)
     ·rw[if_neg h2]
      by_cases h3:eg (l.take 0) l[0].fr<0
      ·rw[if_pos h3];exact nK _ _ _ (by rw[gO (by rw[decide_eq_false h2,decide_eq_true h3];simp)];exact⟨rfl,by first|rfl|trivial⟩)
      ·rw[if_neg h3];exact gN (by rw[h1,decide_eq_false h3];simp)
   |succ k=>
    have hk:l[k]?=some l[k]:=List.getElem?_eq_getElem (by omega)
    have e:eE l (k+1)=(jZ l[k+1].id 1 60&&(decide (l[k].id<l[k+1].id)&&(decide (l[k+1].fr=0)|| !decide (eg (l.take (k+1)) l[k+1].fr<0)))):=by simp only[eE,Xh,ie,hk,ha]
    rw[e] at gO gN
    rw[eD (by omega),show((k+1:Nat):Int)-1=(k:Int) by omega]
    simp only[aE,hk,Option.some.injEq,exists_eq_left']
    rw[if_pos (by omega)]
    cases h1:jZ l[k+1].id 1 60 with
    |false=>simp only[mI];exact nK _ _ _ (by rw[gO (by rw[h1];simp)];exact⟨rfl,by first|rfl|trivial⟩)
    |true=>
     simp only[lu]
     by_cases h4:l[k].id<l[k+1].id
     ·rw[if_neg (by omega)]
      by_cases h2:l[k+1].fr=0
      ·rw[if_pos h2];exact gN (by rw[h1,decide_eq_true h4,decide_eq_true h2];simp)
      ·rw[if_neg h2]
       by_cases h3:eg (l.take (k+1)) l[k+1].fr<0
       ·rw[if_pos h3];exact nK _ _ _ (by rw[gO (by rw[decide_eq_false h2,decide_eq_true h3];simp)];exact⟨rfl,by first|rfl|trivial⟩)
       ·rw[if_neg h3];exact gN (by rw[h1,decide_eq_true h4,decide_eq_false h3];simp)
     ·rw[if_pos (by omega)];exact nK _ _ _ (by rw[gO (by rw[decide_eq_false h4];simp)];exact⟨rfl,by first|rfl|trivial⟩)
 exact key rfl
theorem Pz (l:List Age) (hl:l.length≤1073741824) (q:Bool):aa C dz [fG l] (vB q) []↔q=gX l:=rI (AW l hl)
@[simp] theorem E5 (b a q:Int):aa C wD [vI b,vI a] (vI q) []↔q=gZ b a:=Zi ((Qf _ _ _ ⟨rfl,by first|rfl|trivial⟩).run)
@[simp] theorem E6 (b a k c g q:Int):aa C mW [.ag [iI b,iI a,iI k,iI c,iI g]] (vI q) []↔q=gZ b a:=Zi (by
  refine(QJ _ _ _ _ _ _ ?_).run
  simp only[E5,exists_eq_left]
  simp)
@[simp] theorem yt (b a q:Int):aa C sV [vI b,vI a] (vI q) []↔q=gZ b a:=Zi ((PO _ _ _ ⟨rfl,by first|rfl|trivial⟩).run)
theorem IQ (t:Tree) (i:Nat) (n:List (List Key)) (hi:i<t.lows.length) (hl:cz t≤1073741824) (hn:n.length≤1073741824) (hz:tot bH n≤1073741824):ah C bB av 4 0 (iw i ((0:Nat):Int) (t.lows.map bq) (t.nodes.map aH) (n.map bX)) (fun u st=>au C bB av u st fun r fs=>r=vB (n.all (bU t.lows i))∧fs=[]):=by
 have hll:t.lows.length≤1073741824:=by unfold cz at hl;omega
 have hlo:t.lows[i]?=some t.lows[i]:=List.getElem?_eq_getElem hi
 have key:(n.drop 0).all (bU t.lows i)=n.all (bU t.lows i)→ah C bB av 4 0 (iw i ((0:Nat):Int) (t.lows.map bq) (t.nodes.map aH) (n.map bX)) (fun u st=>au C bB av u st fun r fs=>r=vB (n.all (bU t.lows i))∧fs=[]):=by
  refine aW n (fun k=>(n.drop k).all (bU t.lows i)=n.all (bU t.lows i)→ah C bB av 4 0 (iw i k (t.lows.map bq) (t.nodes.map aH) (n.map bX)) (fun u st=>au C bB av u st fun r fs=>r=vB (n.all (bU t.lows i))∧fs=[])) ?_ ?_
  ·intro h0
   refine B5 _ _ _ _ _ _ (an (by simp) (K4 _ _ _ _ _ _ _ ?_))
   rw[List.drop_length] at h0
   simp only[List.all_nil] at h0
   rw[←h0]
   exact⟨rfl,by first|rfl|trivial⟩
  ·intro k s hk hs hd htk hnext h0
   have hsl:s.length≤tot bH n:=lB (w:=bH) hs
   rw[hd,List.all_cons] at h0
   refine B5 _ _ _ _ _ _ (ai (by simp;omega) ?_)
   have keyI:(s.drop 0).all (gP t.lows i)=s.all (gP t.lows i)→ah C bB fC 3 2 (jE i k ((0:Nat):Int) (t.lows.map bq) (t.nodes.map aH) (n.map bX)) (fun u st=>m0 C bB av 4 0 tM u st (fun u st=>au C bB av u st fun r fs=>r=vB (n.all (bU t.lows i))∧fs=[])):=by
    refine aW s (fun j=>(s.drop j).all (gP t.lows i)=s.all (gP t.lows i)→ah C bB fC 3 2 (jE i k j (t.lows.map bq) (t.nodes.map aH) (n.map bX)) (fun u st=>m0 C bB av 4 0 tM u st (fun u st=>au C bB av u st fun r fs=>r=vB (n.all (bU t.lows i))∧fs=[]))) ?_ ?_
    ·intro h1
     rw[List.drop_length] at h1
     simp only[List.all_nil] at h1
     refine B6 _ _ _ _ _ _ _ (⟨_,cR hs,an (by simp) (K6 _ _ _ _ _ _ _ _ ?_)⟩)
     rw[aB (by omega)]
     exact hnext (by rw[←h0];unfold bU;rw[←h1];simp)
    ·intro j x hj hx hdj htj hn2 h1
     rw[hdj,List.all_cons] at h1
     have gO:gP t.lows i x=false→m0 C bB av 4 0 tM TX.ret (qu (t.lows.map bq) (t.nodes.map aH) (n.map bX)) (fun u st=>au C bB av u st fun r fs=>r=vB (n.all (bU t.lows i))∧fs=[]):=fun e=>K5 _ _ _ _ (K7 _ _ _ _ (by
      have e2:bU t.lows i s=false:=by unfold bU;rw[←h1,e];rfl
      rw[←h0,e2];exact⟨rfl,by first|rfl|trivial⟩))
     have gN:gP t.lows i x=true→ah C bB fC 3 2 (jE i k ((j:Int)+1) (t.lows.map bq) (t.nodes.map aH) (n.map bX)) (fun u st=>m0 C bB av 4 0 tM u st (fun u st=>au C bB av u st fun r fs=>r=vB (n.all (bU t.lows i))∧fs=[])):=fun e=>hn2 (by rw[←h1,e];rfl)
     have e:gP t.lows i x=(!decide (gZ x.b x.a<t.lows[i])&&(match t.lows[i+1]? with|some hi=>decide (gZ x.b x.a<hi)|none=>true)):=by simp only[gP,VE,hlo];rfl
     rw[e] at gO gN
     refine B6 _ _ _ _ _ _ _ (⟨_,cR hs,ai (by simp;omega) ⟨_,cR hs,?_⟩⟩)
     rw[aB (a:=(i:Int)) (by omega),aB (a:=(j:Int)) (by omega)]
     simp only[jj,rE,aE,hx,hlo,Option.some.injEq,exists_eq_left',E6,exists_eq_left,dK,gD,bu,List.length_map,Int.ofNat_eq_natCast]
     by_cases h2:gZ x.b x.a<t.lows[i]
     ·rw[if_pos h2]
      exact gO (by rw[decide_eq_true h2];rfl)
     ·rw[if_neg h2]
      by_cases h3:i+1<t.lows.length
      ·have hhi:t.lows[i+1]?=some t.lows[i+1]:=List.getElem?_eq_getElem h3
       rw[if_pos (by omega),show((i:Int)+1)=((i+1:Nat):Int) by omega,aE,hhi]
       simp only[Option.some.injEq,exists_eq_left']
       rw[hhi] at gO gN
       by_cases h4:gZ x.b x.a<t.lows[i+1]
       ·rw[if_neg (by omega)]
        exact gN (by rw[decide_eq_false h2];simp[h4])
       ·rw[if_pos (by omega)]
        exact gO (by simp[h4])
      ·rw[if_neg (by omega)]
       have hno:t.lows[i+1]?=none:=List.getElem?_eq_none (by omega)
       rw[hno] at gN
       exact gN (by rw[decide_eq_false h2];rfl)
   exact keyI rfl
 exact key rfl
theorem FT (t:Tree) (i:Nat) (n:List (List Key)) (hi:i<t.lows.length) (hl:cz t≤1073741824) (hn:n.length≤1073741824) (hz:tot bH n≤1073741824):ah C aY ak 4 0 (jy i (n.map bX) (n.length:Int) ((0:Nat):Int) (t.lows.map bq) (t.nodes.map aH)) (fun u st=>au C aY ak u st fun r fs=>r=vB (n.all (bU t.lows i))∧fs=[]):=by
 have hll:t.lows.length≤1073741824:=by unfold cz at hl;omega
 have hlo:t.lows[i]?=some t.lows[i]:=List.getElem?_eq_getElem hi
 have key:(n.drop 0).all (bU t.lows i)=n.all (bU t.lows i)→ah C aY ak 4 0 (jy i (n.map bX) (n.length:Int) ((0:Nat):Int) (t.lows.map bq) (t.nodes.map aH)) (fun u st=>au C aY ak u st fun r fs=>r=vB (n.all (bU t.lows i))∧fs=[]):=by
  refine aW n (fun k=>(n.drop k).all (bU t.lows i)=n.all (bU t.lows i)→ah C aY ak 4 0 (jy i (n.map bX) (n.length:Int) k (t.lows.map bq) (t.nodes.map aH)) (fun u st=>au C aY ak u st fun r fs=>r=vB (n.all (bU t.lows i))∧fs=[])) ?_ ?_
  ·intro h0
   refine xO _ _ _ _ _ _ _ (an (by simp) (HE _ _ _ _ _ _ _ _ ?_))
   rw[List.drop_length] at h0
   simp only[List.all_nil] at h0
   rw[←h0]
   exact⟨rfl,by first|rfl|trivial⟩
  ·intro k s hk hs hd htk hnext h0
   have hsl:s.length≤tot bH n:=lB (w:=bH) hs
   rw[hd,List.all_cons] at h0
   refine xO _ _ _ _ _ _ _ (ai (by simp;omega) ⟨_,cR hs,?_⟩)
   have keyI:(s.drop 0).all (gP t.lows i)=s.all (gP t.lows i)→ah C aY mq 3 2 (hD i (n.map bX) (n.length:Int) k (s.map bw) ((0:Nat):Int) (t.lows.map bq) (t.nodes.map aH)) (fun u st=>m0 C aY ak 4 0 nv u st (fun u st=>au C aY ak u st fun r fs=>r=vB (n.all (bU t.lows i))∧fs=[])):=by
    refine aW s (fun j=>(s.drop j).all (gP t.lows i)=s.all (gP t.lows i)→ah C aY mq 3 2 (hD i (n.map bX) (n.length:Int) k (s.map bw) j (t.lows.map bq) (t.nodes.map aH)) (fun u st=>m0 C aY ak 4 0 nv u st (fun u st=>au C aY ak u st fun r fs=>r=vB (n.all (bU t.lows i))∧fs=[]))) ?_ ?_
    ·intro h1
     rw[List.drop_length] at h1
     simp only[List.all_nil] at h1
     refine xP _ _ _ _ _ _ _ _ _ (an (by simp) (HG _ _ _ _ _ _ _ _ _ _ _ ?_))
     rw[aB (by omega)]
     exact hnext (by rw[←h0];unfold bU;rw[←h1];simp)
    ·intro j x hj hx hdj htj hn2 h1
     rw[hdj,List.all_cons] at h1
     have gO:gP t.lows i x=false→m0 C aY ak 4 0 nv TX.ret (oD (t.lows.map bq) (t.nodes.map aH) x.b x.a x.k x.c x.g) (fun u st=>au C aY ak u st fun r fs=>r=vB (n.all (bU t.lows i))∧fs=[]):=fun e=>HF _ _ _ _ _ _ _ _ (HH _ _ _ _ _ _ _ _ (by
      have e2:bU t.lows i s=false:=by unfold bU;rw[←h1,e];rfl
      rw[←h0,e2];exact⟨rfl,by first|rfl|trivial⟩))
     have gN:gP t.lows i x=true→ah C aY mq 3 2 (hD i (n.map bX) (n.length:Int) k (s.map bw) ((j:Int)+1) (t.lows.map bq) (t.nodes.map aH)) (fun u st=>m0 C aY ak 4 0 nv u st (fun u st=>au C aY ak u st fun r fs=>r=vB (n.all (bU t.lows i))∧fs=[])):=fun e=>hn2 (by rw[←h1,e];rfl)
     have e:gP t.lows i x=(!decide (gZ x.b x.a<t.lows[i])&&(match t.lows[i+1]? with|some hi=>decide (gZ x.b x.a<hi)|none=>true)):=by simp only[gP,VE,hlo];rfl
     rw[e] at gO gN
     refine xP _ _ _ _ _ _ _ _ _ (ai (by simp;omega) ?_)
     rw[aB (a:=(i:Int)) (by omega),aB (a:=(j:Int)) (by omega)]
     simp only[jj,rE,aE,hx,hlo,Option.some.injEq,exists_eq_left',yt,exists_eq_left,dK,gD,bu,List.length_map,Int.ofNat_eq_natCast]
     by_cases h2:gZ x.b x.a<t.lows[i]
     ·rw[if_pos h2]
      exact gO (by rw[decide_eq_true h2];rfl)
     ·rw[if_neg h2]
      by_cases h3:i+1<t.lows.length
      ·have hhi:t.lows[i+1]?=some t.lows[i+1]:=List.getElem?_eq_getElem h3
       rw[if_pos (by omega),show((i:Int)+1)=((i+1:Nat):Int) by omega,aE,hhi]
       simp only[Option.some.injEq,exists_eq_left']
       rw[hhi] at gO gN
       by_cases h4:gZ x.b x.a<t.lows[i+1]
       ·rw[if_neg (by omega)]
        exact gN (by rw[decide_eq_false h2];simp[h4])
       ·rw[if_pos (by omega)]
        exact gO (by simp[h4])
      ·rw[if_neg (by omega)]
       have hno:t.lows[i+1]?=none:=List.getElem?_eq_none (by omega)
       rw[hno] at gN
       exact gN (by rw[decide_eq_false h2];rfl)
   exact keyI rfl
 exact key rfl
theorem KG (t:Tree) (i:Nat) (n:List (List Key)) (ha:t.nodes[i]?=some n) (hlo:i<t.lows.length) (hl:cz t≤1073741824):aa C bB [c8 t,vI i] (vB (fK n&&((decide (i=0)|| !decide ((aK n).length=0))&&n.all (bU t.lows i)))) []:=by
 have hz:aI n≤tot aI t.nodes:=lB (w:=aI) ha
 have e1:aI n=n.length+tot bH n:=rfl
 have e2:cz t=t.lows.length+(t.nodes.length+tot aI t.nodes):=rfl
 have hnk:=cX n
 refine(PT _ _ _ _ ⟨_,cR (e:=aH) ha,_,tE n (by omega) (by omega),?_⟩).run
 cases h1:fK n with
 |false=>exact ai rfl ⟨rfl,by first|rfl|trivial⟩
 |true=>
  refine an rfl ?_
  have hloop:=IQ t i n hlo hl (by omega) (by omega)
  have conv: ∀B:Bool,B=n.all (bU t.lows i)→ah C bB av 4 0 (iw i 0 (t.lows.map bq) (t.nodes.map aH) (n.map bX)) (fun u st=>au C bB av u st fun r fs=>r=vB B∧fs=[]):=fun B hB=>by subst hB;exact hloop
  cases i with
  |zero=>exact an (by simp) (conv _ (by simp))
  |succ k=>
   refine ai (by first|(simp;done)|(simp;omega)) ⟨_,wF n (by omega) (by omega),?_⟩
   by_cases h2:(aK n).length=0
   ·refine ai (by simp[h2]) ?_
    simp[h2]
   ·exact an (by simpa using h2) (conv _ (by simp[h2]))
theorem tG (t:Tree) (hl:cz t≤1073741824):aa C aP [c8 t] (vB (eK t)) []:=by
 have e2:cz t=t.lows.length+(t.nodes.length+tot aI t.nodes):=rfl
 refine(P4 _ _ _ ?_).run
 simp only[DO,exists_eq_left,List.length_map,Int.ofNat_eq_natCast,aD,bJ]
 unfold eK
 cases h1:jZ (t.nodes.length:Int) 1 20 with
 |false=>exact an rfl ⟨rfl,by first|rfl|trivial⟩
 |true=>
  refine ai rfl ?_
  have hn1:1≤t.nodes.length:=by have:=of_decide_eq_true h1;omega
  by_cases h2:t.lows.length=t.nodes.length
  ·refine ai (by simp[h2]) ?_
   have h0:t.lows[0]?=some t.lows[0]:=List.getElem?_eq_getElem (by omega)
   have hz0:fT t.lows 0=some t.lows[0]:=by rw[show(0:Int)=((0:Nat):Int) from rfl,aE];exact h0
   simp only[rE,hz0,h0,Option.some.injEq,exists_eq_left',bu]
   by_cases h3:t.lows[0]=0
   ·rw[if_pos (by simpa using h3)]
    have hw:(true&&(decide (t.lows.length=t.nodes.length)&&((decide (t.lows[0]=0))&&(cP t.nodes.length (cT t)&&decide ((aC t).length≤60)))))=(cP t.nodes.length (cT t)&&decide ((aC t).length≤60)):=by simp[h2,h3]
    rw[hw]
    have key:((List.range' 0 (t.nodes.length-0)).all (cT t)&&decide ((aC t).length≤60))=(cP t.nodes.length (cT t)&&decide ((aC t).length≤60))→ah C aP aj 4 0 (jF ((0:Nat):Int) (t.lows.map bq) (t.nodes.map aH)) (fun u st=>au C aP aj u st fun r fs=>r=vB (cP t.nodes.length (cT t)&&decide ((aC t).length≤60))∧fs=[]):=by
     refine oU t.nodes.length (fun i=>((List.range' i (t.nodes.length-i)).all (cT t)&&decide ((aC t).length≤60))=(cP t.nodes.length (cT t)&&decide ((aC t).length≤60))→ah C aP aj 4 0 (jF i (t.lows.map bq) (t.nodes.map aH)) _) ?_ ?_
     ·intro h0
      rw[Nat.sub_self] at h0
      simp only[List.range'_zero,List.all_nil,Bool.true_and] at h0
      refine Cd _ _ _ _ (an (by simp) (Ls _ _ _ _ _ ⟨_,ju t hl,?_⟩))
      rw[←h0]
      simp[gD]
      omega
     ·intro i hi hn h0
      rw[ko hi,List.all_cons] at h0
      have ha:t.nodes[i]?=some t.nodes[i]:=List.getElem?_eq_getElem hi
      have hli:t.lows[i]?=some t.lows[i]:=List.getElem?_eq_getElem (by omega)
      have gO:cT t i=false→au C aP aj TX.ret (nC (t.lows.map bq) (t.nodes.map aH)) (fun r fs=>r=vB (cP t.nodes.length (cT t)&&decide ((aC t).length≤60))∧fs=[]):=fun e=>Lr _ _ _ (by rw[←h0,e];exact⟨rfl,by first|rfl|trivial⟩)
      have gN:cT t i=true→ah C aP aj 4 0 (jF ((i:Int)+1) (t.lows.map bq) (t.nodes.map aH)) (fun u st=>au C aP aj u st fun r fs=>r=vB (cP t.nodes.length (cT t)&&decide ((aC t).length≤60))∧fs=[]):=fun e=>hn (by rw[←h0,e];rfl)
      have hh: ∀q,aa C bB [c8 t,vI i] (vB q) []↔q=_:=fun q=>rI (KG t i t.nodes[i] ha (by omega) hl)
      refine Cd _ _ _ _ (ai (by simp;omega) ?_)
      rw[aB (by omega)]
      simp only[hh,exists_eq_left,dK,gD,bu,bJ]
      cases i with
      |zero=>
       have e:cT t 0=(fK t.nodes[0]&&((decide (0=0)|| !decide ((aK t.nodes[0]).length=0))&&t.nodes[0].all (bU t.lows 0))):=by simp only[cT,ie,ha,Bool.true_and]
       rw[e] at gO gN
       rw[if_neg (by omega)]
       exact qd gN gO
      |succ k=>
       have hk:t.lows[k]?=some t.lows[k]:=List.getElem?_eq_getElem (by omega)
       have e:cT t (k+1)=(decide (t.lows[k]<t.lows[k+1])&&(fK t.nodes[k+1]&&((decide (k+1=0)|| !decide ((aK t.nodes[k+1]).length=0))&&t.nodes[k+1].all (bU t.lows (k+1))))):=by simp only[cT,ie,ha,hk,hli]
       rw[e] at gO gN
       rw[if_pos (by omega),eD (by omega),show((k+1:Nat):Int)-1=(k:Int) by omega]
       simp only[rE,aE,hk,hli,Option.some.injEq,exists_eq_left']
       by_cases h4:t.lows[k]<t.lows[k+1]
       ·rw[if_neg (by omega)]
        rw[decide_eq_true h4,Bool.true_and] at gO gN
        exact qd gN gO
       ·rw[if_pos (by omega)]
        exact gO (by rw[decide_eq_false h4];rfl)
    exact key rfl
   ·rw[if_neg (by simpa using h3)]
    simp[h3]
  ·refine an (by simp;omega) ?_
   simp[h2]
theorem G5 (t:Tree) (i:Nat) (n:List (List Key)) (ha:t.nodes[i]?=some n) (hlo:i<t.lows.length) (hl:cz t≤1073741824):aa C aY [c8 t,vI i] (vB (n.all (bU t.lows i))) []:=by
 have hz:aI n≤tot aI t.nodes:=lB (w:=aI) ha
 have e1:aI n=n.length+tot bH n:=rfl
 have e2:cz t=t.lows.length+(t.nodes.length+tot aI t.nodes):=rfl
 refine(LB _ _ _ _ ⟨_,cR (e:=aH) ha,?_⟩).run
 simp only[List.length_map,Int.ofNat_eq_natCast]
 exact FT t i n hlo hl (by omega) (by omega)
theorem tH (t:Tree) (hl:cz t≤1073741824):aa C bY [c8 t] (vB (eK t)) []:=by
 have e2:cz t=t.lows.length+(t.nodes.length+tot aI t.nodes):=rfl
 refine(PM _ _ _ ?_).run
 simp only[td,exists_eq_left,List.length_map,Int.ofNat_eq_natCast,aD,bJ]
 unfold eK
 cases h1:jZ (t.nodes.length:Int) 1 20 with
 |false=>exact an rfl ⟨rfl,by first|rfl|trivial⟩
 |true=>
  refine ai rfl ?_
  have hn1:1≤t.nodes.length:=by have:=of_decide_eq_true h1;omega
  by_cases h2:t.lows.length=t.nodes.length
  ·refine ai (by simp[h2]) ?_
   have h0:t.lows[0]?=some t.lows[0]:=List.getElem?_eq_getElem (by omega)
   have hz0:fT t.lows 0=some t.lows[0]:=by rw[show(0:Int)=((0:Nat):Int) from rfl,aE];exact h0
   simp only[rE,hz0,h0,Option.some.injEq,exists_eq_left',bu]
   by_cases h3:t.lows[0]=0
   ·rw[if_pos (by simpa using h3)]
    have hw:(true&&(decide (t.lows.length=t.nodes.length)&&((decide (t.lows[0]=0))&&(cP t.nodes.length (cT t)&&decide ((aC t).length≤60)))))=(cP t.nodes.length (cT t)&&decide ((aC t).length≤60)):=by simp[h2,h3]
    rw[hw]
    have key: ∀c:Nat,c+((t.nodes.drop 0).flatMap aK).length=(aC t).length→((List.range' 0 (t.nodes.length-0)).all (cT t)&&decide ((aC t).length≤60))=(cP t.nodes.length (cT t)&&decide ((aC t).length≤60))→ah C bY av 4 0 (gv c (t.nodes.map aH) ((0:Nat):Int) (t.lows.map bq)) (fun u st=>au C bY av u st fun r fs=>r=vB (cP t.nodes.length (cT t)&&decide ((aC t).length≤60))∧fs=[]):=by
     refine oU t.nodes.length (fun i=> ∀c:Nat,c+((t.nodes.drop i).flatMap aK).length=(aC t).length→((List.range' i (t.nodes.length-i)).all (cT t)&&decide ((aC t).length≤60))=(cP t.nodes.length (cT t)&&decide ((aC t).length≤60))→ah C bY av 4 0 (gv c (t.nodes.map aH) i (t.lows.map bq)) _) ?_ ?_
     ·intro c hc h0
      rw[Nat.sub_self] at h0
      simp only[List.range'_zero,List.all_nil,Bool.true_and] at h0
      rw[List.drop_length] at hc
      simp at hc
      refine B4 _ _ _ _ _ (an (by simp) (K3 _ _ _ _ _ _ _ ?_))
      rw[←h0]
      simp[gD]
      omega
     ·intro i hi hn c hc h0
      rw[ko hi,List.all_cons] at h0
      have ha:t.nodes[i]?=some t.nodes[i]:=List.getElem?_eq_getElem hi
      have hli:t.lows[i]?=some t.lows[i]:=List.getElem?_eq_getElem (by omega)
      rw[List.drop_eq_getElem_cons hi,List.flatMap_cons,List.length_append] at hc
      have hz:aI t.nodes[i]≤tot aI t.nodes:=lB (w:=aI) ha
      have e1:aI t.nodes[i]=t.nodes[i].length+tot bH t.nodes[i]:=rfl
      have hnk:=cX t.nodes[i]
      have htk:=eJ t
      have gO1:cT t i=false→au C bY av TX.ret (jD (t.lows.map bq) (t.nodes.map aH) (t.nodes[i].map bX)) (fun r fs=>r=vB (cP t.nodes.length (cT t)&&decide ((aC t).length≤60))∧fs=[]):=fun e=>K1 _ _ _ _ (by rw[←h0,e];exact⟨rfl,by first|rfl|trivial⟩)
      have gO2:cT t i=false→au C bY av TX.ret (qt (t.lows.map bq) (t.nodes.map aH) (t.nodes[i].map bX) ((aK t.nodes[i]).map bw)) (fun r fs=>r=vB (cP t.nodes.length (cT t)&&decide ((aC t).length≤60))∧fs=[]):=fun e=>K2 _ _ _ _ _ (by rw[←h0,e];exact⟨rfl,by first|rfl|trivial⟩)
      have gN:cT t i=true→ah C bY av 4 0 (gv ((c:Int)+((aK t.nodes[i]).length:Int)) (t.nodes.map aH) ((i:Int)+1) (t.lows.map bq)) (fun u st=>au C bY av u st fun r fs=>r=vB (cP t.nodes.length (cT t)&&decide ((aC t).length≤60))∧fs=[]):=fun e=>hn (c+(aK t.nodes[i]).length) (by omega) (by rw[←h0,e];rfl)
      have hb: ∀q,aa C aY [c8 t,vI i] (vB q) []↔q=_:=fun q=>rI (G5 t i t.nodes[i] ha (by omega) hl)
      have hk: ∀q,aa C cA [gz t.nodes[i]] (.c (.sub 5 q)) []↔q=(aK t.nodes[i]).map bw:=fun q=>jC t.nodes[i] (by omega) (by omega) q
      have ho: ∀q,aa C bK [gz t.nodes[i]] (vB q) []↔q=fK t.nodes[i]:=fun q=>Py t.nodes[i] (by omega) (by omega) q
      refine B4 _ _ _ _ _ (ai (by simp;omega) ?_)
      simp only[rG,aE,ha,Option.some.injEq,exists_eq_left',hb,hk,ho,exists_eq_left,dK,gD,aD,bu,bJ,List.length_map,Int.ofNat_eq_natCast]
      rw[aB (a:=(c:Int)) (by omega),aB (a:=(i:Int)) (by omega)]
      cases i with
      |zero=>
       have e:cT t 0=(fK t.nodes[0]&&((decide (0=0)|| !decide ((aK t.nodes[0]).length=0))&&t.nodes[0].all (bU t.lows 0))):=by simp only[cT,ie,ha,Bool.true_and]
       rw[e] at gO1 gN
       have hzz: ¬((0:Int)<((0:Nat):Int)):=by omega
       simp only[if_neg hzz]
       cases h4:fK t.nodes[0] with
       |false=>exact an rfl (gO1 (by rw[h4];rfl))
       |true=>
        refine ai rfl ?_
        cases h5:t.nodes[0].all (bU t.lows 0) with
        |false=>exact an rfl (gO1 (by rw[h4,h5];simp))
        |true=>exact ai rfl (gN (by rw[h4,h5];simp))
      |succ k=>
       have hk1:t.lows[k]?=some t.lows[k]:=List.getElem?_eq_getElem (by omega)
       have e:cT t (k+1)=(decide (t.lows[k]<t.lows[k+1])&&(fK t.nodes[k+1]&&((decide (k+1=0)|| !decide ((aK t.nodes[k+1]).length=0))&&t.nodes[k+1].all (bU t.lows (k+1))))):=by simp only[cT,ie,ha,hk1,hli]
       rw[e] at gO1 gO2 gN
       have hzz:(0:Int)<((k+1:Nat):Int):=by omega
       simp only[if_pos hzz]
       rw[eD (by omega),show((k+1:Nat):Int)-1=(k:Int) by omega]
       simp only[rE,aE,hk1,hli,Option.some.injEq,exists_eq_left']
       by_cases h6:t.lows[k]<t.lows[k+1]
       ·rw[if_neg (by omega)]
        cases h4:fK t.nodes[k+1] with
        |false=>exact an rfl (gO1 (by rw[h4];simp))
        |true=>
         refine ai rfl ?_
         cases h5:t.nodes[k+1].all (bU t.lows (k+1)) with
         |false=>exact an rfl (gO1 (by rw[h4,h5];simp))
         |true=>
          refine ai rfl ?_
          by_cases h7:(aK t.nodes[k+1]).length=0
          ·rw[if_pos (by omega)];exact gO2 (by rw[h4,h5];simp[h7])
          ·rw[if_neg (by omega)];exact gN (by rw[h4,h5,decide_eq_true h6];simp[h7])
       ·rw[if_pos (by omega)]
        exact gO1 (by rw[decide_eq_false h6];rfl)
    exact key 0 (by simp[aC]) rfl
   ·rw[if_neg (by simpa using h3)]
    simp[h3]
  ·refine an (by simp;omega) ?_
   simp[h2]
theorem IS (p:Pool) (hS:cc p≤4194304):aa C bA [eX p] (vB (iJ p)) []:=by
 have hP:=fu hS
 have hname: ∀v∈p.vols,v.name.size≤140737488355328:=fun v hv=>by have:=oe (w:=qZ) hv;have e:qZ v=v.name.size:=rfl;omega
 refine(Od _ _ _ _ _ _ _ ?_).run
 unfold iJ
 have key:((List.range' 0 (p.vols.length-0)).all (bZ p)&&decide (p.vols.length≤6))=(cP p.vols.length (bZ p)&&decide (p.vols.length≤6))→ah C bA ak 4 0 (j8 ((0:Nat):Int) (p.t.lows.map bq) (p.t.nodes.map aH) (p.ages.map bT) (p.cells.map bR) (p.vols.map dh) p.next) (fun u st=>au C bA ak u st fun r fs=>r=vB (cP p.vols.length (bZ p)&&decide (p.vols.length≤6))∧fs=[]):=by
  refine oU p.vols.length (fun i=>((List.range' i (p.vols.length-i)).all (bZ p)&&decide (p.vols.length≤6))=(cP p.vols.length (bZ p)&&decide (p.vols.length≤6))→ah C bA ak 4 0 (j8 i (p.t.lows.map bq) (p.t.nodes.map aH) (p.ages.map bT) (p.cells.map bR) (p.vols.map dh) p.next) (fun u st=>au C bA ak u st fun r fs=>r=vB (cP p.vols.length (bZ p)&&decide (p.vols.length≤6))∧fs=[])) ?_ ?_
  ·intro h0
   rw[Nat.sub_self] at h0
   simp only[List.range'_zero,List.all_nil,Bool.true_and] at h0
   refine zC _ _ _ _ _ _ _ _ (an (by simp) (Jg _ _ _ _ _ _ _ _ _ ?_))
   rw[←h0]
   simp[gD]
   omega
  ·intro i hi hn h0
   rw[ko hi,List.all_cons] at h0
   have ha:p.vols[i]?=some p.vols[i]:=List.getElem?_eq_getElem hi
   have hv:=hname p.vols[i] (List.getElem_mem hi)
   have hkl:=NJ p.ages p.vols[i].age
   have gO1:bZ p i=false→au C bA ak TX.ret (j9 (p.t.lows.map bq) (p.t.nodes.map aH) (p.ages.map bT) (p.cells.map bR) (p.vols.map dh) p.next p.vols[i].name p.vols[i].age p.vols[i].size p.vols[i].fx) (fun r fs=>r=vB (cP p.vols.length (bZ p)&&decide (p.vols.length≤6))∧fs=[]):=fun e=>Je _ _ _ _ _ _ _ _ _ _ _ (by rw[←h0,e];exact⟨rfl,by first|rfl|trivial⟩)
   have gO2:bZ p i=false→au C bA ak TX.ret (pI (p.t.lows.map bq) (p.t.nodes.map aH) (p.ages.map bT) (p.cells.map bR) (p.vols.map dh) p.next p.vols[i].name p.vols[i].age p.vols[i].size p.vols[i].fx ((c7 p.ages p.vols[i].age).map bq)) (fun r fs=>r=vB (cP p.vols.length (bZ p)&&decide (p.vols.length≤6))∧fs=[]):=fun e=>Jf _ _ _ _ _ _ _ _ _ _ _ _ (by rw[←h0,e];exact⟨rfl,by first|rfl|trivial⟩)
   have gN:bZ p i=true→ah C bA ak 4 0 (j8 ((i:Int)+1) (p.t.lows.map bq) (p.t.nodes.map aH) (p.ages.map bT) (p.cells.map bR) (p.vols.map dh) p.next) (fun u st=>au C bA ak u st fun r fs=>r=vB (cP p.vols.length (bZ p)&&decide (p.vols.length≤6))∧fs=[]):=fun e=>hn (by rw[←h0,e];rfl)
   have hin: ∀b:Bool,((p.vols.take i).any fun u=>decide (u.age=p.vols[i].age))=b→(b=true→bZ p i=false)→(b=false→bZ p i=true)→ah C bA mo 3 2 (iM i 0 (p.t.lows.map bq) (p.t.nodes.map aH) (p.ages.map bT) (p.cells.map bR) (p.vols.map dh) p.next p.vols[i].name p.vols[i].age p.vols[i].size p.vols[i].fx) (fun u st=>m0 C bA ak 4 0 ve u st (fun u st=>au C bA ak u st fun r fs=>r=vB (cP p.vols.length (bZ p)&&decide (p.vols.length≤6))∧fs=[])):=by
    intro b hb hbt hbf
    have keyI:(((p.vols.take i).drop 0).any fun u=>decide (u.age=p.vols[i].age))=b→ah C bA mo 3 2 (iM i ((0:Nat):Int) (p.t.lows.map bq) (p.t.nodes.map aH) (p.ages.map bT) (p.cells.map bR) (p.vols.map dh) p.next p.vols[i].name p.vols[i].age p.vols[i].size p.vols[i].fx) (fun u st=>m0 C bA ak 4 0 ve u st (fun u st=>au C bA ak u st fun r fs=>r=vB (cP p.vols.length (bZ p)&&decide (p.vols.length≤6))∧fs=[])):=by
     have hle:(p.vols.take i).length=i:=by simp;omega
     refine aW (p.vols.take i) (fun k=>(((p.vols.take i).drop k).any fun u=>decide (u.age=p.vols[i].age))=b→ah C bA mo 3 2 (iM i k (p.t.lows.map bq) (p.t.nodes.map aH) (p.ages.map bT) (p.cells.map bR) (p.vols.map dh) p.next p.vols[i].name p.vols[i].age p.vols[i].size p.vols[i].fx) (fun u st=>m0 C bA ak 4 0 ve u st (fun u st=>au C bA ak u st fun r fs=>r=vB (cP p.vols.length (bZ p)&&decide (p.vols.length≤6))∧fs=[]))) ?_ ?_
     ·intro h1
      rw[List.drop_length] at h1
      simp only[List.any_nil] at h1
      refine zE _ _ _ _ _ _ _ _ _ _ _ _ _ (an (by simp;omega) (Ji _ _ _ _ _ _ _ _ _ _ _ _ _ ?_))
      rw[aB (by omega)]
      exact gN (hbf h1.symm)
     ·intro k u hk hu hd htk hn2 h1
      have hu':p.vols[k]?=some u:=by rw[←hu,List.getElem?_take];simp;omega
      rw[hd,List.any_cons] at h1
      refine zE _ _ _ _ _ _ _ _ _ _ _ _ _ (ai (by simp;omega) ?_)
      rw[aB (by omega)]
      simp only[yj,aE,hu',Option.some.injEq,exists_eq_left',aD,bu]
      by_cases h2:u.age=p.vols[i].age
      ·rw[if_pos h2]
       rw[decide_eq_true h2,Bool.true_or] at h1
       exact Jh _ _ _ _ _ _ _ _ _ _ _ (gO1 (hbt h1.symm))
      ·rw[if_neg h2]
       rw[decide_eq_false h2,Bool.false_or] at h1
       exact hn2 h1
    exact keyI hb
   have hage: ∀z,aa C dL [fG p.ages,vI p.vols[i].age] (vI z) []↔z=eg p.ages p.vols[i].age:=fun z=>AI p.ages p.vols[i].age (by omega) z
   have hkid: ∀z,aa C eI [fG p.ages,vI p.vols[i].age] (.c (.sub 1 z)) []↔z=(c7 p.ages p.vols[i].age).map bq:=fun z=>Uh (tD p.ages p.vols[i].age (by omega))
   refine zC _ _ _ _ _ _ _ _ (ai (by simp;omega) ?_)
   simp only[yj,aE,ha,Option.some.injEq,exists_eq_left',Po p.vols[i].name hv,DO,hage,hkid,exists_eq_left,bJ,dK,bu,List.length_map,Int.ofNat_eq_natCast]
   cases h1:Dq p.vols[i].name with
   |false=>exact an rfl (gO1 (by simp[bZ,ha,h1]))
   |true=>
    refine ai rfl ?_
    cases h2:jZ p.vols[i].size 1 12 with
    |false=>exact an rfl (gO1 (by simp[bZ,ha,h2]))
    |true=>
     refine ai rfl ?_
     by_cases h3:eg p.ages p.vols[i].age<0
     ·rw[if_pos h3];exact gO1 (by simp[bZ,ha,h3])
     ·rw[if_neg h3]
      by_cases h4:(c7 p.ages p.vols[i].age).length=0
      ·rw[if_neg (by omega)]
       cases i with
       |zero=>
        rw[if_neg (by omega)]
        exact hin _ rfl (fun e=>by simp at e) (fun e=>by simp[bZ,ha,h1,h2,h3,h4,ie])
       |succ k=>
        have hk:p.vols[k]?=some p.vols[k]:=List.getElem?_eq_getElem (by omega)
        rw[if_pos (by omega),eD (by omega),show((k+1:Nat):Int)-1=(k:Int) by omega]
        simp only[aE,hk,Option.some.injEq,exists_eq_left']
        cases h5:OZ p.vols[k].name p.vols[k+1].name with
        |false=>exact an rfl (gO2 (by simp[bZ,ha,hk,ie,h5]))
        |true=>exact ai rfl (hin _ rfl (fun e=>by simp only[bZ,ha,e];simp) (fun e=>by simp only[bZ,ha,hk,ie,h5,h1,h2,e];simp[h3,h4]))
      ·rw[if_pos (by omega)];exact gO2 (by simp[bZ,ha,h4])
 exact key rfl
theorem KH (p:Pool) (hS:cc p≤4194304):aa C dO [eX p] (vB (iJ p)) []:=by
 have hP:=fu hS
 have hname: ∀v∈p.vols,v.name.size≤140737488355328:=fun v hv=>by have:=oe (w:=qZ) hv;have e:qZ v=v.name.size:=rfl;omega
 refine(QI _ _ _ _ _ _ _ ?_).run
 unfold iJ
 have key:((List.range' 0 (p.vols.length-0)).all (bZ p)&&decide (p.vols.length≤6))=(cP p.vols.length (bZ p)&&decide (p.vols.length≤6))→ah C dO ak 4 0 (jK (p.vols.map dh) ((0:Nat):Int) (p.t.lows.map bq) (p.t.nodes.map aH) (p.ages.map bT) (p.cells.map bR) p.next) (fun u st=>au C dO ak u st fun r fs=>r=vB (cP p.vols.length (bZ p)&&decide (p.vols.length≤6))∧fs=[]):=by
  refine oU p.vols.length (fun i=>((List.range' i (p.vols.length-i)).all (bZ p)&&decide (p.vols.length≤6))=(cP p.vols.length (bZ p)&&decide (p.vols.length≤6))→ah C dO ak 4 0 (jK (p.vols.map dh) i (p.t.lows.map bq) (p.t.nodes.map aH) (p.ages.map bT) (p.cells.map bR) p.next) (fun u st=>au C dO ak u st fun r fs=>r=vB (cP p.vols.length (bZ p)&&decide (p.vols.length≤6))∧fs=[])) ?_ ?_
  ·intro h0
   rw[Nat.sub_self] at h0
   simp only[List.range'_zero,List.all_nil,Bool.true_and] at h0
   refine CG _ _ _ _ _ _ _ _ (an (by simp) (Mm _ _ _ _ _ _ _ _ _ _ ?_))
   rw[←h0]
   simp[gD]
   omega
  ·intro i hi hn h0
   rw[ko hi,List.all_cons] at h0
   have ha:p.vols[i]?=some p.vols[i]:=List.getElem?_eq_getElem hi
   have hv:=hname p.vols[i] (List.getElem_mem hi)
   have hkl:=NJ p.ages p.vols[i].age
   have gO1:bZ p i=false→au C dO ak TX.ret (iA (p.t.lows.map bq) (p.t.nodes.map aH) (p.ages.map bT) (p.cells.map bR) (p.vols.map dh) p.next p.vols[i].name p.vols[i].age p.vols[i].size p.vols[i].fx) (fun r fs=>r=vB (cP p.vols.length (bZ p)&&decide (p.vols.length≤6))∧fs=[]):=fun e=>Mk _ _ _ _ _ _ _ _ _ _ _ (by rw[←h0,e];exact⟨rfl,by first|rfl|trivial⟩)
   have gO2:bZ p i=false→au C dO ak TX.ret (kU (p.t.lows.map bq) (p.t.nodes.map aH) (p.ages.map bT) (p.cells.map bR) (p.vols.map dh) p.next p.vols[i].name p.vols[i].age p.vols[i].size p.vols[i].fx ((c7 p.ages p.vols[i].age).map bq)) (fun r fs=>r=vB (cP p.vols.length (bZ p)&&decide (p.vols.length≤6))∧fs=[]):=fun e=>Ml _ _ _ _ _ _ _ _ _ _ _ _ (by rw[←h0,e];exact⟨rfl,by first|rfl|trivial⟩)
   have gN:bZ p i=true→ah C dO ak 4 0 (jK (p.vols.map dh) ((i:Int)+1) (p.t.lows.map bq) (p.t.nodes.map aH) (p.ages.map bT) (p.cells.map bR) p.next) (fun u st=>au C dO ak u st fun r fs=>r=vB (cP p.vols.length (bZ p)&&decide (p.vols.length≤6))∧fs=[]):=fun e=>hn (by rw[←h0,e];rfl)
   have hage: ∀z,aa C iK [fG p.ages,vI p.vols[i].age] (vI z) []↔z=eg p.ages p.vols[i].age:=fun z=>AJ p.ages p.vols[i].age (by omega) z
   have hkid: ∀z,aa C ek [fG p.ages,vI p.vols[i].age] (.c (.sub 1 z)) []↔z=(c7 p.ages p.vols[i].age).map bq:=fun z=>Uh (qp p.ages p.vols[i].age (by omega))
   have hcut:aA (p.vols.map dh) 0 (i:Int)=(p.vols.take i).map dh:=by rw[cv,Int.toNat_natCast];rfl
   have hcin:eU 0 (i:Int) (p.vols.length:Int)=true:=by simp;omega
   have hhas: ∀z,aa C dJ [yK (p.vols.take i),.fn nS [[iS p.vols[i].name,iI p.vols[i].age,iI p.vols[i].size,iB p.vols[i].fx]]] (vB z) []↔z=(p.vols.take i).any fun u=>decide (u.age=p.vols[i].age):=fun z=>rI (CU (p.vols.take i) _ _ _ _ (by simp;omega))
   refine CG _ _ _ _ _ _ _ _ (ai (by simp;omega) ?_)
   simp only[hcut,yj,aE,ha,Option.some.injEq,exists_eq_left',Pp p.vols[i].name hv,td,hage,hkid,hhas,exists_eq_left,bJ,dK,bu,List.length_map,Int.ofNat_eq_natCast]
   rw[aB (by omega)]
   cases h1:Dq p.vols[i].name with
   |false=>exact an rfl (gO1 (by simp[bZ,ha,h1]))
   |true=>
    refine ai rfl ?_
    cases i with
    |zero=>
     rw[if_neg (by omega)]
     cases h2:jZ p.vols[0].size 1 12 with
     |false=>exact an rfl (gO1 (by simp[bZ,ha,h2]))
     |true=>
      refine ai rfl ?_
      by_cases h3:eg p.ages p.vols[0].age<0
      ·rw[if_pos h3];exact gO1 (by simp[bZ,ha,h3])
      ·rw[if_neg h3]
       by_cases h4:(c7 p.ages p.vols[0].age).length=0
       ·rw[if_neg (by omega)]
        refine ai hcin ?_
        cases h6:(p.vols.take (0)).any fun u=>decide (u.age=p.vols[0].age) with
        |true=>exact ai rfl (gO2 (by simp only[bZ,ha,h6];simp))
        |false=>exact an rfl (gN (by simp only[bZ,ha,h6,h1,h2,ie];simp[h3,h4]))
       ·rw[if_pos (by omega)];exact gO2 (by simp[bZ,ha,h4])
    |succ k=>
     have hk:p.vols[k]?=some p.vols[k]:=List.getElem?_eq_getElem (by omega)
     rw[if_pos (by omega),eD (by omega),show((k+1:Nat):Int)-1=(k:Int) by omega]
     simp only[aE,hk,Option.some.injEq,exists_eq_left']
     cases h5:OZ p.vols[k].name p.vols[k+1].name with
     |false=>exact an rfl (gO1 (by simp[bZ,ha,hk,ie,h5]))
     |true=>
      refine ai rfl ?_
      cases h2:jZ p.vols[k+1].size 1 12 with
      |false=>exact an rfl (gO1 (by simp[bZ,ha,h2]))
      |true=>
       refine ai rfl ?_
       by_cases h3:eg p.ages p.vols[k+1].age<0
       ·rw[if_pos h3];exact gO1 (by simp[bZ,ha,h3])
       ·rw[if_neg h3]
        by_cases h4:(c7 p.ages p.vols[k+1].age).length=0
        ·rw[if_neg (by omega)]
         refine ai hcin ?_
         cases h6:(p.vols.take (k+1)).any fun u=>decide (u.age=p.vols[k+1].age) with
         |true=>exact ai rfl (gO2 (by simp only[bZ,ha,h6];simp))
         |false=>exact an rfl (gN (by simp only[bZ,ha,h6,h1,h2,ie,hk,h5];simp[h3,h4]))
        ·rw[if_pos (by omega)];exact gO2 (by simp[bZ,ha,h4])
 exact key rfl
theorem ZD:pZ 24=24:=by unfold pZ;rfl
theorem g24 {n:Nat} (h:n≤1000):(true&&dF 24 24&&oI 0 24&&fits (pZ 24) n)=true:=by rw[ZD,cZ (by omega)];simp
theorem acI:(pF []).map Kb=List.replicate 24 [iB false]:=by rw[Uk];rfl
theorem IT (p:Pool) (hS:cc p≤4194304):aa C bG [eX p] (vB (iW p)) []:=by
 have hP:=fu hS
 have htl:=eJ p.t
 refine(Ox _ _ _ _ _ _ _ ?_).run
 refine⟨_,ju p.t (by omega),?_⟩
 unfold iW
 generalize aC p.t=L at*
 have hdk:cg L≤L.length:=List.length_filter_le _ _
 have key: ∀c:Nat,c+cg (L.drop 0)=cg L→((List.range' 0 (L.length-0)).all (cN p L)&&decide ((bQ p.cells:Int)=cg L))=(cP L.length (cN p L)&&decide ((bQ p.cells:Int)=cg L))→ah C bG av 4 0 (iO (c:Int) ((0:Nat):Int) (p.t.lows.map bq) (p.t.nodes.map aH) (p.ages.map bT) (p.cells.map bR) (p.vols.map dh) p.next (L.map bw)) (fun u st=>au C bG av u st fun r fs=>r=vB (cP L.length (cN p L)&&decide ((bQ p.cells:Int)=cg L))∧fs=[]):=by
  refine oU L.length (fun i=> ∀c:Nat,c+cg (L.drop i)=cg L→((List.range' i (L.length-i)).all (cN p L)&&decide ((bQ p.cells:Int)=cg L))=(cP L.length (cN p L)&&decide ((bQ p.cells:Int)=cg L))→ah C bG av 4 0 (iO (c:Int) i (p.t.lows.map bq) (p.t.nodes.map aH) (p.ages.map bT) (p.cells.map bR) (p.vols.map dh) p.next (L.map bw)) (fun u st=>au C bG av u st fun r fs=>r=vB (cP L.length (cN p L)&&decide ((bQ p.cells:Int)=cg L))∧fs=[])) ?_ ?_
  ·intro c hc h0
   rw[Nat.sub_self] at h0
   simp only[List.range'_zero,List.all_nil,Bool.true_and] at h0
   rw[List.drop_length] at hc
   have hc0:c=cg L:=by simpa [cg] using hc
   subst hc0
   refine zL _ _ _ _ _ _ _ _ _ _ (an (by simp) (Jw _ _ _ _ _ _ _ _ _ _ _ ⟨_,FM p.cells (by omega),?_⟩))
   rw[←h0]
   refine⟨?_,by first|rfl|trivial⟩
   simp[aD,eq_comm]
  ·intro i hi hn c hc h0
   rw[ko hi,List.all_cons] at h0
   have ha:L[i]?=some L[i]:=List.getElem?_eq_getElem hi
   rw[List.drop_eq_getElem_cons hi,EY] at hc
   have gO1:cN p L i=false→au C bG av TX.ret (mQ (p.t.lows.map bq) (p.t.nodes.map aH) (p.ages.map bT) (p.cells.map bR) (p.vols.map dh) p.next (L.map bw)) (fun r fs=>r=vB (cP L.length (cN p L)&&decide ((bQ p.cells:Int)=cg L))∧fs=[]):=fun e=>Jv _ _ _ _ _ _ _ _ (by rw[←h0,e];exact⟨rfl,by first|rfl|trivial⟩)
   have gN: ∀c':Nat,c'+cg (L.drop (i+1))=cg L→cN p L i=true→ah C bG av 4 0 (iO (c':Int) ((i:Int)+1) (p.t.lows.map bq) (p.t.nodes.map aH) (p.ages.map bT) (p.cells.map bR) (p.vols.map dh) p.next (L.map bw)) (fun u st=>au C bG av u st fun r fs=>r=vB (cP L.length (cN p L)&&decide ((bQ p.cells:Int)=cg L))∧fs=[]):=fun c' e' e=>hn c' e' (by rw[←h0,e];rfl)
   have hin: ∀b:Bool,((L.take i).any fun x=>decide (x.k=1)&&decide (x.c=L[i].c))=b→(b=true→cN p L i=false)→(b=false→cN p L i=true)→L[i].k=1→ah C bG gH 3 2 (iP c i 0 (p.t.lows.map bq) (p.t.nodes.map aH) (p.ages.map bT) (p.cells.map bR) (p.vols.map dh) p.next (L.map bw)) (fun u st=>m0 C bG av 4 0 rm u st (fun u st=>au C bG av u st fun r fs=>r=vB (cP L.length (cN p L)&&decide ((bQ p.cells:Int)=cg L))∧fs=[])):=by
    intro b hb hbt hbf hk1
    rw[if_pos hk1] at hc
    have keyI:(((L.take i).drop 0).any fun x=>decide (x.k=1)&&decide (x.c=L[i].c))=b→ah C bG gH 3 2 (iP c i ((0:Nat):Int) (p.t.lows.map bq) (p.t.nodes.map aH) (p.ages.map bT) (p.cells.map bR) (p.vols.map dh) p.next (L.map bw)) (fun u st=>m0 C bG av 4 0 rm u st (fun u st=>au C bG av u st fun r fs=>r=vB (cP L.length (cN p L)&&decide ((bQ p.cells:Int)=cg L))∧fs=[])):=by
     have hle:(L.take i).length=i:=by simp;omega
     refine aW (L.take i) (fun k=>(((L.take i).drop k).any fun x=>decide (x.k=1)&&decide (x.c=L[i].c))=b→ah C bG gH 3 2 (iP c i k (p.t.lows.map bq) (p.t.nodes.map aH) (p.ages.map bT) (p.cells.map bR) (p.vols.map dh) p.next (L.map bw)) (fun u st=>m0 C bG av 4 0 rm u st (fun u st=>au C bG av u st fun r fs=>r=vB (cP L.length (cN p L)&&decide ((bQ p.cells:Int)=cg L))∧fs=[]))) ?_ ?_
     ·intro h1
      rw[List.drop_length] at h1
      simp only[List.any_nil] at h1
      refine zM _ _ _ _ _ _ _ _ _ _ _ (an (by simp;omega) (Jy _ _ _ _ _ _ _ _ _ _ _ ?_))
      rw[aB (by omega),aB (by omega)]
      exact gN (c+1) (by omega) (hbf h1.symm)
     ·intro k u hk hu hd htk hn2 h1
      have hu':L[k]?=some u:=by rw[←hu,List.getElem?_take];simp;omega
      rw[hd,List.any_cons] at h1
      refine zM _ _ _ _ _ _ _ _ _ _ _ (ai (by simp;omega) ?_)
      rw[aB (by omega)]
      simp only[jj,aE,hu',ha,Option.some.injEq,exists_eq_left',aD,bu]
      by_cases h3:u.k=1
      ·rw[if_pos h3]
       by_cases h2:u.c=L[i].c
       ·rw[if_pos h2]
        rw[decide_eq_true h3,decide_eq_true h2,Bool.and_self,Bool.true_or] at h1
        exact Jx _ _ _ _ _ _ _ _ (gO1 (hbt h1.symm))
       ·rw[if_neg h2]
        rw[decide_eq_false h2,Bool.and_false,Bool.false_or] at h1
        exact hn2 h1
      ·rw[if_neg h3]
       rw[decide_eq_false h3,Bool.false_and,Bool.false_or] at h1
       exact hn2 h1
    exact keyI hb
   have hage: ∀z,aa C dL [fG p.ages,vI L[i].a] (vI z) []↔z=eg p.ages L[i].a:=fun z=>AI p.ages L[i].a (by omega) z
   have hcell: ∀n b,aa C sW [iD p.cells,vI L[i].c,vI L[i].g] (.tu [(0,[iI n]),(0,[iB b])]) []↔n=(cellAt p.cells L[i].c L[i].g).1∧b=(cellAt p.cells L[i].c L[i].g).2:=fun n b=>Pk p.cells (by omega) _ _ n b
   refine zL _ _ _ _ _ _ _ _ _ _ (ai (by simp;omega) ?_)
   simp only[jj,aE,ha,Option.some.injEq,exists_eq_left',hage,hcell,and_assoc,exists_and_left,exists_eq_left,dK,aD,bJ,bu]
   rw[aB (a:=(i:Int)) (by omega)]
   by_cases h1:eg p.ages L[i].a<0
   ·rw[if_pos h1];exact gO1 (by simp[cN,ha,h1])
   ·rw[if_neg h1]
    by_cases h2:L[i].k=1
    ·rw[if_pos h2]
     cases h3:(cellAt p.cells L[i].c L[i].g).2 with
     |false=>exact an rfl (gO1 (by simp[cN,ha,h2,h3]))
     |true=>
      refine ai rfl ?_
      exact hin _ rfl (fun e=>by simp only[cN,ha,e,h2];simp) (fun e=>by simp only[cN,ha,e,h2,h3];simp[h1]) h2
    ·rw[if_neg h2]
     rw[if_neg h2] at hc
     exact gN c (by omega) (by simp[cN,ha,h1,h2])
 exact key 0 (by simp) rfl
theorem IU (p:Pool) (hS:cc p≤4194304) (h24:p.cells.length=24):aa C dP [eX p] (vB (iW p)) []:=by
 have hP:=fu hS
 have htl:=eJ p.t
 refine(Oe _ _ _ _ _ _ _ ?_).run
 refine ai (g24 (by omega)) ⟨_,jv p.t (by omega),?_⟩
 unfold iW
 generalize aC p.t=L at*
 have hdk:cg L≤L.length:=List.length_filter_le _ _
 have key: ∀c:Nat,c+cg (L.drop 0)=cg L→((List.range' 0 (L.length-0)).all (cN p L)&&decide ((bQ p.cells:Int)=cg L))=(cP L.length (cN p L)&&decide ((bQ p.cells:Int)=cg L))→ah C dP av 4 0 (iN (c:Int) (L.map bw) ((0:Nat):Int) (p.t.lows.map bq) (p.t.nodes.map aH) (p.ages.map bT) (p.cells.map bR) (p.vols.map dh) p.next ((pF (L.take 0)).map Kb)) (fun u st=>au C dP av u st fun r fs=>r=vB (cP L.length (cN p L)&&decide ((bQ p.cells:Int)=cg L))∧fs=[]):=by
  refine oU L.length (fun i=> ∀c:Nat,c+cg (L.drop i)=cg L→((List.range' i (L.length-i)).all (cN p L)&&decide ((bQ p.cells:Int)=cg L))=(cP L.length (cN p L)&&decide ((bQ p.cells:Int)=cg L))→ah C dP av 4 0 (iN (c:Int) (L.map bw) i (p.t.lows.map bq) (p.t.nodes.map aH) (p.ages.map bT) (p.cells.map bR) (p.vols.map dh) p.next ((pF (L.take i)).map Kb)) (fun u st=>au C dP av u st fun r fs=>r=vB (cP L.length (cN p L)&&decide ((bQ p.cells:Int)=cg L))∧fs=[])) ?_ ?_
  ·intro c hc h0
   rw[Nat.sub_self] at h0
   simp only[List.range'_zero,List.all_nil,Bool.true_and] at h0
   rw[List.drop_length] at hc
   have hc0:c=cg L:=by simpa [cg] using hc
   subst hc0
   refine zF _ _ _ _ _ _ _ _ _ _ _ (an (by simp) (Jk _ _ _ _ _ _ _ _ _ _ _ _ _ ⟨_,FN p.cells (by omega),?_⟩))
   rw[←h0]
   refine⟨?_,by first|rfl|trivial⟩
   simp[aD,eq_comm]
  ·intro i hi hn c hc h0
   rw[ko hi,List.all_cons] at h0
   have ha:L[i]?=some L[i]:=List.getElem?_eq_getElem hi
   rw[List.drop_eq_getElem_cons hi,EY] at hc
   have gO1: ∀u,cN p L i=false→au C dP av TX.ret (mM (p.t.lows.map bq) (p.t.nodes.map aH) (p.ages.map bT) (p.cells.map bR) (p.vols.map dh) p.next L[i].b L[i].a L[i].k L[i].c L[i].g u (L.map bw)) (fun r fs=>r=vB (cP L.length (cN p L)&&decide ((bQ p.cells:Int)=cg L))∧fs=[]):=fun u e=>Jj _ _ _ _ _ _ _ _ _ _ _ _ _ _ (by rw[←h0,e];exact⟨rfl,by first|rfl|trivial⟩)
   have ht1:L.take (i+1)=L.take i++[L[i]]:=by rw[List.take_add_one,ha];rfl
   have gN: ∀c':Nat,c'+cg (L.drop (i+1))=cg L→cN p L i=true→ah C dP av 4 0 (iN (c':Int) (L.map bw) ((i:Int)+1) (p.t.lows.map bq) (p.t.nodes.map aH) (p.ages.map bT) (p.cells.map bR) (p.vols.map dh) p.next ((pF (L.take (i+1))).map Kb)) (fun u st=>au C dP av u st fun r fs=>r=vB (cP L.length (cN p L)&&decide ((bQ p.cells:Int)=cg L))∧fs=[]):=fun c' e' e=>hn c' e' (by rw[←h0,e];rfl)
   have hage: ∀z,aa C iK [fG p.ages,vI L[i].a] (vI z) []↔z=eg p.ages L[i].a:=fun z=>AJ p.ages L[i].a (by omega) z
   have hcell: ∀n b,aa C sX [iD p.cells,vI L[i].c,vI L[i].g] (.tu [(0,[iI n]),(0,[iB b])]) []↔n=(cellAt p.cells L[i].c L[i].g).1∧b=(cellAt p.cells L[i].c L[i].g).2:=fun n b=>Pn p.cells (by omega) _ _ n b
   refine zF _ _ _ _ _ _ _ _ _ _ _ (ai (by simp;omega) ?_)
   simp only[jj,aE,ha,Option.some.injEq,exists_eq_left',hage,hcell,and_assoc,exists_and_left,exists_eq_left,dK,aD,bJ,bu]
   rw[aB (a:=(i:Int)) (by omega)]
   by_cases h1:eg p.ages L[i].a<0
   ·rw[if_pos h1];exact gO1 _ (by simp[cN,ha,h1])
   ·rw[if_neg h1]
    by_cases h2:L[i].k=1
    ·rw[if_pos h2]
     cases h3:(cellAt p.cells L[i].c L[i].g).2 with
     |false=>exact an rfl (gO1 _ (by simp[cN,ha,h2,h3]))
     |true=>
      refine ai rfl ?_
      have hci:=Xi h3
      rw[h24] at hci
      simp only[aaG,Ul (L.take i) hci,Option.some.injEq,exists_eq_left',exists_eq_left,aaH]
      cases h4:(L.take i).any fun x=>decide (x.k=1)&&decide (x.c=L[i].c) with
      |true=>exact ai rfl (gO1 _ (by simp only[cN,ha,h4,h2];simp))
      |false=>
       refine an rfl ?_
       rw[Um (L.take i) L[i] h2 hci,←ht1,aB (a:=(c:Int)) (by omega)]
       rw[if_pos h2] at hc
       exact gN (c+1) (by omega) (by simp only[cN,ha,h4,h2,h3];simp[h1])
    ·rw[if_neg h2]
     rw[if_neg h2] at hc
     have hg:=gN c (by omega) (by simp[cN,ha,h1,h2])
     rw[ht1,Sx _ _ h2] at hg
     exact hg
 rw[ZD,←acI];exact key 0 (by simp) rfl
def jW (n:Int) (a:Age):Bool:=decide (a.id<n)
theorem Xt (p:Pool):jk p=(p.ages.all (jW p.next)&&(eK p.t&&(gX p.ages&&(ff p.cells&&(jZ p.next 1 61&&(iJ p&&iW p)))))):=rfl
theorem aaZ {l:List Cell} (h:ff l=true):l.length=24:=by simp[ff] at h;omega
theorem IV (p:Pool) (hS:cc p≤4194304):aa C cG [eX p] (vB ((p.ages.all (jW p.next)&&(eK p.t&&(gX p.ages&&(ff p.cells&&(jZ p.next 1 61&&(iJ p&&iW p)))))))) []:=by
 refine(QC _ _ _ _ _ _ _ ?_).run
 have hP:=fu hS
 have htl:=eJ p.t
 have key:((p.ages.drop 0).all (jW p.next)&&(eK p.t&&(gX p.ages&&(ff p.cells&&(jZ p.next 1 61&&(iJ p&&iW p))))))=(p.ages.all (jW p.next)&&(eK p.t&&(gX p.ages&&(ff p.cells&&(jZ p.next 1 61&&(iJ p&&iW p))))))→ah C cG ak 4 0 (kT ((0:Nat):Int) (p.t.lows.map bq) (p.t.nodes.map aH) (p.ages.map bT) (p.cells.map bR) (p.vols.map dh) p.next) (fun u st=>au C cG ak u st fun r fs=>r=vB ((p.ages.all (jW p.next)&&(eK p.t&&(gX p.ages&&(ff p.cells&&(jZ p.next 1 61&&(iJ p&&iW p)))))))∧fs=[]):=by
  refine aW p.ages (fun i=>((p.ages.drop i).all (jW p.next)&&(eK p.t&&(gX p.ages&&(ff p.cells&&(jZ p.next 1 61&&(iJ p&&iW p))))))=(p.ages.all (jW p.next)&&(eK p.t&&(gX p.ages&&(ff p.cells&&(jZ p.next 1 61&&(iJ p&&iW p))))))→ah C cG ak 4 0 (kT i (p.t.lows.map bq) (p.t.nodes.map aH) (p.ages.map bT) (p.cells.map bR) (p.vols.map dh) p.next) (fun u st=>au C cG ak u st fun r fs=>r=vB ((p.ages.all (jW p.next)&&(eK p.t&&(gX p.ages&&(ff p.cells&&(jZ p.next 1 61&&(iJ p&&iW p)))))))∧fs=[])) ?_ ?_
  ·intro h0
   refine CA _ _ _ _ _ _ _ _ (an (by simp) (Mb _ _ _ _ _ _ _ _ _ ?_))
   rw[List.drop_length] at h0
   simp only[List.all_nil,Bool.true_and] at h0
   rw[←h0]
   refine⟨_,tG p.t (by omega),?_⟩
   cases h1:eK p.t with
   |false=>exact an rfl ⟨rfl,by first|rfl|trivial⟩
   |true=>
    refine ai rfl ⟨_,(Px p.ages (by omega) (gX p.ages)).2 rfl,?_⟩
    cases h2:gX p.ages with
    |false=>exact an rfl ⟨rfl,by first|rfl|trivial⟩
    |true=>
     refine ai rfl ⟨_,(DR p.cells (by omega) (ff p.cells)).2 rfl,?_⟩
     cases h3:ff p.cells with
     |false=>exact an rfl ⟨rfl,by first|rfl|trivial⟩
     |true=>
      refine ai rfl ⟨_,DN p.next 1 61,?_⟩
      cases h4:jZ p.next 1 61 with
      |false=>exact an rfl ⟨rfl,by first|rfl|trivial⟩
      |true=>
       refine ai rfl ⟨_,IS p hS,?_⟩
       cases h5:iJ p with
       |false=>exact an rfl ⟨rfl,by first|rfl|trivial⟩
       |true=>exact ai rfl ⟨_,IT p hS,⟨rfl,by first|rfl|trivial⟩⟩
  ·intro i a hi ha hd htk hn h0
   have gO:(jW p.next) a=false→(p.ages.all (jW p.next)&&(eK p.t&&(gX p.ages&&(ff p.cells&&(jZ p.next 1 61&&(iJ p&&iW p))))))=false:=fun e=>by rw[←h0,hd];simp[e]
   have gN:(jW p.next) a=true→ah C cG ak 4 0 (kT ((i:Int)+1) (p.t.lows.map bq) (p.t.nodes.map aH) (p.ages.map bT) (p.cells.map bR) (p.vols.map dh) p.next) (fun u st=>au C cG ak u st fun r fs=>r=vB ((p.ages.all (jW p.next)&&(eK p.t&&(gX p.ages&&(ff p.cells&&(jZ p.next 1 61&&(iJ p&&iW p)))))))∧fs=[]):=fun e=>hn (by rw[←h0,hd];simp[e])
   refine CA _ _ _ _ _ _ _ _ (ai (by simp;omega) ?_)
   simp only[rF,aE,ha,Option.some.injEq,exists_eq_left',gD,bu]
   rw[aB (by omega)]
   by_cases h1:p.next≤a.id
   ·rw[if_pos h1];exact Ma _ _ _ _ _ _ _ (by rw[gO (by simp[jW];omega)];exact⟨rfl,by first|rfl|trivial⟩)
   ·rw[if_neg h1];exact gN (by simp[jW];omega)
 exact key rfl
theorem nt (p:Pool) (hS:cc p≤4194304):aa C cG [eX p] (vB (jk p)) []:=IV p hS
theorem nu (p:Pool) (hS:cc p≤4194304):aa C fY [eX p] (vB (jk p)) []:=by
 have hP:=fu hS
 rw[Xt]
 refine(P0 _ _ _ _ _ _ _ ?_).run
 refine⟨_,tH p.t (by omega),?_⟩
 cases h1:eK p.t with
 |false=>exact ai rfl ⟨by simp,by first|rfl|trivial⟩
 |true=>
  refine an rfl ⟨_,(Pz p.ages (by omega) (gX p.ages)).2 rfl,?_⟩
  cases h2:gX p.ages with
  |false=>exact ai rfl ⟨by simp,by first|rfl|trivial⟩
  |true=>
   refine an rfl ⟨_,(DS p.cells (by omega) (ff p.cells)).2 rfl,?_⟩
   cases h3:ff p.cells with
   |false=>exact ai rfl ⟨by simp,by first|rfl|trivial⟩
   |true=>
    refine an rfl ⟨_,uZ p.next 1 61,?_⟩
    cases h4:jZ p.next 1 61 with
    |false=>exact ai rfl ⟨by simp,by first|rfl|trivial⟩
    |true=>
     refine an rfl ?_
     simp only[Bool.true_and]
     have key:((p.ages.drop 0).all (jW p.next)&&(iJ p&&iW p))=(p.ages.all (jW p.next)&&(iJ p&&iW p))→ah C fY aj 4 0 (nB (p.ages.map bT) ((0:Nat):Int) (p.t.lows.map bq) (p.t.nodes.map aH) (p.cells.map bR) (p.vols.map dh) p.next) (fun u st=>au C fY aj u st fun r fs=>r=vB (p.ages.all (jW p.next)&&(iJ p&&iW p))∧fs=[]):=by
      refine aW p.ages (fun i=>((p.ages.drop i).all (jW p.next)&&(iJ p&&iW p))=(p.ages.all (jW p.next)&&(iJ p&&iW p))→ah C fY aj 4 0 (nB (p.ages.map bT) i (p.t.lows.map bq) (p.t.nodes.map aH) (p.cells.map bR) (p.vols.map dh) p.next) (fun u st=>au C fY aj u st fun r fs=>r=vB (p.ages.all (jW p.next)&&(iJ p&&iW p))∧fs=[])) ?_ ?_
      ·intro h0
       rw[List.drop_length] at h0
       simp only[List.all_nil,Bool.true_and] at h0
       refine Ca _ _ _ _ _ _ _ _ (an (by simp) (Lj _ _ _ _ _ _ _ _ _ _ ⟨_,KH p hS,?_⟩))
       rw[←h0]
       cases h5:iJ p with
       |false=>exact an rfl ⟨rfl,by first|rfl|trivial⟩
       |true=>exact ai rfl ⟨_,IU p hS (aaZ h3),⟨rfl,by first|rfl|trivial⟩⟩
      ·intro i a hi ha hd htk hn h0
       rw[hd,List.all_cons] at h0
       refine Ca _ _ _ _ _ _ _ _ (ai (by simp;omega) ?_)
       simp only[rF,aE,ha,Option.some.injEq,exists_eq_left',gD,bu]
       rw[aB (by omega)]
       by_cases h5:p.next≤a.id
       ·rw[if_pos h5]
        have e:jW p.next a=false:=by simp[jW];omega
        exact Li _ _ _ _ _ _ _ _ _ (by rw[←h0,e];exact⟨rfl,by first|rfl|trivial⟩)
       ·rw[if_neg h5]
        have e:jW p.next a=true:=by simp[jW];omega
        exact hn (by rw[←h0,e];rfl)
     exact key rfl
theorem AX (l:List Cell) (hl:l.length≤1073741824):aa C j5 [iD l] (iD l) []:=by
 refine(PK _ _ ?_).run
 rw[show bS (l.map bR)=true from by simp[Fw],cZ (by simp;omega)]
 exact⟨rfl,by first|rfl|trivial⟩
theorem u6 (l:List Cell) (hl:l.length≤1073741824):aa C mL [iD l] (iD l) []:=by
 refine(JT _ _ ?_).run
 rw[show bS (l.map bR)=true from by simp[Fw],cZ (by simp;omega)]
 exact⟨rfl,by first|rfl|trivial⟩
theorem G6 (l:List Cell) (i:Int) (hl:l.length≤1073741824):aa C yo [iD l,vI i] (iD (gQ l i)) []:=by
 refine(Lk _ _ _ ⟨_,AX l hl,_,(DR l hl (ff l)).2 rfl,?_⟩).run
 cases h1:ff l with
 |false=>exact an rfl ⟨by rw[GW h1],by first|rfl|trivial⟩
 |true=>
  refine ai rfl ⟨_,DN _ _ _,?_⟩
  rw[List.length_map,show ef (Int.ofNat l.length) 1=(l.length:Int)-1 from eD (by simp;omega)]
  by_cases h2:0≤i∧i<l.length
  ·obtain⟨c,hc⟩:=pz h2.1 h2.2
   refine ai (by simp[jZ];omega) ?_
   simp only[qm,hc,Option.some.injEq,exists_eq_left']
   cases h3:c.u with
   |false=>exact an rfl ⟨by rw[Ke hc h3],by first|rfl|trivial⟩
   |true=>
    refine ai rfl (an (by simp) ?_)
    simp only[qm,hc,Option.some.injEq,exists_eq_left',Sw]
    exact⟨by rw[GX hc h1 h3],by first|rfl|trivial⟩
  ·exact an (by simp[jZ];omega) ⟨by rw[EZ (pE h2)],by first|rfl|trivial⟩
theorem G7 (l:List Cell) (i:Int) (hl:l.length≤1073741824):aa C yp [iD l,vI i] (iD (gQ l i)) []:=by
 refine(Mc _ _ _ ⟨_,u6 l hl,_,(DS l hl (ff l)).2 rfl,?_⟩).run
 cases h1:ff l with
 |false=>exact ai rfl ⟨by rw[GW h1],by first|rfl|trivial⟩
 |true=>
  have h24:l.length=24:=by simp[ff] at h1;omega
  refine an rfl ⟨_,uZ _ _ _,?_⟩
  by_cases h2:0≤i∧i<l.length
  ·obtain⟨c,hc⟩:=pz h2.1 h2.2
   refine an (by simp[jZ];omega) ?_
   simp only[qm,hc,Option.some.injEq,exists_eq_left']
   cases h3:c.u with
   |false=>exact ai rfl ⟨by rw[Ke hc h3],by first|rfl|trivial⟩
   |true=>
    refine an rfl (an (by simp) ?_)
    simp only[qm,hc,Option.some.injEq,exists_eq_left',Sw]
    exact⟨by rw[GX hc h1 h3],by first|rfl|trivial⟩
  ·exact ai (by simp[jZ];omega) ⟨by rw[EZ (pE h2)],by first|rfl|trivial⟩
theorem wG (l:List Int) (hl:l.length≤1073741824):aa C sK [lz l] (lz l) []:=by
 refine(Ms _ _ ?_).run
 rw[show bS (l.map bq)=true from kM _,cZ (by simp;omega)]
 exact⟨rfl,by first|rfl|trivial⟩
theorem DT (l:List Key) (b a:Int) (hl:l.length≤1073741824):aa C gG [cM l,vI b,vI a] (OY (yN l b a)) []:=by
 refine(S6 _ _ _ _ ?_).run
 have key:setAt (l.drop 0) b a=setAt l b a→ah C gG ak 4 0 (mR (l.map bw) b a ((0:Nat):Int)) (fun u st=>au C gG ak u st fun r fs=>r=(OY (yN l b a))∧fs=[]):=by
  refine aW l (fun i=>setAt (l.drop i) b a=setAt l b a→ah C gG ak 4 0 (mR (l.map bw) b a i) (fun u st=>au C gG ak u st fun r fs=>r=(OY (yN l b a))∧fs=[])) ?_ ?_
  ·intro h0
   rw[List.drop_length] at h0
   refine Ec _ _ _ _ _ (an (by simp) (OM _ _ _ _ _ _ ⟨?_,by first|rfl|trivial⟩))
   unfold yN;rw[←h0];rfl
  ·intro i x hi hx hd htk hn h0
   rw[hd] at h0
   simp only[setAt,List.find?_cons] at h0
   refine Ec _ _ _ _ _ (ai (by simp;omega) ?_)
   simp only[jj,aE,hx,Option.some.injEq,exists_eq_left',aD,bu]
   rw[aB (by omega)]
   by_cases h1:x.b=b
   ·rw[if_pos h1]
    by_cases h2:x.a=a
    ·rw[if_pos h2]
     rw[decide_eq_true ⟨h1,h2⟩] at h0
     refine OL _ _ _ _ _ _ ⟨?_,by first|rfl|trivial⟩
     unfold yN setAt;rw[←h0]
    ·rw[if_neg h2]
     rw[decide_eq_false (fun h=>h2 h.2)] at h0
     exact hn h0
   ·rw[if_neg h1]
    rw[decide_eq_false (fun h=>h1 h.1)] at h0
    exact hn h0
 exact key rfl
theorem KI (n:List (List Key)) (b a:Int) (hl:n.length≤1073741824) (hs: ∀s∈n,s.length≤1073741824):aa C ij [gz n,vI b,vI a] (OY (nq n b a n.length)) []:=by
 refine(Qh _ _ _ _ ?_).run
 have key: ∀k:Nat,k≤n.length→nq n b a k=nq n b a n.length→ah C ij ak 4 0 (nF b a ((k:Int)-1) (n.map bX)) (fun u st=>au C ij ak u st fun r fs=>r=(OY (nq n b a n.length))∧fs=[]):=by
  intro k
  induction k with
  |zero=>
   intro _ hk
   refine Cl _ _ _ _ _ (an (by simp) (LD _ _ _ _ _ _ ⟨?_,by first|rfl|trivial⟩))
   rw[←hk];rfl
  |succ k ih=>
   intro hle hk
   have hx:n[k]?=some n[k]:=List.getElem?_eq_getElem (by omega)
   rw[show((k+1:Nat):Int)-1=(k:Int) by omega]
   have hss:=hs n[k] (List.getElem_mem (by omega))
   generalize n[k]=s at hx hss
   simp only[nq,hx] at hk
   refine Cl _ _ _ _ _ (ai (by simp) ?_)
   simp only[su,aE,hx,Option.some.injEq,exists_eq_left']
   rw[eD (by omega)]
   refine⟨_,_,_,_,_,_,DT s b a hss,?_⟩
   cases h2:(yN s b a).2 with
   |false=>
    rw[h2] at hk
    exact an rfl (an rfl (ih (by omega) (by simpa using hk)))
   |true=>
    rw[h2] at hk
    simp only[if_true] at hk
    refine ai rfl ?_
    by_cases h3:(yN s b a).1.k=0
    ·refine ai (by simp[h3]) (Cm _ _ _ _ _ _ _ _ _ _ _ _ _ ⟨?_,by first|rfl|trivial⟩)
     rw[if_pos h3] at hk
     rw[←hk];rfl
    ·refine an (by simp[h3]) (ai rfl (Cm _ _ _ _ _ _ _ _ _ _ _ _ _ ⟨?_,by first|rfl|trivial⟩))
     rw[if_neg h3] at hk
     rw[←hk,←h2]
 rw[List.length_map,show ef (Int.ofNat n.length) 1=(n.length:Int)-1 from eD (by simp;omega)]
 exact key n.length (Nat.le_refl _) rfl
theorem yQ (t:Tree) (b a:Int) (hl:t.lows.length≤1073741824):aa C eM [c8 t,vI b,vI a] (vI (mC t b a)) []:=by
 refine(Oy _ _ _ _ _ ?_).run
 unfold mC
 have key:ah C eM aj 4 0 (kf b a (rJ (fun x=>decide (x≤gZ b a)) t.lows 0) ((0:Nat):Int) (t.lows.map bq) (t.nodes.map aH)) (fun u st=>au C eM aj u st fun r fs=>r=(vI (rJ (fun x=>decide (x≤gZ b a)) t.lows t.lows.length))∧fs=[]):=by
  refine aW t.lows (fun i=>ah C eM aj 4 0 (kf b a (rJ (fun x=>decide (x≤gZ b a)) t.lows i) i (t.lows.map bq) (t.nodes.map aH)) (fun u st=>au C eM aj u st fun r fs=>r=(vI (rJ (fun x=>decide (x≤gZ b a)) t.lows t.lows.length))∧fs=[])) ?_ ?_
  ·exact zN _ _ _ _ _ _ _ (an (by simp) (Jz _ _ _ _ _ _ _ _ ⟨rfl,by first|rfl|trivial⟩))
  ·intro i x hi hx hd htk hn
   simp only[rJ,hx] at hn
   refine zN _ _ _ _ _ _ _ (ai (by simp;omega) ?_)
   simp only[rE,aE,hx,Option.some.injEq,exists_eq_left',E5,exists_eq_left,gD,bu]
   rw[aB (by omega)]
   by_cases h1:x≤gZ b a
   ·rw[if_pos h1]
    rw[if_pos (decide_eq_true h1)] at hn
    exact hn
   ·rw[if_neg h1]
    rw[if_neg (by simpa using h1)] at hn
    exact hn
 exact key
theorem AY (t:Tree) (b a:Int) (hl:cz t≤1073741824):aa C wB [c8 t,vI b,vI a] (OY (uS t b a)) []:=by
 have e2:cz t=t.lows.length+(t.nodes.length+tot aI t.nodes):=rfl
 refine(QL _ _ _ _ _ ⟨_,yQ t b a (by omega),_,DN _ _ _,?_⟩).run
 unfold uS
 rw[List.length_map,show ef (Int.ofNat t.nodes.length) 1=(t.nodes.length:Int)-1 from eD (by simp;omega)]
 by_cases h1:0≤mC t b a∧mC t b a<t.nodes.length
 ·obtain⟨n,hn⟩:=pz h1.1 h1.2
  have hz:aI n≤tot aI t.nodes:=oe (w:=aI) (NG hn)
  have e1:aI n=n.length+tot bH n:=rfl
  refine an (by simp[jZ];omega) ?_
  simp only[rG,hn,Option.some.injEq,exists_eq_left']
  refine⟨_,_,_,_,_,_,KI n b a (by omega) (fun s hs=> ?_),⟨rfl,by first|rfl|trivial⟩⟩
  have h3:bH s≤tot bH n:=oe (w:=bH) hs
  have h4:bH s=s.length:=rfl
  omega
 ·rw[pE h1]
  exact ai (by simp[jZ];omega) ⟨rfl,by first|rfl|trivial⟩
theorem DU (l:List Key) (b a:Int) (hl:l.length≤1073741824):aa C fW [cM l,vI b,vI a] (OY (yN l b a)) []:=by
 refine(S7 _ _ _ _ ?_).run
 have key:setAt (l.drop 0) b a=setAt l b a→ah C fW ak 4 0 (mS b a (l.map bw) ((0:Nat):Int)) (fun u st=>au C fW ak u st fun r fs=>r=(OY (yN l b a))∧fs=[]):=by
  refine aW l (fun i=>setAt (l.drop i) b a=setAt l b a→ah C fW ak 4 0 (mS b a (l.map bw) i) (fun u st=>au C fW ak u st fun r fs=>r=(OY (yN l b a))∧fs=[])) ?_ ?_
  ·intro h0
   rw[List.drop_length] at h0
   refine Ed _ _ _ _ _ (an (by simp) (OO _ _ _ _ _ _ _ ⟨?_,by first|rfl|trivial⟩))
   unfold yN;rw[←h0];rfl
  ·intro i x hi hx hd htk hn h0
   rw[hd] at h0
   simp only[setAt,List.find?_cons] at h0
   refine Ed _ _ _ _ _ (ai (by simp;omega) ?_)
   simp only[jj,aE,hx,Option.some.injEq,exists_eq_left',aD,bu]
   rw[aB (by omega)]
   by_cases h1:x.b=b
   ·rw[if_pos h1]
    by_cases h2:x.a=a
    ·rw[if_pos h2]
     rw[decide_eq_true ⟨h1,h2⟩] at h0
     refine ON _ _ _ _ _ _ ⟨?_,by first|rfl|trivial⟩
     unfold yN setAt;rw[←h0]
    ·rw[if_neg h2]
     rw[decide_eq_false (fun h=>h2 h.2)] at h0
     exact hn h0
   ·rw[if_neg h1]
    rw[decide_eq_false (fun h=>h1 h.1)] at h0
    exact hn h0
 exact key rfl
theorem KJ (n:List (List Key)) (b a:Int) (hl:n.length≤1073741824) (hs: ∀s∈n,s.length≤1073741824):aa C iq [gz n,vI b,vI a] (OY (nq n b a n.length)) []:=by
 refine(Qu _ _ _ _ ?_).run
 have key: ∀k:Nat,k≤n.length→nq n b a k=nq n b a n.length→ah C iq ak 4 0 (qC b a ((k:Int)-1) (n.map bX)) (fun u st=>au C iq ak u st fun r fs=>r=(OY (nq n b a n.length))∧fs=[]):=by
  intro k
  induction k with
  |zero=>
   intro _ hk
   refine Cv _ _ _ _ _ (an (by simp) (LZ _ _ _ _ _ _ ⟨?_,by first|rfl|trivial⟩))
   rw[←hk];rfl
  |succ k ih=>
   intro hle hk
   have hx:n[k]?=some n[k]:=List.getElem?_eq_getElem (by omega)
   rw[show((k+1:Nat):Int)-1=(k:Int) by omega]
   have hss:=hs n[k] (List.getElem_mem (by omega))
   generalize n[k]=s at hx hss
   simp only[nq,hx] at hk
   refine Cv _ _ _ _ _ (ai (by simp) ?_)
   simp only[su,aE,hx,Option.some.injEq,exists_eq_left']
   rw[eD (by omega)]
   refine⟨_,_,_,_,_,_,DU s b a hss,?_⟩
   cases h2:(yN s b a).2 with
   |false=>
    rw[h2] at hk
    exact ai rfl (ih (by omega) (by simpa using hk))
   |true=>
    rw[h2] at hk
    simp only[if_true] at hk
    refine an rfl ?_
    by_cases h3:(yN s b a).1.k=0
    ·refine ai (by simp[h3]) (LX _ _ _ _ _ _ _ _ ⟨?_,by first|rfl|trivial⟩)
     rw[if_pos h3] at hk
     rw[←hk];rfl
    ·refine an (by simp[h3]) (LY _ _ _ _ _ _ _ ⟨?_,by first|rfl|trivial⟩)
     rw[if_neg h3] at hk
     rw[←hk,←h2]
 rw[List.length_map,show ef (Int.ofNat n.length) 1=(n.length:Int)-1 from eD (by simp;omega)]
 exact key n.length (Nat.le_refl _) rfl
theorem yR (t:Tree) (b a:Int) (hl:t.lows.length≤1073741824):aa C fO [c8 t,vI b,vI a] (vI (mC t b a)) []:=by
 refine(Og _ _ _ _ _ ?_).run
 have key: ∀k:Nat,k≤t.lows.length→rJ (fun x=>decide (x≤gZ b a)) t.lows k=mC t b a→ah C fO ak 4 0 (pJ b a ((k:Int)-1) (t.lows.map bq) (t.nodes.map aH)) (fun u st=>au C fO ak u st fun r fs=>r=(vI (mC t b a))∧fs=[]):=by
  intro k
  induction k with
  |zero=>
   intro _ hk
   refine zG _ _ _ _ _ _ (an (by simp) (Jm _ _ _ _ _ _ _ ⟨?_,by first|rfl|trivial⟩))
   rw[←hk];rfl
  |succ k ih=>
   intro hle hk
   have hx:t.lows[k]?=some t.lows[k]:=List.getElem?_eq_getElem (by omega)
   rw[show((k+1:Nat):Int)-1=(k:Int) by omega]
   generalize t.lows[k]=x at hx
   simp only[rJ,hx] at hk
   refine zG _ _ _ _ _ _ (ai (by simp) ?_)
   simp only[rE,aE,hx,Option.some.injEq,exists_eq_left',yt,exists_eq_left,gD,bu]
   rw[eD (by omega)]
   by_cases h1:x≤gZ b a
   ·rw[if_pos h1]
    rw[if_pos (decide_eq_true h1)] at hk
    exact Jl _ _ _ _ ⟨by rw[←hk],by first|rfl|trivial⟩
   ·rw[if_neg h1]
    rw[if_neg (by simpa using h1)] at hk
    exact ih (by omega) hk
 rw[List.length_map,show ef (Int.ofNat t.lows.length) 1=(t.lows.length:Int)-1 from eD (by simp;omega)]
 exact key t.lows.length (Nat.le_refl _) rfl
theorem tI (t:Tree) (b a:Int) (hl:cz t≤1073741824):aa C wC [c8 t,vI b,vI a] (OY (uS t b a)) []:=by
 have e2:cz t=t.lows.length+(t.nodes.length+tot aI t.nodes):=rfl
 refine(P8 _ _ _ _ _ ⟨_,yR t b a (by omega),_,uZ _ _ _,?_⟩).run
 unfold uS
 rw[List.length_map,show ef (Int.ofNat t.nodes.length) 1=(t.nodes.length:Int)-1 from eD (by simp;omega)]
 by_cases h1:0≤mC t b a∧mC t b a<t.nodes.length
 ·obtain⟨n,hn⟩:=pz h1.1 h1.2
  have hz:aI n≤tot aI t.nodes:=oe (w:=aI) (NG hn)
  have e1:aI n=n.length+tot bH n:=rfl
  refine an (by simp[jZ];omega) ?_
  simp only[rG,hn,Option.some.injEq,exists_eq_left']
  refine⟨_,_,_,_,_,_,KJ n b a (by omega) (fun s hs=> ?_),⟨rfl,by first|rfl|trivial⟩⟩
  have h3:bH s≤tot bH n:=oe (w:=bH) hs
  have h4:bH s=s.length:=rfl
  omega
 ·rw[pE h1]
  exact ai (by simp[jZ];omega) ⟨rfl,by first|rfl|trivial⟩
theorem AZ (p:Pool) (hS:cc p≤4194304) (id:Int):aa C sU [eX p,vI id] (vI (yO p id)) []:=by
 have hP:=fu hS
 refine(PI _ _ _ _ _ _ _ _ ⟨_,tD p.ages id (by omega),_,E3 p id (by omega),?_⟩).run
 unfold yO
 cases h1:nj p.vols id with
 |false=>exact ai rfl ⟨by simp,by first|rfl|trivial⟩
 |true=>
  refine an rfl ?_
  by_cases h2:(c7 p.ages id).length=1
  ·obtain⟨x,hx⟩:=pz (l:=c7 p.ages id) (i:=0) (by omega) (by omega)
   refine an (by simp[h2]) ?_
   simp only[rE,hx,Option.some.injEq,exists_eq_left']
   exact⟨by simp[h2],by first|rfl|trivial⟩
  ·exact ai (by simp;omega) ⟨by simp[h2],by first|rfl|trivial⟩
theorem IW (p:Pool) (hS:cc p≤4194304) (k:Key):aa C AG [eX p,ru k] (vB (RD p k)) []:=by
 have hP:=fu hS
 refine(Om _ _ _ _ _ _ _ _ _ _ _ _ ⟨_,AZ p hS k.a,?_⟩).run
 unfold RD
 by_cases h1:yO p k.a=0
 ·exact ai (by simp[h1]) ⟨by rw[if_pos h1],by first|rfl|trivial⟩
 ·exact an (by simp[h1]) ⟨_,_,_,_,_,_,AY p.t k.b (yO p k.a) (by omega),⟨by rw[if_neg h1],by first|rfl|trivial⟩⟩
theorem KK (p:Pool) (hS:cc p≤4194304) (j:Int) (k:Key):aa C DI [eX p,vI j,ru k] (vB (oh p j k)) []:=by
 have hP:=fu hS
 refine(PR _ _ _ _ _ _ _ _ _ _ _ _ _ ?_).run
 unfold oh
 by_cases h1:j=1
 ·exact ai (by simp[h1]) ⟨_,EJ p k (by omega) (by omega) (by omega),⟨by rw[if_pos h1],by first|rfl|trivial⟩⟩
 ·refine an (by simp[h1]) ?_
  rw[if_neg h1]
  by_cases h2:j=2
  ·refine ai (by simp[h2]) ⟨_,_,_,_,_,_,FO p.t p.ages k.b k.a (by omega) (by omega),?_⟩
   rw[if_pos h2]
   by_cases h3:k.k=2
   ·exact ai (by simp[h3]) ⟨by simp[h3],by first|rfl|trivial⟩
   ·exact an (by simp[h3]) ⟨by simp[h3],by first|rfl|trivial⟩
  ·rw[if_neg h2]
   exact an (by simp[h2]) ⟨_,IW p hS k,⟨rfl,by first|rfl|trivial⟩⟩
theorem KL (p:Pool) (hS:cc p≤4194304) (id:Int):aa C fy [eX p,vI id] (vB (((aC p.t).all (Dr id)&&(nj p.vols id&&decide ((c7 p.ages id).length≤1))))) []:=by
 refine(P9 _ _ _ _ _ _ _ _ ?_).run
 have hP:=fu hS
 have htl:=eJ p.t
 refine⟨_,ju p.t (by omega),?_⟩
 have key:(((aC p.t).drop 0).all (Dr id)&&(nj p.vols id&&decide ((c7 p.ages id).length≤1)))=((aC p.t).all (Dr id)&&(nj p.vols id&&decide ((c7 p.ages id).length≤1)))→ah C fy aj 4 0 (kP id ((0:Nat):Int) (p.t.lows.map bq) (p.t.nodes.map aH) (p.ages.map bT) (p.cells.map bR) (p.vols.map dh) p.next ((aC p.t).map bw)) (fun u st=>au C fy aj u st fun r fs=>r=vB (((aC p.t).all (Dr id)&&(nj p.vols id&&decide ((c7 p.ages id).length≤1))))∧fs=[]):=by
  refine aW (aC p.t) (fun i=>(((aC p.t).drop i).all (Dr id)&&(nj p.vols id&&decide ((c7 p.ages id).length≤1)))=((aC p.t).all (Dr id)&&(nj p.vols id&&decide ((c7 p.ages id).length≤1)))→ah C fy aj 4 0 (kP id i (p.t.lows.map bq) (p.t.nodes.map aH) (p.ages.map bT) (p.cells.map bR) (p.vols.map dh) p.next ((aC p.t).map bw)) (fun u st=>au C fy aj u st fun r fs=>r=vB (((aC p.t).all (Dr id)&&(nj p.vols id&&decide ((c7 p.ages id).length≤1))))∧fs=[])) ?_ ?_
  ·intro h0
   refine Cj _ _ _ _ _ _ _ _ _ _ (an (by simp) (Ly _ _ _ _ _ _ _ _ _ _ _ ?_))
   rw[List.drop_length] at h0
   simp only[List.all_nil,Bool.true_and] at h0
   rw[←h0]
   refine⟨_,E3 p id (by omega),?_⟩
   cases h1:nj p.vols id with
   |false=>exact an rfl ⟨rfl,by first|rfl|trivial⟩
   |true=>exact ai rfl ⟨_,tD p.ages id (by omega),⟨by simp[gD];omega,by first|rfl|trivial⟩⟩
  ·intro i a hi ha hd htk hn h0
   have gO:(Dr id) a=false→((aC p.t).all (Dr id)&&(nj p.vols id&&decide ((c7 p.ages id).length≤1)))=false:=fun e=>by rw[←h0,hd];simp[e]
   have gN:(Dr id) a=true→ah C fy aj 4 0 (kP id ((i:Int)+1) (p.t.lows.map bq) (p.t.nodes.map aH) (p.ages.map bT) (p.cells.map bR) (p.vols.map dh) p.next ((aC p.t).map bw)) (fun u st=>au C fy aj u st fun r fs=>r=vB (((aC p.t).all (Dr id)&&(nj p.vols id&&decide ((c7 p.ages id).length≤1))))∧fs=[]):=fun e=>hn (by rw[←h0,hd];simp[e])
   refine Cj _ _ _ _ _ _ _ _ _ _ (ai (by simp;omega) ?_)
   simp only[jj,aE,ha,Option.some.injEq,exists_eq_left',aD,bu]
   rw[aB (by omega)]
   by_cases h1:a.a=id
   ·rw[if_pos h1];exact Lx _ _ _ _ _ _ _ _ (by rw[gO (by simp[Dr,hasB,h1])];exact⟨rfl,by first|rfl|trivial⟩)
   ·rw[if_neg h1];exact gN (by simp[Dr,hasB,h1])
 exact key rfl
theorem IX (l:List Key) (id:Int) (hl:l.length≤1073741824):aa C eO [cM l,vI id] (vB ((l.any (hasB id)))) []:=by
 refine(Ok _ _ _ ?_).run
 have key:((l.drop 0).any (hasB id))=(l.any (hasB id))→ah C eO ak 4 0 (ke id (l.map bw) ((0:Nat):Int)) (fun u st=>au C eO ak u st fun r fs=>r=vB ((l.any (hasB id)))∧fs=[]):=by
  refine aW l (fun i=>((l.drop i).any (hasB id))=(l.any (hasB id))→ah C eO ak 4 0 (ke id (l.map bw) i) (fun u st=>au C eO ak u st fun r fs=>r=vB ((l.any (hasB id)))∧fs=[])) ?_ ?_
  ·intro h0
   refine zH _ _ _ _ (an (by simp) (Jo _ _ _ _ _ _ ?_))
   rw[List.drop_length] at h0
   simp only[List.any_nil,Bool.true_and] at h0
   rw[←h0]
   exact⟨rfl,by first|rfl|trivial⟩
  ·intro i a hi ha hd htk hn h0
   have gO:(hasB id) a=true→(l.any (hasB id))=true:=fun e=>by rw[←h0,hd];simp[e]
   have gN:(hasB id) a=false→ah C eO ak 4 0 (ke id (l.map bw) ((i:Int)+1)) (fun u st=>au C eO ak u st fun r fs=>r=vB ((l.any (hasB id)))∧fs=[]):=fun e=>hn (by rw[←h0,hd];simp[e])
   refine zH _ _ _ _ (ai (by simp;omega) ?_)
   simp only[jj,aE,ha,Option.some.injEq,exists_eq_left',aD,bu]
   rw[aB (by omega)]
   by_cases h1:a.a=id
   ·rw[if_pos h1];exact Jn _ _ _ _ _ _ (by rw[gO (by simp[hasB,h1])];exact⟨rfl,by first|rfl|trivial⟩)
   ·rw[if_neg h1];exact gN (by simp[hasB,h1])
 exact key rfl
theorem IY (p:Pool) (hS:cc p≤4194304) (hA:gX p.ages=true) (j:Int) (k:Key):aa C AF [eX p,vI j,ru k] (vB (oh p j k)) []:=by
 have hP:=fu hS
 refine(OC _ _ _ _ _ _ _ _ _ _ _ _ _ ?_).run
 unfold oh
 by_cases h1:j=1
 ·exact ai (by simp[h1]) ⟨_,EK p k (by omega) (by omega) (by omega),⟨by rw[if_pos h1],by first|rfl|trivial⟩⟩
 ·refine an (by simp[h1]) ?_
  rw[if_neg h1]
  by_cases h2:j=2
  ·refine ai (by simp[h2]) ⟨_,_,_,_,_,_,FQ p.t p.ages k.b k.a (by omega) (by omega),?_⟩
   rw[if_pos h2]
   by_cases h3:k.k=2
   ·exact ai (by simp[h3]) ⟨by simp[h3],by first|rfl|trivial⟩
   ·exact an (by simp[h3]) ⟨by simp[h3],by first|rfl|trivial⟩
  ·rw[if_neg h2]
   refine an (by simp[h2]) ⟨_,qp p.ages k.a (by omega),_,E4 p k.a (by omega),?_⟩
   unfold RD yO
   cases h3:nj p.vols k.a with
   |false=>exact ai rfl ⟨by simp,by first|rfl|trivial⟩
   |true=>
    refine an rfl ?_
    by_cases h4:(c7 p.ages k.a).length=1
    ·obtain⟨x,hx⟩:=pz (l:=c7 p.ages k.a) (i:=0) (by omega) (by omega)
     have hpos:=Zn hA x (NG hx)
     have hne: ¬x=0:=by omega
     refine an (by simp[h4]) ?_
     simp only[rE,hx,Option.some.injEq,exists_eq_left']
     refine⟨(vB (!(uS p.t k.b x).2),[]),?_,?_,⟨by simp[h4,hne],by first|rfl|trivial⟩⟩
     ·exact⟨_,_,_,_,_,_,tI p.t k.b x (by omega),by first|rfl|trivial⟩
     ·exact⟨_,_,_,_,_,_,tI p.t k.b x (by omega),by first|rfl|trivial⟩
    ·exact ai (by simp;omega) ⟨by simp[h4],by first|rfl|trivial⟩
theorem G8 (p:Pool) (hS:cc p≤4194304):aa C aX [eX p] (US (cm p)) []:=by
 have hP:=fu hS
 have htl:=eJ p.t
 refine(Lm _ _ _ _ _ _ _ ⟨_,nt p hS,?_⟩).run
 cases hok:jk p with
 |false=>exact ai rfl ⟨by unfold cm;rw[hok];rfl,by first|rfl|trivial⟩
 |true=>
 refine an rfl ⟨_,ju p.t (by omega),?_⟩
 have hstep: ∀j:Int,1≤j∧j≤3→(0≤jO p j→cm p=(j,jO p j))→(jO p j<0→ah C aX av 4 0 (lS (j+1) (p.t.lows.map bq) (p.t.nodes.map aH) (p.ages.map bT) (p.cells.map bR) (p.vols.map dh) p.next ((aC p.t).map bw)) (fun u st=>au C aX av u st fun r fs=>r=US (cm p)∧fs=[]))→ah C aX av 4 0 (lS j (p.t.lows.map bq) (p.t.nodes.map aH) (p.ages.map bT) (p.cells.map bR) (p.vols.map dh) p.next ((aC p.t).map bw)) (fun u st=>au C aX av u st fun r fs=>r=US (cm p)∧fs=[]):=by
  intro j hj h1 h2
  refine xI _ _ _ _ _ _ _ _ _ (ai (by simp;omega) ?_)
  have keyI:fj (oh p j) ((aC p.t).drop 0) ((0:Nat):Int)=jO p j→ah C aX fC 3 2 (lT j ((0:Nat):Int) (p.t.lows.map bq) (p.t.nodes.map aH) (p.ages.map bT) (p.cells.map bR) (p.vols.map dh) p.next ((aC p.t).map bw)) (fun u st=>m0 C aX av 4 0 tM u st (fun u st=>au C aX av u st fun r fs=>r=US (cm p)∧fs=[])):=by
   refine aW (aC p.t) (fun i=>fj (oh p j) ((aC p.t).drop i) (i:Int)=jO p j→ah C aX fC 3 2 (lT j i (p.t.lows.map bq) (p.t.nodes.map aH) (p.ages.map bT) (p.cells.map bR) (p.vols.map dh) p.next ((aC p.t).map bw)) (fun u st=>m0 C aX av 4 0 tM u st (fun u st=>au C aX av u st fun r fs=>r=US (cm p)∧fs=[]))) ?_ ?_
   ·intro h0
    rw[List.drop_length] at h0
    simp only[fj] at h0
    refine xJ _ _ _ _ _ _ _ _ _ _ (an (by simp) (Hw _ _ _ _ _ _ _ _ _ _ _ ?_))
    rw[aB (by omega)]
    exact h2 (by omega)
   ·intro i x hi hx hd htk hn h0
    rw[hd] at h0
    simp only[fj] at h0
    refine xJ _ _ _ _ _ _ _ _ _ _ (ai (by simp;omega) ?_)
    simp only[jj,aE,hx,Option.some.injEq,exists_eq_left']
    refine⟨_,KK p hS j x,?_⟩
    rw[aB (by omega)]
    cases h4:oh p j x with
    |true=>
     rw[if_pos h4] at h0
     exact ai rfl (Hv _ _ _ _ _ _ _ _ _ _ (Hy _ _ _ _ _ _ _ _ _ _ ⟨by rw[h1 (by omega),←h0],by first|rfl|trivial⟩))
    |false=>rw[if_neg (by simp[h4])] at h0;exact an rfl (hn h0)
  exact keyI rfl
 refine hstep 1 (by omega) (fun h=>by unfold cm;rw[if_pos hok,if_pos h]) (fun h1=> ?_)
 refine hstep 2 (by omega) (fun h=>by unfold cm;rw[if_pos hok,if_neg (by omega),if_pos h]) (fun h2=> ?_)
 refine hstep 3 (by omega) (fun h=>by unfold cm;rw[if_pos hok,if_neg (by omega),if_neg (by omega),if_pos h]) (fun h3=> ?_)
 refine xI _ _ _ _ _ _ _ _ _ (an (by simp) (Hu _ _ _ _ _ _ _ _ _ ?_))
 have key5:fj (qn p) (p.ages.drop 0) ((0:Nat):Int)=Fx p→ah C aX bn 4 4 (lU ((0:Nat):Int) (p.t.lows.map bq) (p.t.nodes.map aH) (p.ages.map bT) (p.cells.map bR) (p.vols.map dh) p.next) (fun u st=>au C aX bn u st fun r fs=>r=US (cm p)∧fs=[]):=by
  refine aW p.ages (fun i=>fj (qn p) (p.ages.drop i) (i:Int)=Fx p→ah C aX bn 4 4 (lU i (p.t.lows.map bq) (p.t.nodes.map aH) (p.ages.map bT) (p.cells.map bR) (p.vols.map dh) p.next) (fun u st=>au C aX bn u st fun r fs=>r=US (cm p)∧fs=[])) ?_ ?_
  ·intro h0
   rw[List.drop_length] at h0
   simp only[fj] at h0
   exact xK _ _ _ _ _ _ _ _ (an (by simp) (HA _ _ _ _ _ _ _ _ _ ⟨by unfold cm;rw[if_pos hok,if_neg (by omega),if_neg (by omega),if_neg (by omega),if_neg (by omega)],by first|rfl|trivial⟩))
  ·intro i x hi hx hd htk hn h0
   rw[hd] at h0
   simp only[fj] at h0
   refine xK _ _ _ _ _ _ _ _ (ai (by simp;omega) ?_)
   simp only[rF,aE,hx,Option.some.injEq,exists_eq_left']
   rw[aB (by omega)]
   refine⟨_,KL p hS x.id,?_⟩
   have e:((aC p.t).all (Dr x.id)&&(nj p.vols x.id&&decide ((c7 p.ages x.id).length≤1)))=qn p x:=rfl
   rw[e]
   cases h4:qn p x with
   |true=>rw[if_pos h4] at h0;exact ai rfl (Hz _ _ _ _ _ _ _ _ ⟨by unfold cm;rw[if_pos hok,if_neg (by omega),if_neg (by omega),if_neg (by omega),if_pos (by omega),←h0],by first|rfl|trivial⟩)
   |false=>rw[if_neg (by simp[h4])] at h0;exact an rfl (hn h0)
 exact key5 rfl
theorem G9 (p:Pool) (hS:cc p≤4194304):aa C aN [eX p] (US (cm p)) []:=by
 have hP:=fu hS
 have htl:=eJ p.t
 refine(LO _ _ _ _ _ _ _ ⟨_,nu p hS,?_⟩).run
 cases hok:jk p with
 |false=>exact ai rfl ⟨by unfold cm;rw[hok];rfl,by first|rfl|trivial⟩
 |true=>
 refine an rfl ⟨_,jv p.t (by omega),?_⟩
 have hstep: ∀i0 j:Int,0≤i0∧i0<3→rowAt [[iI 1],[iI 2],[iI 3]] i0=some [iI j]→(0≤jO p j→cm p=(j,jO p j))→(jO p j<0→ah C aN av 4 0 (lX (i0+1) (p.t.lows.map bq) (p.t.nodes.map aH) (p.ages.map bT) (p.cells.map bR) (p.vols.map dh) p.next ((aC p.t).map bw)) (fun u st=>au C aN av u st fun r fs=>r=US (cm p)∧fs=[]))→ah C aN av 4 0 (lX i0 (p.t.lows.map bq) (p.t.nodes.map aH) (p.ages.map bT) (p.cells.map bR) (p.vols.map dh) p.next ((aC p.t).map bw)) (fun u st=>au C aN av u st fun r fs=>r=US (cm p)∧fs=[]):=by
  intro i0 j hj hr h1 h2
  refine xR _ _ _ _ _ _ _ _ _ (ai (by simp;omega) ⟨_,hr,_,hr,?_⟩)
  have keyI:fj (oh p j) ((aC p.t).drop 0) ((0:Nat):Int)=jO p j→ah C aN nw 3 2 (lY j i0 ((aC p.t).map bw) ((0:Nat):Int) (p.t.lows.map bq) (p.t.nodes.map aH) (p.ages.map bT) (p.cells.map bR) (p.vols.map dh) p.next) (fun u st=>m0 C aN av 4 0 nv u st (fun u st=>au C aN av u st fun r fs=>r=US (cm p)∧fs=[])):=by
   refine aW (aC p.t) (fun i=>fj (oh p j) ((aC p.t).drop i) (i:Int)=jO p j→ah C aN nw 3 2 (lY j i0 ((aC p.t).map bw) i (p.t.lows.map bq) (p.t.nodes.map aH) (p.ages.map bT) (p.cells.map bR) (p.vols.map dh) p.next) (fun u st=>m0 C aN av 4 0 nv u st (fun u st=>au C aN av u st fun r fs=>r=US (cm p)∧fs=[]))) ?_ ?_
   ·intro h0
    rw[List.drop_length] at h0
    simp only[fj] at h0
    refine xS _ _ _ _ _ _ _ _ _ _ _ (an (by simp) (HL _ _ _ _ _ _ _ _ _ _ _ _ _ ?_))
    rw[aB (by omega)]
    exact h2 (by omega)
   ·intro i x hi hx hd htk hn h0
    rw[hd] at h0
    simp only[fj] at h0
    refine xS _ _ _ _ _ _ _ _ _ _ _ (ai (by simp;omega) ?_)
    simp only[jj,aE,hx,Option.some.injEq,exists_eq_left']
    refine⟨_,IY p hS (Kf hok) j x,?_⟩
    rw[aB (by omega)]
    cases h4:oh p j x with
    |true=>
     rw[if_pos h4] at h0
     exact ai rfl (HK _ _ _ _ _ _ _ _ _ _ _ _ _ _ _ (HM _ _ _ _ _ _ _ _ _ _ _ _ _ _ _ ⟨by rw[h1 (by omega),←h0],by first|rfl|trivial⟩))
    |false=>rw[if_neg (by simp[h4])] at h0;exact an rfl (hn h0)
  exact keyI rfl
 refine hstep 0 1 (by omega) (by unfold rowAt;rfl) (fun h=>by unfold cm;rw[if_pos hok,if_pos h]) (fun h1=> ?_)
 refine hstep 1 2 (by omega) (by unfold rowAt;rfl) (fun h=>by unfold cm;rw[if_pos hok,if_neg (by omega),if_pos h]) (fun h2=> ?_)
 refine hstep 2 3 (by omega) (by unfold rowAt;rfl) (fun h=>by unfold cm;rw[if_pos hok,if_neg (by omega),if_neg (by omega),if_pos h]) (fun h3=> ?_)
 refine xR _ _ _ _ _ _ _ _ _ (an (by simp) (HJ _ _ _ _ _ _ _ _ _ ?_))
 have key5:fj (qn p) (p.ages.drop 0) ((0:Nat):Int)=Fx p→ah C aN bn 4 4 (fZ (p.ages.map bT) ((0:Nat):Int) (p.t.lows.map bq) (p.t.nodes.map aH) (p.cells.map bR) (p.vols.map dh) p.next ((aC p.t).map bw)) (fun u st=>au C aN bn u st fun r fs=>r=US (cm p)∧fs=[]):=by
  refine aW p.ages (fun i=>fj (qn p) (p.ages.drop i) (i:Int)=Fx p→ah C aN bn 4 4 (fZ (p.ages.map bT) i (p.t.lows.map bq) (p.t.nodes.map aH) (p.cells.map bR) (p.vols.map dh) p.next ((aC p.t).map bw)) (fun u st=>au C aN bn u st fun r fs=>r=US (cm p)∧fs=[])) ?_ ?_
  ·intro h0
   rw[List.drop_length] at h0
   simp only[fj] at h0
   exact xT _ _ _ _ _ _ _ _ _ (an (by simp) (HO _ _ _ _ _ _ _ _ _ _ _ ⟨by unfold cm;rw[if_pos hok,if_neg (by omega),if_neg (by omega),if_neg (by omega),if_neg (by omega)],by first|rfl|trivial⟩))
  ·intro i x hi hx hd htk hn h0
   rw[hd] at h0
   simp only[fj] at h0
   refine xT _ _ _ _ _ _ _ _ _ (ai (by simp;omega) ?_)
   simp only[rF,aE,hx,Option.some.injEq,exists_eq_left']
   rw[aB (by omega)]
   have e:qn p x=(!((aC p.t).any (hasB x.id))&&(nj p.vols x.id&&decide ((c7 p.ages x.id).length≤1))):=by unfold qn;rw[Zo]
   have hO:qn p x=true→au C aN bn TX.ret (rT i (p.t.lows.map bq) (p.t.nodes.map aH) (p.ages.map bT) (p.cells.map bR) (p.vols.map dh) p.next x.id x.fr ((aC p.t).map bw) ((c7 p.ages x.id).map bq)) (fun r fs=>r=US (cm p)∧fs=[]):=fun h4=>by
    rw[if_pos h4] at h0
    exact HN _ _ _ _ _ _ _ _ _ _ _ _ ⟨by unfold cm;rw[if_pos hok,if_neg (by omega),if_neg (by omega),if_neg (by omega),if_pos (by omega),←h0],by first|rfl|trivial⟩
   have hN:qn p x=false→ah C aN bn 4 4 (fZ (p.ages.map bT) ((i:Int)+1) (p.t.lows.map bq) (p.t.nodes.map aH) (p.cells.map bR) (p.vols.map dh) p.next ((aC p.t).map bw)) (fun u st=>au C aN bn u st fun r fs=>r=US (cm p)∧fs=[]):=fun h4=>by
    rw[if_neg (by simp[h4])] at h0;exact hn h0
   refine⟨_,E4 p x.id (by omega),?_⟩
   cases h5:nj p.vols x.id with
   |false=>exact an rfl (hN (by rw[e,h5];simp))
   |true=>
    refine ai rfl ⟨_,qp p.ages x.id (by omega),?_⟩
    by_cases h6:(c7 p.ages x.id).length≤1
    ·refine ai (by simp[gD];omega) ⟨_,IX (aC p.t) x.id (by omega),?_⟩
     cases h7:(aC p.t).any (hasB x.id) with
     |false=>exact ai rfl (hO (by rw[e,h5,h7];simp[h6]))
     |true=>exact an rfl (hN (by rw[e,h7];simp))
    ·exact an (by simp[gD];omega) (hN (by rw[e];simp[h6]))
 exact key5 rfl
theorem wH (l:List Age) (hl:l.length≤1073741824):aa C nR [fG l] (fG l) []:=by
 refine(LR _ _ ?_).run
 rw[show bS (l.map bT)=true from yL _,cZ (by simp;omega)]
 exact⟨rfl,by first|rfl|trivial⟩
theorem rO (n:List (List Key)) (hl:n.length≤1073741824) (hs: ∀s∈n,s.length≤1073741824):aa C aR [gz n] (gz n) []:=by
 refine(La _ _ ?_).run
 skip
 have key:((0:Nat)=0→ah C aR aj 4 0 (ou (n.map bX)) (fun u st=>au C aR aj u st fun r fs=>r=(gz n)∧fs=[]))∧(0<(0:Nat)→ah C aR aj 4 0 (lP (n.map bX) ((0:Nat):Int) ((n.take 0).map bX)) (fun u st=>au C aR aj u st fun r fs=>r=(gz n)∧fs=[])):=by
  refine aW n (fun i=>(i=0→ah C aR aj 4 0 (ou (n.map bX)) (fun u st=>au C aR aj u st fun r fs=>r=(gz n)∧fs=[]))∧(0<i→ah C aR aj 4 0 (lP (n.map bX) i ((n.take i).map bX)) (fun u st=>au C aR aj u st fun r fs=>r=(gz n)∧fs=[]))) ?_ ?_
  ·refine⟨fun h=> ?_,fun h=> ?_⟩
   ·have hnil:n=[]:=List.length_eq_zero_iff.1 h
    refine xC _ _ (an (by simp[h]) (Ho _ _ _ _ ⟨?_,by first|rfl|trivial⟩))
    simp[hnil]
   ·rw[List.take_length]
    exact xD _ _ _ _ (an (by simp) (Hp _ _ _ _ _ _ ⟨rfl,by first|rfl|trivial⟩))
  ·intro i a hi ha hd htk hn
   have hmem:=List.mem_of_getElem? ha
   refine⟨fun h=> ?_,fun h=> ?_⟩
   ·subst h
    have hz:fT n 0=some a:=(aE n 0).trans ha
    have hn2:=hn.2 (by omega)
    rw[htk] at hn2
    refine xC _ _ (ai (by simp;omega) ?_)
    simp only[su,hz,Option.some.injEq,exists_eq_left']
    refine⟨_,om a (by have:=hs a hmem;omega),ai (cZ (by simp;try omega)) ?_⟩
    rw[aB (by omega)]
    exact hn2
   ·have hn2:=hn.2 (by omega)
    rw[htk] at hn2
    refine xD _ _ _ _ (ai (by simp;omega) ?_)
    simp only[su,aE,ha,Option.some.injEq,exists_eq_left']
    refine⟨_,om a (by have:=hs a hmem;omega),ai (cZ (by simp;try omega)) ?_⟩
    rw[aB (by omega)]
    rw[List.map_append] at hn2
    exact hn2
 exact key.1 rfl
theorem tJ (n:List (List Key)) (hl:n.length≤1073741824) (hs: ∀s∈n,s.length≤1073741824):aa C bF [gz n] (gz n) []:=by
 refine(QS _ _ ?_).run
 skip
 have key:((0:Nat)=0→ah C bF aj 4 0 (qG (n.map bX)) (fun u st=>au C bF aj u st fun r fs=>r=(gz n)∧fs=[]))∧(0<(0:Nat)→ah C bF aj 4 0 (nJ ((0:Nat):Int) (n.map bX) ((n.take 0).map bX)) (fun u st=>au C bF aj u st fun r fs=>r=(gz n)∧fs=[])):=by
  refine aW n (fun i=>(i=0→ah C bF aj 4 0 (qG (n.map bX)) (fun u st=>au C bF aj u st fun r fs=>r=(gz n)∧fs=[]))∧(0<i→ah C bF aj 4 0 (nJ i (n.map bX) ((n.take i).map bX)) (fun u st=>au C bF aj u st fun r fs=>r=(gz n)∧fs=[]))) ?_ ?_
  ·refine⟨fun h=> ?_,fun h=> ?_⟩
   ·have hnil:n=[]:=List.length_eq_zero_iff.1 h
    refine CI _ _ (an (by simp[h]) (Mq _ _ _ ⟨?_,by first|rfl|trivial⟩))
    simp[hnil]
   ·rw[List.take_length]
    exact CJ _ _ _ _ (an (by simp) (Mr _ _ _ _ _ ⟨rfl,by first|rfl|trivial⟩))
  ·intro i a hi ha hd htk hn
   have hmem:=List.mem_of_getElem? ha
   refine⟨fun h=> ?_,fun h=> ?_⟩
   ·subst h
    have hz:fT n 0=some a:=(aE n 0).trans ha
    have hn2:=hn.2 (by omega)
    rw[htk] at hn2
    refine CI _ _ (ai (by simp;omega) ?_)
    simp only[su,hz,Option.some.injEq,exists_eq_left']
    have hsa:=hs a hmem
    refine ai (by rw[show bS (a.map bw)=true from kN _,cZ (by simp;omega)];rfl) (ai (cZ (by simp;try omega)) ?_)
    rw[aB (by omega)]
    exact hn2
   ·have hn2:=hn.2 (by omega)
    rw[htk] at hn2
    refine CJ _ _ _ _ (ai (by simp;omega) ?_)
    simp only[su,aE,ha,Option.some.injEq,exists_eq_left']
    have hsa:=hs a hmem
    refine ai (by rw[show bS (a.map bw)=true from kN _,cZ (by simp;omega)];rfl) (ai (cZ (by simp;try omega)) ?_)
    rw[aB (by omega)]
    rw[List.map_append] at hn2
    exact hn2
 exact key.1 rfl
theorem wI (t:Tree) (hl:t.lows.length≤1073741824∧t.nodes.length≤1073741824) (hs: ∀n∈t.nodes,n.length≤1073741824∧ ∀s∈n,s.length≤1073741824):aa C bE [c8 t] (c8 t) []:=by
 refine(Lu _ _ _ ?_).run
 refine⟨_,wG t.lows hl.1,?_⟩
 have key:((0:Nat)=0→ah C bE aj 4 0 (oC (t.nodes.map aH) (t.lows.map bq)) (fun u st=>au C bE aj u st fun r fs=>r=(c8 t)∧fs=[]))∧(0<(0:Nat)→ah C bE aj 4 0 (lV (t.nodes.map aH) ((0:Nat):Int) (t.lows.map bq) ((t.nodes.take 0).map aH)) (fun u st=>au C bE aj u st fun r fs=>r=(c8 t)∧fs=[])):=by
  refine aW t.nodes (fun i=>(i=0→ah C bE aj 4 0 (oC (t.nodes.map aH) (t.lows.map bq)) (fun u st=>au C bE aj u st fun r fs=>r=(c8 t)∧fs=[]))∧(0<i→ah C bE aj 4 0 (lV (t.nodes.map aH) i (t.lows.map bq) ((t.nodes.take i).map aH)) (fun u st=>au C bE aj u st fun r fs=>r=(c8 t)∧fs=[]))) ?_ ?_
  ·refine⟨fun h=> ?_,fun h=> ?_⟩
   ·have hnil:t.nodes=[]:=List.length_eq_zero_iff.1 h
    refine xM _ _ _ (an (by simp[h]) (HC _ _ _ _ _ ⟨?_,by first|rfl|trivial⟩))
    simp[hnil]
   ·rw[List.take_length]
    exact xN _ _ _ _ _ (an (by simp) (HD _ _ _ _ _ _ _ ⟨rfl,by first|rfl|trivial⟩))
  ·intro i a hi ha hd htk hn
   have hmem:=List.mem_of_getElem? ha
   refine⟨fun h=> ?_,fun h=> ?_⟩
   ·subst h
    have hz:fT t.nodes 0=some a:=(aE t.nodes 0).trans ha
    have hn2:=hn.2 (by omega)
    rw[htk] at hn2
    refine xM _ _ _ (ai (by simp;omega) ?_)
    simp only[rG,hz,Option.some.injEq,exists_eq_left']
    refine⟨_,rO a (hs a hmem).1 (hs a hmem).2,ai (cZ (by simp;try omega)) ?_⟩
    rw[aB (by omega)]
    exact hn2
   ·have hn2:=hn.2 (by omega)
    rw[htk] at hn2
    refine xN _ _ _ _ _ (ai (by simp;omega) ?_)
    simp only[rG,aE,ha,Option.some.injEq,exists_eq_left']
    refine⟨_,rO a (hs a hmem).1 (hs a hmem).2,ai (cZ (by simp;try omega)) ?_⟩
    rw[aB (by omega)]
    rw[List.map_append] at hn2
    exact hn2
 exact key.1 rfl
theorem A4 (t:Tree) (hl:t.lows.length≤1073741824∧t.nodes.length≤1073741824) (hs: ∀n∈t.nodes,n.length≤1073741824∧ ∀s∈n,s.length≤1073741824):aa C cH [c8 t] (c8 t) []:=by
 refine(QF _ _ _ ?_).run
 refine ai (by rw[show bS (t.lows.map bq)=true from kM _,cZ (by simp;omega)];rfl) ?_
 have key:((0:Nat)=0→ah C cH aj 4 0 (qF (t.lows.map bq) (t.nodes.map aH)) (fun u st=>au C cH aj u st fun r fs=>r=(c8 t)∧fs=[]))∧(0<(0:Nat)→ah C cH aj 4 0 (nI ((0:Nat):Int) (t.lows.map bq) (t.nodes.map aH) ((t.nodes.take 0).map aH)) (fun u st=>au C cH aj u st fun r fs=>r=(c8 t)∧fs=[])):=by
  refine aW t.nodes (fun i=>(i=0→ah C cH aj 4 0 (qF (t.lows.map bq) (t.nodes.map aH)) (fun u st=>au C cH aj u st fun r fs=>r=(c8 t)∧fs=[]))∧(0<i→ah C cH aj 4 0 (nI i (t.lows.map bq) (t.nodes.map aH) ((t.nodes.take i).map aH)) (fun u st=>au C cH aj u st fun r fs=>r=(c8 t)∧fs=[]))) ?_ ?_
  ·refine⟨fun h=> ?_,fun h=> ?_⟩
   ·have hnil:t.nodes=[]:=List.length_eq_zero_iff.1 h
    refine CB _ _ _ (an (by simp[h]) (Md _ _ _ _ ⟨?_,by first|rfl|trivial⟩))
    simp[hnil]
   ·rw[List.take_length]
    exact CC _ _ _ _ _ (an (by simp) (Me _ _ _ _ _ _ ⟨rfl,by first|rfl|trivial⟩))
  ·intro i a hi ha hd htk hn
   have hmem:=List.mem_of_getElem? ha
   refine⟨fun h=> ?_,fun h=> ?_⟩
   ·subst h
    have hz:fT t.nodes 0=some a:=(aE t.nodes 0).trans ha
    have hn2:=hn.2 (by omega)
    rw[htk] at hn2
    refine CB _ _ _ (ai (by simp;omega) ?_)
    simp only[rG,hz,Option.some.injEq,exists_eq_left']
    refine⟨_,tJ a (hs a hmem).1 (hs a hmem).2,ai (cZ (by simp;try omega)) ?_⟩
    rw[aB (by omega)]
    exact hn2
   ·have hn2:=hn.2 (by omega)
    rw[htk] at hn2
    refine CC _ _ _ _ _ (ai (by simp;omega) ?_)
    simp only[rG,aE,ha,Option.some.injEq,exists_eq_left']
    refine⟨_,tJ a (hs a hmem).1 (hs a hmem).2,ai (cZ (by simp;try omega)) ?_⟩
    rw[aB (by omega)]
    rw[List.map_append] at hn2
    exact hn2
 exact key.1 rfl
theorem wJ {t:Tree} (h:cz t≤4194304):(t.lows.length≤1073741824∧t.nodes.length≤1073741824)∧ ∀n∈t.nodes,n.length≤1073741824∧ ∀s∈n,s.length≤1073741824:=by
 have e2:cz t=t.lows.length+(t.nodes.length+tot aI t.nodes):=rfl
 refine⟨⟨by omega,by omega⟩,fun n hn=> ?_⟩
 have h1:aI n≤tot aI t.nodes:=oe (w:=aI) hn
 have h2:aI n=n.length+tot bH n:=rfl
 refine⟨by omega,fun s hs=> ?_⟩
 have h3:bH s≤tot bH n:=oe (w:=bH) hs
 have h4:bH s=s.length:=rfl
 omega
theorem yS (p:Pool) (hS:cc p≤4194304):aa C cD [eX p] (eX p) []:=by
 have hP:=fu hS
 have hN:=wJ hP.1
 have hT:=A4 p.t hN.1 hN.2
 have hA:(bS (p.ages.map bT)&&fits (Nat.add 0 (p.ages.map bT).length) 16)=true:=by rw[yL,cZ (by simp;omega)];rfl
 have hC:=AX p.cells (by omega)
 have hV:(bS (p.vols.map dh)&&fits (Nat.add 0 (p.vols.map dh).length) 40)=true:=by rw[Ey,cZ (by simp;omega)];rfl
 refine(Oa _ _ _ _ _ _ _ ?_).run
 repeat' first
  |exact rfl
  |refine⟨(eX p,[]),?_,?_,⟨rfl,by first|rfl|trivial⟩⟩
  |refine⟨(eX p,[]),?_,?_,by first|rfl|trivial⟩
  |refine⟨_,_,hT,?_⟩
  |refine ai hA ?_
  |refine⟨_,hC,?_⟩
  |refine ai hV ?_
theorem wK (p:Pool) (hS:cc p≤4194304):aa C nQ [eX p] (eX p) []:=by
 have hP:=fu hS
 have hN:=wJ hP.1
 have hT:=wI p.t hN.1 hN.2
 have hA:=wH p.ages (by omega)
 have hC:=u6 p.cells (by omega)
 have hV:(bS (p.vols.map dh)&&fits (Nat.add 0 (p.vols.map dh).length) 40)=true:=by rw[Ey,cZ (by simp;omega)];rfl
 refine(LM _ _ _ _ _ _ _ ?_).run
 repeat' first
  |exact rfl
  |refine⟨(eX p,[]),?_,?_,⟨rfl,by first|rfl|trivial⟩⟩
  |refine⟨(eX p,[]),?_,?_,by first|rfl|trivial⟩
  |refine⟨_,_,hT,?_⟩
  |refine⟨_,hA,?_⟩
  |refine⟨_,hC,?_⟩
  |refine ai hV ?_
theorem jw (l:List Key) (hl:l.length≤1073741824):aa C aL [cM l] (gz (cF l)) []:=by
 refine(Of _ _ ?_).run
 unfold cF
 by_cases h:l.length=0
 ·exact ai (by simp[h]) ⟨by rw[if_pos h];rfl,rfl⟩
 ·refine an (by rw[List.length_map,Int.ofNat_eq_natCast,aD];exact decide_eq_false (by omega)) ?_
  rw[show bS (l.map bw)=true from kN _,cZ (by simp;omega)]
  exact⟨by rw[if_neg h];rfl,rfl⟩
theorem oq (l:List Key) (hl:l.length≤1073741824):aa C dm [cM l] (gz (cF l)) []:=by
 refine(OA _ _ ?_).run
 unfold cF
 by_cases h:l.length=0
 ·exact ai (by simp[h]) ⟨by rw[if_pos h];rfl,rfl⟩
 ·refine an (by rw[List.length_map,Int.ofNat_eq_natCast,aD];exact decide_eq_false (by omega)) ?_
  exact⟨_,om l (by omega),⟨by rw[if_neg h];rfl,rfl⟩⟩
theorem wL (n:List (List Key)) (k:Key) (hb:n.length≤1073740000) (hl:tot bH n≤1073740000):aa C fA [gz n,ru k] (cM (ct n k)) []:=by
 have h1:=cX n
 have h2:=oV (aK n) k
 exact(LV _ _ _ _ _ _ _ ⟨_,(jC n (by omega) (by omega) _).2 rfl,_,qo (aK n) k (by omega),_,E2 (fJ (aK n) k) (by omega),⟨rfl,by first|rfl|trivial⟩⟩).run
theorem IZ (n:List (List Key)) (k:Key) (hb:n.length≤1073740000) (hl:tot bH n≤1073740000):aa C AD [gz n,ru k] (Xk (cj n k)) []:=by
 have hs: ∀s∈n,s.length≤1073741824:=fun s hm=>by have:=oe (w:=bH) hm;unfold bH at this hl;omega
 have hcp:=rO n (by omega) hs
 have hXl:=Fz n k
 have hXt:=FA n k
 have tail: ∀(X:List (List Key)) (Q:QV),X=jP n k→Q (Xk (cj n k)) []→ ∃(b18:Bool),aa C bK ([TV.ag [TC.sub 1 (X.map bX)]]) (TV.c (iB b18)) []∧(az b18 (Q (TV.tu [(1,[TC.sub 1 (X.map bX)]),(0,[iB true])]) ([])) (∃(l19:RR),aa C fA ([TV.ag [TC.sub 1 (n.map bX)],ru k]) (TV.c (TC.sub 5 l19)) []∧(∃(l20:RR),aa C dm ([TV.c (TC.sub 5 l19)]) (TV.ag [TC.sub 1 l20]) []∧(az (bI 8 (Int.ofNat (List.length l19))) (∃(l21:RR),aa C aR ([TV.ag [TC.sub 1 (n.map bX)]]) (TV.ag [TC.sub 1 l21]) []∧(Q (TV.tu [(1,[TC.sub 1 l21]),(0,[iB false])]) ([]))) (∃(b22:Bool),aa C bK ([TV.ag [TC.sub 1 l20]]) (TV.c (iB b22)) []∧(az (!b22) (∃(l23:RR),aa C aR ([TV.ag [TC.sub 1 (n.map bX)]]) (TV.ag [TC.sub 1 l23]) []∧(Q (TV.tu [(1,[TC.sub 1 l23]),(0,[iB false])]) ([]))) (Q (TV.tu [(1,[TC.sub 1 l20]),(0,[iB true])]) ([])))))))):=by
  intro X Q hX hQ
  rw[←hX] at hXl hXt
  have hok:aa C bK [gz X] (vB (fK X)) []:=tF X (by omega) (by omega)
  have hkl:=pG n k
  have hnl:=wo (ct n k)
  have hnt:=wq (ct n k)
  have hok2:aa C bK [gz (cF (ct n k))] (vB (fK (cF (ct n k)))) []:=tF _ (by omega) (by omega)
  refine⟨_,hok,?_⟩
  unfold cj at hQ
  rw[←hX] at hQ
  cases h1:fK X with
  |true=>
   rw[if_pos h1] at hQ
   exact ai rfl hQ
  |false=>
   rw[if_neg (by rw[h1];simp)] at hQ
   refine an rfl ⟨_,wL n k (by omega) (by omega),_,oq (ct n k) (by omega),?_⟩
   by_cases h2:8<(ct n k).length
   ·rw[if_pos h2] at hQ
    exact ai (by simp<;>omega) ⟨_,hcp,hQ⟩
   ·rw[if_neg h2] at hQ
    refine an (by simp<;>omega) ⟨_,hok2,?_⟩
    cases h3:fK (cF (ct n k)) with
    |true=>
     rw[if_pos h3] at hQ
     exact an rfl hQ
    |false=>
     rw[if_neg (by rw[h3];simp)] at hQ
     exact ai rfl ⟨_,hcp,hQ⟩
 refine(Oz _ _ _ _ _ _ _ ⟨_,hcp,?_⟩).run
 rw[List.length_map]
 cases hlast:n[n.length-1]? with
 |none=>
  have h0:n.length=0:=Classical.byContradiction fun h=>by rw[List.getElem?_eq_getElem (by omega)] at hlast;cases hlast
  have hX:n++[[k]]=jP n k:=by unfold jP;rw[hlast]
  refine an (by rw[h0,eD (by simp)];simp) ((ai (cZ (by simp<;>omega)) ?_))
  rw[show List.append (n.map bX) [[TC.sub 5 [[iI k.b,iI k.a,iI k.k,iI k.c,iI k.g]]]]=(n++[[k]]).map bX from by simp[bX,bw]]
  exact tail _ (fun r fs=>r=Xk (cj n k)∧fs=[]) hX ⟨rfl,by first|rfl|trivial⟩
 |some s=>
  have hlt:=(List.getElem?_eq_some_iff.1 hlast).1
  have hsub:ef (Int.ofNat n.length) 1=((n.length-1:Nat):Int):=by rw[eD (by simp<;>omega)];simp;omega
  have hrow:rowAt (n.map bX) ((n.length-1:Nat):Int)=some [TC.sub 5 (s.map bw)]:=by rw[bD,aE,hlast];rfl
  have hsl:=hs s (List.mem_of_getElem? hlast)
  have hset:setRow (n.map bX) ((n.length-1:Nat):Int) 0 [TC.sub 5 ((fJ s k).map bw)]=(n.set (n.length-1) (fJ s k)).map bX:=NF (a:=s) (a':=fJ s k) hlast rfl
  have happ:List.append (n.map bX) [[TC.sub 5 [[iI k.b,iI k.a,iI k.k,iI k.c,iI k.g]]]]=(n++[[k]]).map bX:=by simp[bX,bw]
  have hfit:fits (Nat.succ n.length) 24=true:=cZ (by simp<;>omega)
  rw[hsub]
  refine ai (by simp) ⟨_,hrow,?_⟩
  have key: ∀Q:QV,Q (Xk (cj n k)) []→ ∃(n8:Int) (n9:Int) (n10:Int) (n11:Int) (n12:Int) (b13:Bool),aa C fW ([TV.c (TC.sub 5 (s.map bw)),TV.c (iI k.b),TV.c (iI k.a)]) (TV.tu [(1,[iI n8,iI n9,iI n10,iI n11,iI n12]),(0,[iB b13])]) []∧(az b13 (∃(l14:RR),rowAt (n.map bX) ((n.length-1:Nat):Int)=some [TC.sub 5 l14]∧(∃(l15:RR),aa C de ([TV.c (TC.sub 5 l14),ru k]) (TV.c (TC.sub 5 l15)) []∧(∃(l16:RR),rowAt (n.map bX) ((n.length-1:Nat):Int)=some [TC.sub 5 l16]∧(∃(l17:RR),rowAt (n.map bX) ((n.length-1:Nat):Int)=some [TC.sub 5 l17]∧(∃(b18:Bool),aa C bK ([TV.ag [TC.sub 1 (setRow (n.map bX) ((n.length-1:Nat):Int) 0 [TC.sub 5 l15])]]) (TV.c (iB b18)) []∧(az b18 (Q (TV.tu [(1,[TC.sub 1 (setRow (n.map bX) ((n.length-1:Nat):Int) 0 [TC.sub 5 l15])]),(0,[iB true])]) ([])) (∃(l19:RR),aa C fA ([TV.ag [TC.sub 1 (n.map bX)],ru k]) (TV.c (TC.sub 5 l19)) []∧(∃(l20:RR),aa C dm ([TV.c (TC.sub 5 l19)]) (TV.ag [TC.sub 1 l20]) []∧(az (bI 8 (Int.ofNat (List.length l19))) (∃(l21:RR),aa C aR ([TV.ag [TC.sub 1 (n.map bX)]]) (TV.ag [TC.sub 1 l21]) []∧(Q (TV.tu [(1,[TC.sub 1 l21]),(0,[iB false])]) ([]))) (∃(b22:Bool),aa C bK ([TV.ag [TC.sub 1 l20]]) (TV.c (iB b22)) []∧(az (!b22) (∃(l23:RR),aa C aR ([TV.ag [TC.sub 1 (n.map bX)]]) (TV.ag [TC.sub 1 l23]) []∧(Q (TV.tu [(1,[TC.sub 1 l23]),(0,[iB false])]) ([]))) (Q (TV.tu [(1,[TC.sub 1 l20]),(0,[iB true])]) ([])))))))))))))
   (∃(l24:RR),rowAt (n.map bX) ((n.length-1:Nat):Int)=some [TC.sub 5 l24]∧(az (bI (Int.ofNat (List.length l24)) 4) (∃(l25:RR),rowAt (n.map bX) ((n.length-1:Nat):Int)=some [TC.sub 5 l25]∧(∃(l26:RR),aa C de ([TV.c (TC.sub 5 l25),ru k]) (TV.c (TC.sub 5 l26)) []∧(∃(l27:RR),rowAt (n.map bX) ((n.length-1:Nat):Int)=some [TC.sub 5 l27]∧(∃(l28:RR),rowAt (n.map bX) ((n.length-1:Nat):Int)=some [TC.sub 5 l28]∧(∃(b18:Bool),aa C bK ([TV.ag [TC.sub 1 (setRow (n.map bX) ((n.length-1:Nat):Int) 0 [TC.sub 5 l26])]]) (TV.c (iB b18)) []∧(az b18 (Q (TV.tu [(1,[TC.sub 1 (setRow (n.map bX) ((n.length-1:Nat):Int) 0 [TC.sub 5 l26])]),(0,[iB true])]) ([])) (∃(l19:RR),aa C fA ([TV.ag [TC.sub 1 (n.map bX)],ru k]) (TV.c (TC.sub 5 l19)) []∧(∃(l20:RR),aa C dm ([TV.c (TC.sub 5 l19)]) (TV.ag [TC.sub 1 l20]) []∧(az (bI 8 (Int.ofNat (List.length l19))) (∃(l21:RR),aa C aR ([TV.ag [TC.sub 1 (n.map bX)]]) (TV.ag [TC.sub 1 l21]) []∧(Q (TV.tu [(1,[TC.sub 1 l21]),(0,[iB false])]) ([]))) (∃(b22:Bool),aa C bK ([TV.ag [TC.sub 1 l20]]) (TV.c (iB b22)) []∧(az (!b22) (∃(l23:RR),aa C aR ([TV.ag [TC.sub 1 (n.map bX)]]) (TV.ag [TC.sub 1 l23]) []∧(Q (TV.tu [(1,[TC.sub 1 l23]),(0,[iB false])]) ([]))) (Q (TV.tu [(1,[TC.sub 1 l20]),(0,[iB true])]) ([]))))))))))))) (az (fits (Nat.succ (List.length n)) 24) (∃(b18:Bool),aa C bK ([TV.ag [TC.sub 1 (List.append (n.map bX) [[TC.sub 5 [[iI k.b,iI k.a,iI k.k,iI k.c,iI k.g]]]])]]) (TV.c (iB b18)) []∧(az b18 (Q (TV.tu [(1,[TC.sub 1 (List.append (n.map bX) [[TC.sub 5 [[iI k.b,iI k.a,iI k.k,iI k.c,iI k.g]]]])]),(0,[iB true])]) ([])) (∃(l19:RR),aa C fA ([TV.ag [TC.sub 1 (n.map bX)],ru k]) (TV.c (TC.sub 5 l19)) []∧(∃(l20:RR),aa C dm ([TV.c (TC.sub 5 l19)]) (TV.ag [TC.sub 1 l20]) []∧(az (bI 8 (Int.ofNat (List.length l19))) (∃(l21:RR),aa C aR ([TV.ag [TC.sub 1 (n.map bX)]]) (TV.ag [TC.sub 1 l21]) []∧(Q (TV.tu [(1,[TC.sub 1 l21]),(0,[iB false])]) ([]))) (∃(b22:Bool),aa C bK ([TV.ag [TC.sub 1 l20]]) (TV.c (iB b22)) []∧(az (!b22) (∃(l23:RR),aa C aR ([TV.ag [TC.sub 1 (n.map bX)]]) (TV.ag [TC.sub 1 l23]) []∧(Q (TV.tu [(1,[TC.sub 1 l23]),(0,[iB false])]) ([]))) (Q (TV.tu [(1,[TC.sub 1 l20]),(0,[iB true])]) ([]))))))))) (False))))):=by
   intro Q hQ
   refine⟨_,_,_,_,_,_,DU s k.b k.a hsl,?_⟩
   cases h1:(yN s k.b k.a).2 with
   |true=>
    have hX:n.set (n.length-1) (fJ s k)=jP n k:=by unfold jP Fy;rw[hlast];simp[h1]
    refine ai rfl ⟨_,hrow,_,qo s k hsl,_,hrow,_,hrow,?_⟩
    rw[hset]
    exact tail _ _ hX hQ
   |false=>
    refine an rfl ⟨_,hrow,?_⟩
    by_cases h2:s.length<4
    ·have hX:n.set (n.length-1) (fJ s k)=jP n k:=by unfold jP Fy;rw[hlast];simp[h1,h2]
     refine ai (by simp<;>omega) ⟨_,hrow,_,qo s k hsl,_,hrow,_,hrow,?_⟩
     rw[hset]
     exact tail _ _ hX hQ
    ·have hX:n++[[k]]=jP n k:=by unfold jP Fy;rw[hlast];simp[h1,h2]
     refine an (by simp<;>omega) (ai hfit ?_)
     rw[happ]
     exact tail _ _ hX hQ
  exact⟨(Xk (cj n k),[]),key (fun a b=>(a,b)=(Xk (cj n k),([]:List TV))) rfl,key (fun a b=>(a,b)=(Xk (cj n k),([]:List TV))) rfl,⟨rfl,rfl⟩⟩
theorem I0 (n:List (List Key)) (k:Key) (hb:n.length≤1073740000) (hl:tot bH n≤1073740000):aa C AB [gz n,ru k] (Xk (cj n k)) []:=by
 have hs: ∀s∈n,s.length≤1073741824:=fun s hm=>by have:=oe (w:=bH) hm;unfold bH at this hl;omega
 have hcp:=tJ n (by omega) hs
 have hXl:=Fz n k
 have hXt:=FA n k
 have tail: ∀(X:List (List Key)) (Q:QV),X=jP n k→Q (Xk (cj n k)) []→ ∃(b22:Bool),aa C bM ([TV.ag [TC.sub 1 (X.map bX)]]) (TV.c (iB b22)) []∧(az b22 (Q (TV.tu [(1,[TC.sub 1 (X.map bX)]),(0,[iB true])]) ([])) (∃(l23:RR),aa C aQ ([TV.ag [TC.sub 1 (n.map bX)]]) (TV.c (TC.sub 5 l23)) []∧(∃(l24:RR),aa C bO ([TV.c (TC.sub 5 l23),ru k]) (TV.c (TC.sub 5 l24)) []∧(∃(l25:RR),aa C dB ([TV.c (TC.sub 5 l24)]) (TV.c (TC.sub 5 l25)) []∧(az (bI 8 (Int.ofNat (List.length l25))) (∃(l26:RR),aa C bF ([TV.ag [TC.sub 1 (n.map bX)]]) (TV.ag [TC.sub 1 l26]) []∧(Q (TV.tu [(1,[TC.sub 1 l26]),(0,[iB false])]) ([]))) (∃(l27:RR),aa C aL ([TV.c (TC.sub 5 l25)]) (TV.ag [TC.sub 1 l27]) []∧(∃(b28:Bool),aa C bM ([TV.ag [TC.sub 1 l27]]) (TV.c (iB b28)) []∧(az (!b28) (∃(l29:RR),aa C bF ([TV.ag [TC.sub 1 (n.map bX)]]) (TV.ag [TC.sub 1 l29]) []∧(Q (TV.tu [(1,[TC.sub 1 l29]),(0,[iB false])]) ([]))) (∃(l30:RR),aa C aL ([TV.c (TC.sub 5 l25)]) (TV.ag [TC.sub 1 l30]) []∧(Q (TV.tu [(1,[TC.sub 1 l30]),(0,[iB true])]) ([]))))))))))):=by
  intro X Q hX hQ
  rw[←hX] at hXl hXt
  have hok:aa C bM [gz X] (vB (fK X)) []:=tE X (by omega) (by omega)
  have hkl:=pG n k
  have hnl:=wo (ct n k)
  have hnt:=wq (ct n k)
  have hok2:aa C bM [gz (cF (ct n k))] (vB (fK (cF (ct n k)))) []:=tE _ (by omega) (by omega)
  refine⟨_,hok,?_⟩
  unfold cj at hQ
  rw[←hX] at hQ
  cases h1:fK X with
  |true=>
   rw[if_pos h1] at hQ
   exact ai rfl hQ
  |false=>
   rw[if_neg (by rw[h1];simp)] at hQ
   have g1:=cX n
   have g2:=oV (aK n) k
   refine an rfl ⟨_,(eP n (by omega) (by omega) _).2 rfl,_,nr (aK n) k (by omega),_,yq (fJ (aK n) k) (by omega),?_⟩
   change az (bI 8 (Int.ofNat (List.length ((ct n k).map bw)))) _ _
   by_cases h2:8<(ct n k).length
   ·rw[if_pos h2] at hQ
    exact ai (by simp<;>omega) ⟨_,hcp,hQ⟩
   ·rw[if_neg h2] at hQ
    refine an (by simp<;>omega) ⟨_,jw (ct n k) (by omega),_,hok2,?_⟩
    cases h3:fK (cF (ct n k)) with
    |true=>
     rw[if_pos h3] at hQ
     exact an rfl ⟨_,jw (ct n k) (by omega),hQ⟩
    |false=>
     rw[if_neg (by rw[h3];simp)] at hQ
     exact ai rfl ⟨_,hcp,hQ⟩
 refine(OK _ _ _ _ _ _ _ ⟨_,hcp,?_⟩).run
 rw[List.length_map]
 cases hlast:n[n.length-1]? with
 |none=>
  have h0:n.length=0:=Classical.byContradiction fun h=>by rw[List.getElem?_eq_getElem (by omega)] at hlast;cases hlast
  have hX:n++[[k]]=jP n k:=by unfold jP;rw[hlast]
  refine an (by rw[h0,eD (by simp)];simp) (an (by rw[h0,eD (by simp)];simp) (ai (cZ (by simp<;>omega)) ?_))
  rw[show List.append (n.map bX) [[TC.sub 5 [[iI k.b,iI k.a,iI k.k,iI k.c,iI k.g]]]]=(n++[[k]]).map bX from by simp[bX,bw]]
  exact tail _ (fun r fs=>r=Xk (cj n k)∧fs=[]) hX ⟨rfl,by first|rfl|trivial⟩
 |some s=>
  have hlt:=(List.getElem?_eq_some_iff.1 hlast).1
  have hsub:ef (Int.ofNat n.length) 1=((n.length-1:Nat):Int):=by rw[eD (by simp<;>omega)];simp;omega
  have hrow:rowAt (n.map bX) ((n.length-1:Nat):Int)=some [TC.sub 5 (s.map bw)]:=by rw[bD,aE,hlast];rfl
  have hsl:=hs s (List.mem_of_getElem? hlast)
  have hset:setRow (n.map bX) ((n.length-1:Nat):Int) 0 [TC.sub 5 ((fJ s k).map bw)]=(n.set (n.length-1) (fJ s k)).map bX:=NF (a:=s) (a':=fJ s k) hlast rfl
  have happ:List.append (n.map bX) [[TC.sub 5 [[iI k.b,iI k.a,iI k.k,iI k.c,iI k.g]]]]=(n++[[k]]).map bX:=by simp[bX,bw]
  have hfit:fits (Nat.succ n.length) 24=true:=cZ (by simp<;>omega)
  rw[hsub]
  refine ai (by simp) ⟨_,hrow,_,hrow,_,_,_,_,_,_,DT s k.b k.a hsl,ai (by simp) ⟨_,hrow,_,hrow,?_⟩⟩
  by_cases h2:s.length<4
  ·have hX:n.set (n.length-1) (fJ s k)=jP n k:=by unfold jP Fy;rw[hlast];simp[h2]
   refine ai (by simp<;>omega) ⟨_,hrow,_,hrow,_,nr s k hsl,_,hrow,_,hrow,?_⟩
   rw[hset]
   exact tail _ (fun r fs=>r=Xk (cj n k)∧fs=[]) hX ⟨rfl,by first|rfl|trivial⟩
  ·refine an (by simp<;>omega) ?_
   cases h1:(yN s k.b k.a).2 with
   |true=>
    have hX:n.set (n.length-1) (fJ s k)=jP n k:=by unfold jP Fy;rw[hlast];simp[h1]
    refine ai rfl ⟨_,hrow,_,hrow,_,nr s k hsl,_,hrow,_,hrow,?_⟩
    rw[hset]
    exact tail _ (fun r fs=>r=Xk (cj n k)∧fs=[]) hX ⟨rfl,by first|rfl|trivial⟩
   |false=>
    have hX:n++[[k]]=jP n k:=by unfold jP Fy;rw[hlast];simp[h1,h2]
    refine an rfl (ai hfit ?_)
    rw[happ]
    exact tail _ (fun r fs=>r=Xk (cj n k)∧fs=[]) hX ⟨rfl,by first|rfl|trivial⟩
theorem u7 (t:Tree) (i:Nat) (lw:List Int) (nd:List (List (List Key))) (h1:i+1≤t.lows.length) (h2:i+1≤t.nodes.length) (hl:t.lows.length≤1073741824) (hn:t.nodes.length≤1073741824) (hlw:lw.length≤1073741824) (hnd:nd.length≤1073741824):aa C cL [c8 t,vI (i:Int),lz lw,uR nd] (c8 (lC t i 1 lw nd)) []:=by
 have e1:aA (t.lows.map bq) 0 (i:Int)=(t.lows.take i).map bq:=by rw[cv];rfl
 have e2:aA (t.lows.map bq) ((i:Int)+1) (Int.ofNat (t.lows.map bq).length)=(t.lows.drop (i+1)).map bq:=by
  rw[cv,List.length_map,show((i:Int)+1).toNat=i+1 from by omega,show(Int.ofNat t.lows.length).toNat=t.lows.length from rfl,List.take_length]
 have e3:aA (t.nodes.map aH) 0 (i:Int)=(t.nodes.take i).map aH:=by rw[cv];rfl
 have ea:ay (i:Int) 1=(i:Int)+1:=aB (by omega)
 have k1:(t.lows.take i).length≤t.lows.length:=by rw[List.length_take];omega
 have k2:(t.lows.drop (i+1)).length≤t.lows.length:=by rw[List.length_drop];omega
 have k3:(t.nodes.take i).length≤t.nodes.length:=by rw[List.length_take];omega
 have k4:(t.nodes.drop (i+1)).length≤t.nodes.length:=by rw[List.length_drop];omega
 have e4:aA (t.nodes.map aH) ((i:Int)+1) (Int.ofNat (t.nodes.map aH).length)=(t.nodes.drop (i+1)).map aH:=by
  rw[cv,List.length_map,show((i:Int)+1).toNat=i+1 from by omega,show(Int.ofNat t.nodes.length).toNat=t.nodes.length from rfl,List.take_length]
 refine(Tb _ _ _ _ _ _ ?_).run
 rw[ea,e1,e2,e3,e4,ku,ku,ku,ku]
 refine ai (by simp<;>omega) (ai (by simp<;>omega) (ai (by rw[kM,cZ (by simp<;>omega)];rfl) (ai (by rw[kM,cZ (by simp only[List.length_map,Nat.add_eq];omega)];rfl) (ai (by rw[kM,cZ (by simp only[List.length_map,List.length_append,Nat.add_eq];omega)];rfl)
  (ai (by simp<;>omega) (ai (by simp<;>omega) (ai (cZ (by simp<;>omega)) (ai (cZ (by simp only[List.length_map,Nat.add_eq];omega)) (ai (cZ (by simp only[List.length_map,List.length_append,Nat.add_eq];omega)) ?_)))))))))
 exact⟨rfl,by first|rfl|trivial⟩
attribute [local semireducible] iE aA in
theorem Xu {rows:RR} {i c:Nat} (hk:i+c≤rows.length):aA (iE 1 rows 0 (i:Int)) ((i:Int)+(c:Int)) (Int.ofNat rows.length)=rows.drop (i+c):=by
 unfold aA iE
 rw[Int.toNat_natCast,show((i:Int)+(c:Int)).toNat=i+c from by omega,show(0:Int).toNat=0 from rfl,show(Int.ofNat rows.length).toNat=rows.length from rfl,List.take_zero,List.nil_append,Nat.sub_zero]
 rw[List.take_of_length_le (by simp<;>omega),List.drop_append,List.length_replicate,List.drop_of_length_le (by simp),List.nil_append,List.drop_drop]
 congr 1;omega
end Go.T.R
