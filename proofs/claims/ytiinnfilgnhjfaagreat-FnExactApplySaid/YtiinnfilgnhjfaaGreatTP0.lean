import Derived.Test.YtiinnfilgnhjfaaGreatTR2
set_option linter.all false
set_option maxRecDepth 100000
set_option maxHeartbeats 4000000
namespace Go.T.R
open Go Go.T
theorem Bo {P:Prop} (h:P:=by kernel_rfl):P:=h
theorem toKey (v0:Int) (v1:Int) (v2:Int) (v3:Int) (v4:Int):au C L4 [.ag [iI v0,iI v1,iI v2,iI v3,iI v4]] (.ag [iI v0,iI v1,iI v2,iI v3,iI v4]) []:=(abN _ _ _ _ _ _ c7).run
theorem apt (v0:Int) (v1:Int) (v2:Int) (v3:Int) (v4:Int):au C L5 [.ag [iI v0,iI v1,iI v2,iI v3,iI v4],.ag [iI v0,iI v1,iI v2,iI v3,iI v4]] (vB true) []:=by
 refine(abU _ _ _ _ _ _ _ _ _ _ _ ?_).run;simp
theorem anU (l:List (Key)) (hl:l.length≤1099511627776):au C oS [dP l] (dP l) []:=by
 refine(Zc _ _ ?_).run;simp only[ct];refine ai fj ?_;simp only[iZ,Ft,mT];refine Fv (e:=bP) (z:=[iI 0,iI 0,iI 0,iI 0,iI 0]) l (fun i rows=>ah C oS ak 4 0 (vw (l.map bP) i rows) _) (fun a=>rfl) ?_ ?_
 ·exact Ig _ _ _ _ (aa dh (TP _ _ _ _ _ c7))
 ·intro i rows a hi ha hr hn
  refine Ig _ _ _ _ (ai fj ⟨_,_,_,_,_,ek ha,_,_,_,_,_,toKey _ _ _ _ _,_,_,_,_,_,hr,_,_,_,_,_,hr,?_⟩);rw[aG an];exact hn
theorem anV (l:List (Key)) (hl:l.length≤1099511627776):au C oT [dP l,dP l] (vB true) []:=by
 refine(ZE _ _ _ ?_).run;refine aa dh ?_;refine bh l (fun i=>ah C oT ak 4 0 (vF (l.map bP) (l.map bP) i) _) ?_ ?_
 ·exact IC _ _ _ _ (aa dh (Ut _ _ _ _ _ c7))
 ·intro i a hi ha _ _ hn
  refine IC _ _ _ _ (ai fj ⟨_,_,_,_,_,ek ha,_,_,_,_,_,ek ha,_,apt _ _ _ _ _,aa dh ?_⟩);rw[aG an];exact hn
theorem apu (v0:Int) (v1:Int):au C LY [.ag [iI v0,iI v1]] (.ag [iI v0,iI v1]) []:=(abV _ _ _ c7).run
theorem apv (v0:Int) (v1:Int):au C L0 [.ag [iI v0,iI v1],.ag [iI v0,iI v1]] (vB true) []:=by
 refine(abF _ _ _ _ _ ?_).run;simp
theorem anW (l:List (Age)) (hl:l.length≤1099511627776):au C oJ [gL l] (gL l) []:=by
 refine(YZ _ _ ?_).run;simp only[ct];refine ai fj ?_;simp only[iZ,Ft,mT];refine Fv (e:=bW) (z:=[iI 0,iI 0]) l (fun i rows=>ah C oJ ak 4 0 (vt (l.map bW) i rows) _) (fun a=>rfl) ?_ ?_
 ·exact HY _ _ _ _ (aa dh (Tm _ _ _ _ _ c7))
 ·intro i rows a hi ha hr hn
  refine HY _ _ _ _ (ai fj ⟨_,_,ek ha,_,_,apu _ _,_,_,hr,_,_,hr,?_⟩);rw[aG an];exact hn
theorem anX (l:List (Age)) (hl:l.length≤1099511627776):au C oL [gL l,gL l] (vB true) []:=by
 refine(Zh _ _ _ ?_).run;refine aa dh ?_;refine bh l (fun i=>ah C oL ak 4 0 (vz (l.map bW) (l.map bW) i) _) ?_ ?_
 ·exact Ii _ _ _ _ (aa dh (TT _ _ _ _ _ c7))
 ·intro i a hi ha _ _ hn
  refine Ii _ _ _ _ (ai fj ⟨_,_,ek ha,_,_,ek ha,_,apv _ _,aa dh ?_⟩);rw[aG an];exact hn
theorem toCell (v0:Int) (v1:Bool) (v2:Int):au C JA [.ag [iI v0,iB v1,iI v2]] (.ag [iI v0,iB v1,iI v2]) []:=(Yn _ _ _ _ c7).run
theorem anY (v0:Int) (v1:Bool) (v2:Int):au C JB [.ag [iI v0,iB v1,iI v2],.ag [iI v0,iB v1,iI v2]] (vB true) []:=by
 refine(YF _ _ _ _ _ _ _ ?_).run;simp
theorem alS (l:List (Cell)) (hl:l.length≤1099511627776):au C m4 [jG l] (jG l) []:=by
 refine(W5 _ _ ?_).run;simp only[ct];refine ai fj ?_;simp only[iZ,Ft,mT];refine Fv (e:=bQ) (z:=[iI 0,iB false,iI 0]) l (fun i rows=>ah C m4 ak 4 0 (uh (l.map bQ) i rows) _) (fun a=>rfl) ?_ ?_
 ·exact EY _ _ _ _ (aa dh (QW _ _ _ _ _ c7))
 ·intro i rows a hi ha hr hn
  refine EY _ _ _ _ (ai fj ⟨_,_,_,ek ha,_,_,_,toCell _ _ _,_,_,_,hr,_,_,_,hr,?_⟩);rw[aG an];exact hn
theorem alT (l:List (Cell)) (hl:l.length≤1099511627776):au C m5 [jG l,jG l] (vB true) []:=by
 refine(Wl _ _ _ ?_).run;refine aa dh ?_;refine bh l (fun i=>ah C m5 ak 4 0 (tY (l.map bQ) (l.map bQ) i) _) ?_ ?_
 ·exact EG _ _ _ _ (aa dh (P7 _ _ _ _ _ c7))
 ·intro i a hi ha _ _ hn
  refine EG _ _ _ _ (ai fj ⟨_,_,_,ek ha,_,_,_,ek ha,_,anY _ _ _,aa dh ?_⟩);rw[aG an];exact hn
theorem apw (v0:ByteArray) (v1:Int) (v2:Int) (v3:Bool):au C LZ [.ag [iS v0,iI v1,iI v2,iB v3]] (.ag [iS v0,iI v1,iI v2,iB v3]) []:=(abM _ _ _ _ _ c7).run
theorem apx (v0:ByteArray) (v1:Int) (v2:Int) (v3:Bool):au C L3 [.ag [iS v0,iI v1,iI v2,iB v3],.ag [iS v0,iI v1,iI v2,iB v3]] (vB true) []:=by
 refine(abP _ _ _ _ _ _ _ _ _ ?_).run;simp
theorem anZ (l:List (Vol)) (hl:l.length≤1099511627776):au C oK [qV l] (qV l) []:=by
 refine(Yg _ _ ?_).run;simp only[ct];refine ai fj ?_;simp only[iZ,Ft,mT];refine Fv (e:=cu) (z:=[iS xQ,iI 0,iI 0,iB false]) l (fun i rows=>ah C oK ak 4 0 (vk (l.map cu) i rows) _) (fun a=>rfl) ?_ ?_
 ·exact HB _ _ _ _ (aa dh (Sv _ _ _ _ _ c7))
 ·intro i rows a hi ha hr hn
  refine HB _ _ _ _ (ai fj ⟨_,_,_,_,ek ha,_,_,_,_,apw _ _ _ _,_,_,_,_,hr,_,_,_,_,hr,?_⟩);rw[aG an];exact hn
theorem an0 (l:List (Vol)) (hl:l.length≤1099511627776):au C oM [qV l,qV l] (vB true) []:=by
 refine(YB _ _ _ ?_).run;refine aa dh ?_;refine bh l (fun i=>ah C oM ak 4 0 (vo (l.map cu) (l.map cu) i) _) ?_ ?_
 ·exact HI _ _ _ _ (aa dh (SQ _ _ _ _ _ c7))
 ·intro i a hi ha _ _ hn
  refine HI _ _ _ _ (ai fj ⟨_,_,_,_,ek ha,_,_,_,_,ek ha,_,apx _ _ _ _,aa dh ?_⟩);rw[aG an];exact hn
theorem nL (v0:Int) (v1:ByteArray) (v2:ByteArray) (v3:Int) (v4:Int):au C eE [.ag [iI v0,iS v1,iS v2,iI v3,iI v4]] (.ag [iI v0,iS v1,iS v2,iI v3,iI v4]) []:=(adT _ _ _ _ _ _ c7).run
theorem an1 (l:List (Int)) (hl:l.length≤1099511627776):au C oQ [oD l] (oD l) []:=by
 refine(YE _ _ ?_).run;simp only[ct];refine ai fj ?_;simp only[iZ,Ft,mT];refine Fv (e:=bS) (z:=[iI 0]) l (fun i rows=>ah C oQ ak 4 0 (vp (l.map bS) i rows) _) (fun a=>rfl) ?_ ?_
 ·exact HL _ _ _ _ (aa dh (S0 _ _ _ _ _ c7))
 ·intro i rows a hi ha hr hn
  refine HL _ _ _ _ (ai fj ⟨_,ek ha,_,hr,_,hr,?_⟩);rw[aG an];exact hn
theorem an2 (l:List (Int)) (hl:l.length≤1099511627776):au C oR [oD l,oD l] (vB true) []:=by
 refine(Y3 _ _ _ ?_).run;refine aa dh ?_;refine bh l (fun i=>ah C oR ak 4 0 (vu (l.map bS) (l.map bS) i) _) ?_ ?_
 ·exact H7 _ _ _ _ (aa dh (Tz _ _ _ _ _ c7))
 ·intro i a hi ha _ _ hn
  refine H7 _ _ _ _ (ai fj ⟨_,ek ha,_,ek ha,aa dh ?_⟩);rw[aG an];exact hn
theorem alU (l:List (List Key)) (hl:l.length≤1099511627776) (hs: ∀s∈l,s.length≤1099511627776):au C m8 [Nm l] (Nm l) []:=by
 refine(WL _ _ ?_).run;simp only[ct];refine ai fj ?_;simp only[iZ,Ft,mT];refine Fv (e:=cZ) (z:=[TC.sub 5 []]) l (fun i rows=>ah C m8 ak 4 0 (uc (l.map cZ) i rows) _) (fun a=>rfl) ?_ ?_
 ·exact ET _ _ _ _ (aa dh (QC _ _ _ _ _ c7))
 ·intro i rows a hi ha hr hn
  refine ET _ _ _ _ (ai fj ⟨_,ek ha,_,anU _ (hs _ (iV ha)),_,hr,_,hr,?_⟩);rw[aG an];exact hn
def Nz (n:List (List Key)):Prop:=n.length≤1099511627776∧ ∀s∈n,s.length≤1099511627776
def an3 (l:List (List (List Key))):Prop:=l.length≤1099511627776∧ ∀n∈l,Nz n
def aat (t:Tree):Prop:=t.aD.length≤1099511627776∧an3 t.nodes
theorem an4 (n:List (List Key)) (h:Nz n):au C JE [iu n] (iu n) []:=(Yt _ _ ⟨_,alU n h.1 h.2,rfl,rfl⟩).run
theorem alV (l:List (List (List Key))) (hl:l.length≤1099511627776) (hs: ∀n∈l,Nz n):au C m6 [As l] (As l) []:=by
 refine(WS _ _ ?_).run;simp only[ct];refine ai fj ?_;simp only[iZ,Ft,mT];refine Fv (e:=aR) (z:=[TC.sub 1 []]) l (fun i rows=>ah C m6 ak 4 0 (ue (l.map aR) i rows) _) (fun a=>rfl) ?_ ?_
 ·exact EV _ _ _ _ (aa dh (QF _ _ _ _ _ c7))
 ·intro i rows a hi ha hr hn
  refine EV _ _ _ _ (ai fj ⟨_,ek ha,_,an4 _ (hs _ (iV ha)),_,hr,_,hr,?_⟩);rw[aG an];exact hn
theorem toTree (t:Tree) (h:aat t):au C Jv [ef t] (ef t) []:=(YA _ _ _ ⟨_,an1 _ h.1,_,alV _ h.2.1 h.2.2,rfl,rfl⟩).run
theorem alW (l:List (List Key)) (hl:l.length≤1099511627776) (hs: ∀s∈l,s.length≤1099511627776):au C m9 [Nm l,Nm l] (vB true) []:=by
 refine(W0 _ _ _ ?_).run;refine aa dh ?_;refine bh l (fun i=>ah C m9 ak 4 0 (ug (l.map cZ) (l.map cZ) i) _) ?_ ?_
 ·exact EX _ _ _ _ (aa dh (QT _ _ _ _ _ c7))
 ·intro i a hi ha _ _ hn
  refine EX _ _ _ _ (ai fj ⟨_,ek ha,_,ek ha,_,anV _ (hs _ (iV ha)),aa dh ?_⟩);rw[aG an];exact hn
theorem an5 (n:List (List Key)) (h:Nz n):au C JF [iu n,iu n] (vB true) []:=(YQ _ _ _ ⟨_,alW n h.1 h.2,by simp⟩).run
theorem alX (l:List (List (List Key))) (hl:l.length≤1099511627776) (hs: ∀n∈l,Nz n):au C m7 [As l,As l] (vB true) []:=by
 refine(W8 _ _ _ ?_).run;refine aa dh ?_;refine bh l (fun i=>ah C m7 ak 4 0 (uj (l.map aR) (l.map aR) i) _) ?_ ?_
 ·exact EZ _ _ _ _ (aa dh (QZ _ _ _ _ _ c7))
 ·intro i a hi ha _ _ hn
  refine EZ _ _ _ _ (ai fj ⟨_,ek ha,_,ek ha,_,an5 _ (hs _ (iV ha)),aa dh ?_⟩);rw[aG an];exact hn
theorem an6 (t:Tree) (h:aat t):au C Jw [ef t,ef t] (vB true) []:=(Y0 _ _ _ _ _ ⟨_,an2 _ h.1,aa rfl ⟨_,alX _ h.2.1 h.2.2,by simp⟩⟩).run
structure adI (p:Pool):Prop where
 t:aat p.t
 aL:p.aL.length≤1099511627776
 cells:p.cells.length≤1099511627776
 av:p.av.length≤1099511627776
theorem gm (p:Pool) (h:adI p):au C dG [dQ p] (dQ p) []:=(Yx _ _ _ _ _ _ _ ⟨_,_,toTree p.t h.t,_,anW _ h.aL,_,alS _ h.cells,_,anZ _ h.av,rfl,rfl⟩).run
theorem cq (p:Pool) (h:adI p):au C ck [dQ p,dQ p] (vB true) []:=(Zf _ _ _ _ _ _ _ _ _ _ _ _ _ ⟨_,an6 p.t h.t,aa rfl ⟨_,anX _ h.aL,aa rfl ⟨_,alT _ h.cells,aa rfl ⟨_,an0 _ h.av,aa rfl dh⟩⟩⟩⟩).run
theorem an7 (l:List (Int)) (left:Int) (h0:0≤left∧left≤1048576) (hl:l.length≤140737488355328):au C Jz [oD l,vI left] (vI (qq left l.length)) []:=by
 refine(Yl _ _ _ ?_).run;simp only[ct,iZ];rw[dx an];unfold qq;simp only[eX,bK]
 by_cases h:left<(l.length:Int)
 ·rw[aJ an,aJ h];exact c7
 ·rw[aF an,aF h];exact c7
theorem an8 (l:List (Key)) (left:Int) (h0:0≤left∧left≤1048576) (hl:l.length≤140737488355328):au C JG [dP l,vI left] (vI (qq left l.length)) []:=by
 refine(YY _ _ _ ?_).run;simp only[ct,iZ];rw[dx an];unfold qq;simp only[eX,bK]
 by_cases h:left<(l.length:Int)
 ·rw[aJ an,aJ h];exact c7
 ·rw[aF an,aF h];exact c7
theorem an9 (l:List (Age)) (left:Int) (h0:0≤left∧left≤1048576) (hl:l.length≤140737488355328):au C Ju [gL l,vI left] (vI (qq left l.length)) []:=by
 refine(Yz _ _ _ ?_).run;simp only[ct,iZ];rw[dx an];unfold qq;simp only[eX,bK]
 by_cases h:left<(l.length:Int)
 ·rw[aJ an,aJ h];exact c7
 ·rw[aF an,aF h];exact c7
theorem alY (l:List (Cell)) (left:Int) (h0:0≤left∧left≤1048576) (hl:l.length≤140737488355328):au C FH [jG l,vI left] (vI (qq left l.length)) []:=by
 refine(WQ _ _ _ ?_).run;simp only[ct,iZ];rw[dx an];unfold qq;simp only[eX,bK]
 by_cases h:left<(l.length:Int)
 ·rw[aJ an,aJ h];exact c7
 ·rw[aF an,aF h];exact c7
theorem alZ (l:List (List Key)) (left:Int) (h0:0≤left∧left≤1048576) (hl:l.length≤140737488355328) (hs: ∀s∈l,s.length≤140737488355328):au C jz [Nm l,vI left] (vI (qq left (l.length+tot cg l))) []:=by
 refine(Wy _ _ _ ?_).run;simp only[ct,iZ];rw[dx an];simp only[eX,bK]
 by_cases h:left<(l.length:Int)
 ·rw[aJ an]
  refine⟨?_,by trivial⟩;unfold qq;rw[aJ an]
 ·rw[aF an]
  have key: ∀cur:Int,0≤cur∧cur≤1048576→qq cur (tot cg (l.drop 0))=qq left (l.length+tot cg l)→ah C jz ay 4 0 (qj (l.map cZ) cur ((0:Nat):Int)) (fun x st=>ax C jz ay x st fun r fs=>r=vI (qq left (l.length+tot cg l))∧fs=[]):=by
   refine bh l (fun i=> ∀cur:Int,0≤cur∧cur≤1048576→qq cur (tot cg (l.drop i))=qq left (l.length+tot cg l)→ah C jz ay 4 0 (qj (l.map cZ) cur i) _) ?_ ?_
   ·intro cur hc he
    refine EM _ _ _ _ (aa dh (Qq _ _ _ _ _ ⟨?_,by trivial⟩));rw[←he,eK];unfold qq tot;rw[aF an];simp
   ·intro i a hi ha hd _ hn cur hc he
    rw[hd] at he;simp only[tot] at he;refine EM _ _ _ _ (ai fj ⟨_,ek ha,_,an8 a cur hc (hs a (iV ha)),?_⟩)
    by_cases hw:cur<(cg a:Int)
    ·refine ai (by simp[qq,cg] at hw ⊢;omega) (Qp _ ⟨?_,by trivial⟩)
     rw[←he];unfold qq;rw[aJ an]
    ·have FY:qq cur (cg a)=cur-cg a:=aF hw
     refine aa (by simp[qq,cg] at hw ⊢;omega) ?_;rw[aG an];have:=hn (cur-cg a) an (by rw[←he];unfold qq;split<;>split<;>omega);rw[←FY] at this;exact this
  refine key (left-l.length) an ?_;simp only[List.drop_zero];unfold qq
  split<;>split<;>omega
theorem afm (n:List (List Key)) (left:Int) (h0:0≤left∧left≤1048576) (hl:n.length≤140737488355328) (hs: ∀s∈n,s.length≤140737488355328):au C JD [iu n,vI left] (vI (qq left (aO n))) []:=by
 refine(Y7 _ _ _ ⟨_,alZ n left h0 hl hs,?_⟩).run;show aq _ _ _;unfold aO;simp only[eX,bK]
 split
 ·refine⟨?_,by trivial⟩
  unfold qq at*
  split<;>simp_all<;>omega
 ·simp
theorem al0 (l:List (List (List Key))) (left:Int) (h0:0≤left∧left≤1048576) (hl:l.length≤140737488355328) (hs: ∀n∈l,n.length≤140737488355328∧ ∀s∈n,s.length≤140737488355328):au C jy [As l,vI left] (vI (qq left (l.length+tot aO l))) []:=by
 refine(WG _ _ _ ?_).run;simp only[ct,iZ];rw[dx an];simp only[eX,bK]
 by_cases h:left<(l.length:Int)
 ·rw[aJ an]
  refine⟨?_,by trivial⟩;unfold qq;rw[aJ an]
 ·rw[aF an]
  have key: ∀cur:Int,0≤cur∧cur≤1048576→qq cur (tot aO (l.drop 0))=qq left (l.length+tot aO l)→ah C jy ay 4 0 (ql (l.map aR) cur ((0:Nat):Int)) (fun x st=>ax C jy ay x st fun r fs=>r=vI (qq left (l.length+tot aO l))∧fs=[]):=by
   refine bh l (fun i=> ∀cur:Int,0≤cur∧cur≤1048576→qq cur (tot aO (l.drop i))=qq left (l.length+tot aO l)→ah C jy ay 4 0 (ql (l.map aR) cur i) _) ?_ ?_
   ·intro cur hc he
    refine EO _ _ _ _ (aa dh (Qv _ _ _ _ _ ⟨?_,by trivial⟩));rw[←he,eK];unfold qq tot;rw[aF an];simp
   ·intro i a hi ha hd _ hn cur hc he
    rw[hd] at he;simp only[tot] at he;refine EO _ _ _ _ (ai fj ⟨_,ek ha,_,afm a cur hc (hs a (iV ha)).1 (hs a (iV ha)).2,?_⟩)
    by_cases hw:cur<(aO a:Int)
    ·refine ai (by simp[qq,aO] at hw ⊢;omega) (Qu _ ⟨?_,by trivial⟩)
     rw[←he];unfold qq;rw[aJ an]
    ·have FY:qq cur (aO a)=cur-aO a:=aF hw
     refine aa (by simp[qq,aO] at hw ⊢;omega) ?_;rw[aG an];have:=hn (cur-aO a) an (by rw[←he];unfold qq;split<;>split<;>omega);rw[←FY] at this;exact this
  refine key (left-l.length) an ?_;simp only[List.drop_zero];unfold qq
  split<;>split<;>omega
theorem UN {a:Int} {n m:Nat} (h: ¬qq a n<0) (h0:0≤a):qq (qq a n) m=qq a (n+m):=by unfold qq at*;split<;>split<;>split<;>simp_all<;>omega
theorem abw {a:Int} {n:Nat} (h: ¬qq a n<0) (h0:0≤a∧a≤1048576):0≤qq a n∧qq a n≤1048576:=by unfold qq at*;split<;>simp_all<;>omega
theorem UO {a:Int} {n m:Nat} (h:qq a n<0) (h0:0≤a):qq a (n+m)= -1:=by unfold qq at*;split<;>simp_all<;>omega
structure ajR (t:Tree):Prop where
 aD:t.aD.length≤140737488355328
 nodes:t.nodes.length≤140737488355328
 node: ∀n∈t.nodes,n.length≤140737488355328∧ ∀s∈n,s.length≤140737488355328
theorem afn (t:Tree) (left:Int) (h0:0≤left∧left≤1048576) (h:ajR t):au C Jt [ef t,vI left] (vI (qq left (cN t))) []:=by
 refine(Yf _ _ _ _ ⟨_,an7 _ left h0 h.aD,?_⟩).run;unfold cN wS;refine td (fun hb=> ?_) fun hb=>⟨_,al0 _ _ (abw (by simpa using hb) h0) h.nodes h.node,?_⟩
 ·rw[UO (by simpa using hb) h0.1];exact c7
 ·have hb: ¬qq left t.aD.length<0:=by simpa using hb
  rw[UN hb h0.1];refine td (fun hc=> ?_) fun hc=>c7;refine⟨?_,by trivial⟩
  have hc:qq left (t.aD.length+(t.nodes.length+tot aO t.nodes))<0:=by simpa using hc
  unfold qq at*
  split<;>simp_all<;>omega
theorem ahm (s:ByteArray) (a z:Int) (f:Bool) (left:Int) (h0:0≤left∧left≤1048576) (hl:s.size≤140737488355328):au C LX [.ag [iS s,iI a,iI z,iB f],vI left] (vI (qq left s.size)) []:=by
 refine(abO _ _ _ _ _ _ ?_).run;simp only[LH,iZ];rw[dx an];unfold qq;simp only[eX,bK]
 by_cases h:left<(s.size:Int)
 ·rw[aJ an,aJ h];exact c7
 ·rw[aF an,aF h];exact c7
theorem aoa (l:List (Vol)) (left:Int) (h0:0≤left∧left≤1048576) (hl:l.length≤140737488355328) (hs: ∀v∈l,v.name.size≤140737488355328):au C kH [qV l,vI left] (vI (qq left (l.length+tot qd l))) []:=by
 refine(Zg _ _ _ ?_).run;simp only[ct,iZ];rw[dx an];simp only[eX,bK]
 by_cases h:left<(l.length:Int)
 ·rw[aJ an]
  refine⟨?_,by trivial⟩;unfold qq;rw[aJ an]
 ·rw[aF an]
  have key: ∀cur:Int,0≤cur∧cur≤1048576→qq cur (tot qd (l.drop 0))=qq left (l.length+tot qd l)→ah C kH ay 4 0 (rF (l.map cu) cur ((0:Nat):Int)) (fun x st=>ax C kH ay x st fun r fs=>r=vI (qq left (l.length+tot qd l))∧fs=[]):=by
   refine bh l (fun i=> ∀cur:Int,0≤cur∧cur≤1048576→qq cur (tot qd (l.drop i))=qq left (l.length+tot qd l)→ah C kH ay 4 0 (rF (l.map cu) cur i) _) ?_ ?_
   ·intro cur hc he
    refine Ih _ _ _ _ (aa dh (TR _ _ _ _ _ ⟨?_,by trivial⟩));rw[←he,eK];unfold qq tot;rw[aF an];simp
   ·intro i a hi ha hd _ hn cur hc he
    rw[hd] at he;simp only[tot] at he;refine Ih _ _ _ _ (ai fj ⟨_,_,_,_,ek ha,_,ahm _ _ _ _ cur hc (hs a (iV ha)),?_⟩)
    by_cases hw:cur<(qd a:Int)
    ·refine ai (by simp[qq,qd] at hw ⊢;omega) (TQ _ ⟨?_,by trivial⟩)
     rw[←he];unfold qq;rw[aJ an]
    ·have FY:qq cur (qd a)=cur-qd a:=aF hw
     refine aa (by simp[qq,qd] at hw ⊢;omega) ?_;rw[aG an];have:=hn (cur-qd a) an (by rw[←he];unfold qq;split<;>split<;>omega);rw[←FY] at this;exact this
  refine key (left-l.length) an ?_;simp only[List.drop_zero];unfold qq
  split<;>split<;>omega
structure agp (p:Pool):Prop where
 t:ajR p.t
 aL:p.aL.length≤140737488355328
 cells:p.cells.length≤140737488355328
 av:p.av.length≤140737488355328
 vol: ∀v∈p.av,v.name.size≤140737488355328
 siz: ∀v∈p.av,v.size≤9223372036854775807
theorem afo (p:Pool) (left:Int) (h0:0≤left∧left≤1048576) (h:agp p):au C Js [dQ p,vI left] (vI (qq left (aN p))) []:=by
 refine(Ze _ _ _ _ _ _ _ _ ⟨_,afn p.t left h0 h.t,?_⟩).run;unfold aN Dr;refine td (fun hb=> ?_) fun hb=>⟨_,an9 _ _ (abw (by simpa using hb) h0) h.aL,?_⟩
 ·rw[ny,ny,UO (by simpa using hb) h0.1];exact c7
 rw[UN (by simpa using hb) h0.1];refine td (fun hb=> ?_) fun hb=>⟨_,alY _ _ (abw (by simpa using hb) h0) h.cells,?_⟩
 ·rw[ny,UO (by simpa using hb) h0.1];exact c7
 rw[UN (by simpa using hb) h0.1];refine td (fun hb=> ?_) fun hb=>⟨_,aoa _ _ (abw (by simpa using hb) h0) h.av h.vol,?_⟩
 ·rw[UO (by simpa using hb) h0.1];exact c7
 rw[UN (by simpa using hb) h0.1];refine td (fun hc=> ?_) fun hc=>c7;refine⟨?_,by trivial⟩
 have hc:qq left (cN p.t+p.aL.length+p.cells.length+(p.av.length+tot qd p.av))<0:=by simpa using hc
 unfold qq at*
 split<;>simp_all<;>omega
theorem ajS (k:Int) (s t:ByteArray) (a b left:Int) (h0:0≤left∧left≤1048576) (hs:s.size≤140737488355328) (ht:t.size≤140737488355328):au C Pp [.ag [iI k,iS s,iS t,iI a,iI b],vI left] (vI (qq left (s.size+t.size))) []:=by
 refine(ad6 _ _ _ _ _ _ _ ?_).run;simp only[LH,iZ];rw[dx (a:=left) an,dx an];unfold qq;simp only[eX,bK]
 split
 ·rw[aJ an];exact c7
 ·split
  ·rw[aJ an];exact c7
  ·rw[aF an];rw[show left-(s.size:Int)-(t.size:Int)=left-((s.size+t.size:Nat):Int) by omega];exact c7
theorem nM (a b c:Int):au C cQ [vI a,vI b,vI c] (vB (iM a b c)) []:=by
 refine(Zk _ _ _ _ ?_).run;simp only[gy,bK,iM]
 split<;>simp_all<;>omega
theorem tE (a b c:Int):au C dU [vI a,vI b,vI c] (vB (iM a b c)) []:=by
 refine(ad4 _ _ _ _ ?_).run;simp only[gy,bK,iM]
 split<;>simp_all<;>omega
@[simp] theorem w8 (a b c:Int) (q:Bool):au C cQ [vI a,vI b,vI c] (vB q) []↔q=iM a b c:=vO (nM a b c)
@[simp] theorem DC (a b c:Int) (q:Bool):au C dU [vI a,vI b,vI c] (vB q) []↔q=iM a b c:=vO (tE a b c)
theorem V0 (b a k c g:Int):au C AA [.ag [iI b,iI a,iI k,iI c,iI g]] (vB (j8 ⟨b,a,k,c,g⟩)) []:=by
 refine(abX _ _ _ _ _ _ ?_).run;simp only[w8,dN,j8,bF,bY,bK]
 cases iM b 0 15<;>cases iM a 1 60<;>cases iM k 0 2<;>by_cases h:k=1<;>by_cases h1:c=0<;>by_cases h2:g=0<;>cases iM c 0 23<;>simp_all
theorem V2 (b a k c g:Int):au C Az [.ag [iI b,iI a,iI k,iI c,iI g]] (vB (j8 ⟨b,a,k,c,g⟩)) []:=by
 refine(abH _ _ _ _ _ _ ?_).run;simp only[DC,dN,j8,bF,bY,bK]
 cases iM b 0 15<;>cases iM a 1 60<;>cases iM k 0 2<;>by_cases h:k=1<;>by_cases h1:c=0<;>by_cases h2:g=0<;>cases iM c 0 23<;>simp_all
@[simp] theorem NA (b a k c g:Int) (q:Bool):au C AA [.ag [iI b,iI a,iI k,iI c,iI g]] (vB q) []↔q=j8 ⟨b,a,k,c,g⟩:=vO (V0 b a k c g)
@[simp] theorem NC (b a k c g:Int) (q:Bool):au C Az [.ag [iI b,iI a,iI k,iI c,iI g]] (vB q) []↔q=j8 ⟨b,a,k,c,g⟩:=vO (V2 b a k c g)
@[simp] theorem JH (b a k c g b' a' k' c' g':Int) (q:Bool):au C zS [.ag [iI b,iI a,iI k,iI c,iI g],.ag [iI b',iI a',iI k',iI c',iI g']] (vB q) []↔q=gf ⟨b,a,k,c,g⟩ ⟨b',a',k',c',g'⟩:=vO (by
  refine(WM _ _ _ _ _ _ _ _ _ _ _ ?_).run;simp only[eX,bF,bK,gf]
  by_cases h1:b<b'<;>by_cases h2:b=b'<;>simp_all)
@[simp] theorem JI (b a k c g b' a' k' c' g':Int) (q:Bool):au C zQ [.ag [iI b,iI a,iI k,iI c,iI g],.ag [iI b',iI a',iI k',iI c',iI g']] (vB q) []↔q=gf ⟨b,a,k,c,g⟩ ⟨b',a',k',c',g'⟩:=vO (by
  refine(Ww _ _ _ _ _ _ _ _ _ _ _ ?_).run;simp only[eX,bF,bY,bK,gf]
  by_cases h2:b=b'<;>simp_all)
@[simp] theorem RT (b a k c g b' a' k' c' g':Int) (q:Bool):au C uW [.ag [iI b,iI a,iI k,iI c,iI g],.ag [iI b',iI a',iI k',iI c',iI g']] (vB q) []↔q=qe ⟨b,a,k,c,g⟩ ⟨b',a',k',c',g'⟩:=vO (by
  refine(TO _ _ _ _ _ _ _ _ _ _ _ ?_).run;simp only[eX,bF,bY,bK,qe]
  by_cases h2:b=b'<;>simp_all)
@[simp] theorem RU (b a k c g b' a' k' c' g':Int) (q:Bool):au C uV [.ag [iI b,iI a,iI k,iI c,iI g],.ag [iI b',iI a',iI k',iI c',iI g']] (vB q) []↔q=qe ⟨b,a,k,c,g⟩ ⟨b',a',k',c',g'⟩:=vO (by
  refine(Tg _ _ _ _ _ _ _ _ _ _ _ ?_).run;simp only[eX,bF,bY,bK,qe]
  by_cases h2:b=b'<;>simp_all)
theorem qZ (l:List Key) (x:Key) (hl:l.length≤1073741824):au C cD [dP l,uG x] (dP (iP l x)) []:=by
 refine(YK _ _ _ _ _ _ _ ?_).run
 have key: ∀(put:Bool) (acc:List Key),acc.length+(l.drop 0).length≤l.length+(if put then 1 else 0)→acc++iO x put (l.drop 0)=iP l x→ah C cD ay 4 0 (iK (l.map bP) put ((0:Nat):Int) x.b x.a x.k x.c x.g (acc.map bP)) (fun u st=>ax C cD ay u st fun r fs=>r=dP (iP l x)∧fs=[]):=by
  refine bh l (fun i=> ∀(put:Bool) (acc:List Key),acc.length+(l.drop i).length≤l.length+(if put then 1 else 0)→acc++iO x put (l.drop i)=iP l x→ah C cD ay 4 0 (iK (l.map bP) put i x.b x.a x.k x.c x.g (acc.map bP)) _) ?_ ?_
  ·intro put acc hb he
   refine HP _ _ _ _ _ _ _ _ _ _ (aa dh (Ta _ _ _ _ _ _ _ _ _ _ _ ?_));simp only[BQ,eD,qH,dB,bY,cW,ct]
   have hb2:acc.length≤l.length+1:=by simp at hb;split at hb<;>omega
   rw[cT an];rw[eK] at he
   cases put<;>simp[iO] at he ⊢ <;>rw[←he]<;>simp
  ·intro i a hi ha hd _ hn put acc hb he
   rw[hd] at hb he;simp only[gn] at hb
   have hb':acc.length+(List.drop (i+1) l).length+1≤l.length+1:=by split at hb<;>omega
   refine HP _ _ _ _ _ _ _ _ _ _ (ai fj ?_);simp only[lT,aI,ha,aY,dA,JI,RU,dN,bY,eD,BQ,qH,dB,cW,ct,cM,gX];simp (disch:=omega) only[cT,aG,lE];simp only[iO] at he
   cases put<;>cases hk:gf a x<;>cases hs:qe a x<;>simp only[lE,mw]<;>simp[hk,hs] at he hb<;>exact hn _ _ (by simp at hb ⊢;omega) (by simpa using he)
 exact key false [] dh rfl
@[simp] theorem XK (l:List Key) (hl:l.length≤1073741824) (b a k c g:Int) (q:RR):au C cD [.c (.sub 5 (l.map bP)),.ag [iI b,iI a,iI k,iI c,iI g]] (.c (.sub 5 q)) []↔q=(iP l ⟨b,a,k,c,g⟩).map bP:=ac9 (qZ l ⟨b,a,k,c,g⟩ hl)
theorem vg (l:List Key) (x:Key) (hl:l.length≤1073741824):au C eO [dP l,uG x] (dP (iP l x)) []:=by
 refine(ZB _ _ _ _ _ _ _ ?_).run
 have key: ∀(put:Bool) (acc:List Key),acc.length+(l.drop 0).length≤l.length+(if put then 1 else 0)→acc++iO x put (l.drop 0)=iP l x→ah C eO ay 4 0 (iL put (l.map bP) ((0:Nat):Int) x.b x.a x.k x.c x.g (acc.map bP)) (fun u st=>ax C eO ay u st fun r fs=>r=dP (iP l x)∧fs=[]):=by
  refine bh l (fun i=> ∀(put:Bool) (acc:List Key),acc.length+(l.drop i).length≤l.length+(if put then 1 else 0)→acc++iO x put (l.drop i)=iP l x→ah C eO ay 4 0 (iL put (l.map bP) i x.b x.a x.k x.c x.g (acc.map bP)) _) ?_ ?_
  ·intro put acc hb he
   refine Iz _ _ _ _ _ _ _ _ _ _ (aa dh (Up _ _ _ _ _ _ _ _ _ _ _ _ ?_));simp only[BQ,eD,qH,dB,bY,cW,ct]
   have hb2:acc.length≤l.length+1:=by simp at hb;split at hb<;>omega
   rw[cT an];rw[eK] at he
   cases put<;>simp[iO] at he ⊢ <;>rw[←he]<;>simp
  ·intro i a hi ha hd _ hn put acc hb he
   rw[hd] at hb he;simp only[gn] at hb
   have hb':acc.length+(List.drop (i+1) l).length+1≤l.length+1:=by split at hb<;>omega
   refine Iz _ _ _ _ _ _ _ _ _ _ (ai fj ?_);simp only[lT,aI,ha,aY,dA,JH,RT,dN,bY,eD,BQ,qH,dB,cW,ct,cM,gX];simp (disch:=omega) only[cT,aG,lE];simp only[iO] at he
   cases put<;>cases hk:gf a x<;>cases hs:qe a x<;>simp only[lE,mw]<;>simp[hk,hs] at he hb<;>exact hn _ _ (by simp at hb ⊢;omega) (by simpa using he)
 exact key false [] dh rfl
@[simp] theorem XL (l:List Key) (hl:l.length≤1073741824) (b a k c g:Int) (q:RR):au C eO [.c (.sub 5 (l.map bP)),.ag [iI b,iI a,iI k,iI c,iI g]] (.c (.sub 5 q)) []↔q=(iP l ⟨b,a,k,c,g⟩).map bP:=ac9 (vg l ⟨b,a,k,c,g⟩ hl)
theorem L6 (old new:List Key) (hl:old.length+new.length≤1073741824):au C gE [dP old,dP new] (dP (dS old new)) []:=by
 refine(QS _ _ _ ?_).run;rw[ni,cT fj];refine ai rfl ?_
 have key: ∀(acc:List Key),acc.length+(new.drop 0).length≤old.length+new.length→dS acc (new.drop 0)=dS old new→ah C gE ak 4 0 (nP (new.map bP) ((0:Nat):Int) (acc.map bP)) (fun u st=>ax C gE ak u st fun r fs=>r=(dP (dS old new))∧fs=[]):=by
  refine bh new (fun i=> ∀(acc:List Key),acc.length+(new.drop i).length≤old.length+new.length→dS acc (new.drop i)=dS old new→ah C gE ak 4 0 (nP (new.map bP) i (acc.map bP)) (fun u st=>ax C gE ak u st fun r fs=>r=(dP (dS old new))∧fs=[])) ?_ ?_
  ·intro acc h0 h1
   refine Bj _ _ _ _ (aa dh (MD _ _ _ _ _ ?_));rw[eK] at h1;rw[←h1];exact c7
  ·intro i a hi ha hd ht hn acc h0 h1
   refine Bj _ _ _ _ (ai fj ?_);rw[hd] at h0 h1;simp only[gn] at h0;simp only[lT,XK acc an,aI,ha,aY,dA,dN,bY,fH,ij,eD,fI,dW,fJ,fK,iq,cW,natAdd,ct,cM,gX,dB,j7];rw[aG an];have h2:=tj acc a;exact hn _ an (by rw[←h1];rfl)
 exact key old dh rfl
theorem PA (old new:List Key) (hl:old.length+new.length≤1073741824) (q:RR):au C gE [dP old,dP new] (.c (.sub 5 q)) []↔q=(dS old new).map bP:=ac9 (L6 old new hl)
theorem DD (l:List Key) (hl:l.length≤1073741824):au C fm [dP l] (dP (si l)) []:=by
 refine(adW _ _ ?_).run
 have key: ∀(acc:List Key),acc.length+(l.drop 0).length≤l.length→acc++si (l.drop 0)=si l→ah C fm ak 4 0 (rT (l.map bP) ((0:Nat):Int) (acc.map bP)) (fun u st=>ax C fm ak u st fun r fs=>r=(dP (si l))∧fs=[]):=by
  refine bh l (fun i=> ∀(acc:List Key),acc.length+(l.drop i).length≤l.length→acc++si (l.drop i)=si l→ah C fm ak 4 0 (rT (l.map bP) i (acc.map bP)) (fun u st=>ax C fm ak u st fun r fs=>r=(dP (si l))∧fs=[])) ?_ ?_
  ·intro acc h0 h1
   refine Lk _ _ _ _ (aa dh (Yp _ _ _ _ _ ?_));rw[eK] at h1;simp[si] at h1;simp[si,h1]
  ·intro i a hi ha hd ht hn acc h0 h1
   refine Lk _ _ _ _ (ai fj ?_);rw[hd] at h0 h1;simp only[gn] at h0;simp only[lT,BQ,qH,bF,bK,aI,ha,aY,dA,dN,bY,fH,ij,eD,fI,dW,fJ,fK,iq,cW,natAdd,ct,cM,gX,dB,j7];simp (disch:=omega) only[cT,aG,lE]
   by_cases hk:a.k=0
   ·rw[aJ hk]
    exact hn _ an (by rw[←h1];simp[si,hk])
   ·rw[aF hk]
    exact hn (acc++[a]) (by simp only[cM,gX];omega) (by rw[←h1];simp[si,hk])
 exact key [] dh rfl
theorem B5 (n:List (List Key)) (hb:n.length≤1073741824) (hl:tot cg n≤1073741824):au C bw [iu n] (dP (aU n)) []:=by
 refine(TF _ _ ?_).run
 have key: ∀(acc:List Key),acc.length+tot cg (n.drop 0)≤tot cg n→(n.drop 0).foldl dS acc=z8 n→ah C bw ak 4 0 (pF ((0:Nat):Int) (n.map cZ) (acc.map bP)) (fun u st=>ax C bw ak u st fun r fs=>r=(dP (aU n))∧fs=[]):=by
  refine bh n (fun i=> ∀(acc:List Key),acc.length+tot cg (n.drop i)≤tot cg n→(n.drop i).foldl dS acc=z8 n→ah C bw ak 4 0 (pF i (n.map cZ) (acc.map bP)) (fun u st=>ax C bw ak u st fun r fs=>r=(dP (aU n))∧fs=[])) ?_ ?_
  ·intro acc h0 h1
   refine C8 _ _ _ _ (aa dh (Ou _ _ _ _ _ ?_));rw[eK] at h0 h1;simp only[List.foldl_nil] at h1;refine⟨_,DD acc an,?_⟩;rw[h1];exact c7
  ·intro i a hi ha hd ht hn acc h0 h1
   refine C8 _ _ _ _ (ai fj ?_);rw[hd] at h0 h1;simp only[tot,cg] at h0;simp only[xR,PA acc a an,aI,ha,aY,dA,dN,bY,fH,ij,eD,fI,dW,fJ,fK,iq,cW,natAdd,ct,cM,gX,dB,j7];rw[aG an];have h2:=x8 a acc;exact hn _ an (by rw[←h1];rfl)
 exact key [] dh rfl
theorem gu (n:List (List Key)) (hb:n.length≤1073741824) (hl:tot cg n≤1073741824) (q:RR):au C bw [.ag [.sub 1 (n.map cZ)]] (.c (.sub 5 q)) []↔q=(aU n).map bP:=ac9 (B5 n hb hl)
theorem kk (t:Tree) (hl:cN t≤1073741824):au C eI [ef t] (dP (aC t)) []:=by
 refine(Tx _ _ _ ?_).run
 have key: ∀(acc:List Key),acc.length+tot aO (t.nodes.drop 0)≤tot aO t.nodes→acc++(t.nodes.drop 0).flatMap aU=aC t→ah C eI ak 4 0 (o9 ((0:Nat):Int) (t.aD.map bS) (t.nodes.map aR) (acc.map bP)) (fun u st=>ax C eI ak u st fun r fs=>r=(dP (aC t))∧fs=[]):=by
  refine bh t.nodes (fun i=> ∀(acc:List Key),acc.length+tot aO (t.nodes.drop i)≤tot aO t.nodes→acc++(t.nodes.drop i).flatMap aU=aC t→ah C eI ak 4 0 (o9 i (t.aD.map bS) (t.nodes.map aR) (acc.map bP)) (fun u st=>ax C eI ak u st fun r fs=>r=(dP (aC t))∧fs=[])) ?_ ?_
  ·intro acc h0 h1
   refine C4 _ _ _ _ _ (aa dh (Ok _ _ _ _ _ _ ?_));rw[eK] at h1;simp at h1;simp[h1]
  ·intro i a hi ha hd ht hn acc h0 h1
   refine C4 _ _ _ _ _ (ai (by have:=hi;unfold cN wS at hl;simp;omega) ?_);have hz:a.length+tot cg a≤tot aO t.nodes:=oF (w:=aO) ha;rw[hd] at h0 h1;simp only[tot,aO] at h0;unfold cN wS at hl;have h2:=dy a;simp only[agf,tP,gu a an an,ni,aI,ha,aY,dA,dN,bY,fH,ij,eD,fI,dW,fJ,fK,iq,cW,natAdd,ct,cM,gX,dB,j7];rw[cT an,aG an];refine ai rfl ?_;rw[←ux];exact hn _ fj (by rw[←h1];simp)
 exact key [] dh rfl
theorem RV (t:Tree) (b:Int) (hl:cN t≤1073741824):au C jW [ef t,vI b] (dP (ja t b)) []:=by
 refine(ZD _ _ _ _ ?_).run;refine⟨_,kk t hl,?_⟩
 have key: ∀(acc:List Key),acc.length+((aC t).drop 0).length≤(aC t).length→acc++((aC t).drop 0).filter (fun k=>decide (k.b=b))=ja t b→ah C jW ay 4 0 (ov b ((0:Nat):Int) (acc.map bP) ((aC t).map bP)) (fun u st=>ax C jW ay u st fun r fs=>r=(dP (ja t b))∧fs=[]):=by
  refine bh (aC t) (fun i=> ∀(acc:List Key),acc.length+((aC t).drop i).length≤(aC t).length→acc++((aC t).drop i).filter (fun k=>decide (k.b=b))=ja t b→ah C jW ay 4 0 (ov b i (acc.map bP) ((aC t).map bP)) (fun u st=>ax C jW ay u st fun r fs=>r=(dP (ja t b))∧fs=[])) ?_ ?_
  ·intro acc h0 h1
   refine IB _ _ _ _ _ (aa dh (Us _ _ _ _ _ _ ?_));rw[eK] at h1;simp at h1;simp[h1]
  ·intro i a hi ha hd ht hn acc h0 h1
   refine IB _ _ _ _ _ (ai fj ?_);rw[hd] at h0 h1;simp only[gn] at h0;have hz:=fz t;simp only[lT,BQ,qH,bF,bK,aI,ha,aY,dA,dN,bY,fH,ij,eD,fI,dW,fJ,fK,iq,cW,natAdd,ct,cM,gX,dB,j7];simp (disch:=omega) only[cT,aG,lE]
   by_cases hk:a.b=b
   ·rw[aJ hk]
    exact hn (acc++[a]) (by simp only[cM,gX];omega) (by rw[←h1];simp[hk])
   ·rw[aF hk]
    exact hn _ an (by rw[←h1];simp[hk])
 exact key [] dh rfl
theorem oU (l:List Key) (hl:l.length≤2147483648):au C rQ [dP l] (dP l) []:=by
 refine(SJ _ _ ?_).run;rw[ni,cT fj];exact c7
theorem L7 (old new:List Key) (hl:old.length+new.length≤1073741824):au C gG [dP old,dP new] (dP (dS old new)) []:=by
 refine(Qo _ _ _ ?_).run;refine⟨_,oU old an,?_⟩
 have key: ∀(acc:List Key),acc.length+(new.drop 0).length≤old.length+new.length→dS acc (new.drop 0)=dS old new→ah C gG ak 4 0 (nO (new.map bP) ((0:Nat):Int) (acc.map bP)) (fun u st=>ax C gG ak u st fun r fs=>r=(dP (dS old new))∧fs=[]):=by
  refine bh new (fun i=> ∀(acc:List Key),acc.length+(new.drop i).length≤old.length+new.length→dS acc (new.drop i)=dS old new→ah C gG ak 4 0 (nO (new.map bP) i (acc.map bP)) (fun u st=>ax C gG ak u st fun r fs=>r=(dP (dS old new))∧fs=[])) ?_ ?_
  ·intro acc h0 h1
   refine Bc _ _ _ _ (aa dh (Mv _ _ _ _ _ _ ?_));rw[eK] at h1;rw[←h1];exact c7
  ·intro i a hi ha hd ht hn acc h0 h1
   refine Bc _ _ _ _ (ai fj ?_);rw[hd] at h0 h1;simp only[gn] at h0;simp only[lT,XL acc an,aI,ha,aY,dA,dN,bY,fH,ij,eD,fI,dW,fJ,fK,iq,cW,natAdd,ct,cM,gX,dB,j7];rw[aG an];have h2:=tj acc a;exact hn _ an (by rw[←h1];rfl)
 exact key old dh rfl
theorem PB (old new:List Key) (hl:old.length+new.length≤1073741824) (q:RR):au C gG [dP old,dP new] (.c (.sub 5 q)) []↔q=(dS old new).map bP:=ac9 (L7 old new hl)
theorem K9 (l:List Key) (hl:l.length≤1073741824):au C mA [dP l] (dP (si l)) []:=by
 refine(ad5 _ _ ?_).run
 have key: ∀(acc:List Key),acc.length+(l.drop 0).length≤l.length→acc++si (l.drop 0)=si l→ah C mA ak 4 0 (rU (l.map bP) ((0:Nat):Int) (acc.map bP)) (fun u st=>ax C mA ak u st fun r fs=>r=(dP (si l))∧fs=[]):=by
  refine bh l (fun i=> ∀(acc:List Key),acc.length+(l.drop i).length≤l.length→acc++si (l.drop i)=si l→ah C mA ak 4 0 (rU (l.map bP) i (acc.map bP)) (fun u st=>ax C mA ak u st fun r fs=>r=(dP (si l))∧fs=[])) ?_ ?_
  ·intro acc h0 h1
   refine Ll _ _ _ _ (aa dh (YU _ _ _ _ _ _ ?_));rw[eK] at h1;simp[si] at h1;simp[si,h1]
  ·intro i a hi ha hd ht hn acc h0 h1
   refine Ll _ _ _ _ (ai fj ?_);rw[hd] at h0 h1;simp only[gn] at h0;simp only[lT,BQ,qH,bF,bK,aI,ha,aY,dA,dN,bY,fH,ij,eD,fI,dW,fJ,fK,iq,cW,natAdd,ct,cM,gX,dB,j7];simp (disch:=omega) only[cT,aG,lE]
   by_cases hk:a.k=0
   ·rw[aJ hk]
    exact hn _ an (by rw[←h1];simp[si,hk])
   ·rw[aF hk]
    exact hn (acc++[a]) (by simp only[cM,gX];omega) (by rw[←h1];simp[si,hk])
 exact key [] dh rfl
theorem ND (n:List (List Key)) (hb:n.length≤1073741824) (hl:tot cg n≤1073741824):au C dw [iu n] (dP (aU n)) []:=by
 refine(TG _ _ ?_).run
 have key: ∀(acc:List Key),acc.length+tot cg (n.drop 0)≤tot cg n→(n.drop 0).foldl dS acc=z8 n→ah C dw ak 4 0 (pG (n.map cZ) ((0:Nat):Int) (acc.map bP)) (fun u st=>ax C dw ak u st fun r fs=>r=(dP (aU n))∧fs=[]):=by
  refine bh n (fun i=> ∀(acc:List Key),acc.length+tot cg (n.drop i)≤tot cg n→(n.drop i).foldl dS acc=z8 n→ah C dw ak 4 0 (pG (n.map cZ) i (acc.map bP)) (fun u st=>ax C dw ak u st fun r fs=>r=(dP (aU n))∧fs=[])) ?_ ?_
  ·intro acc h0 h1
   refine C9 _ _ _ _ (aa dh (Ov _ _ _ _ _ _ ?_));rw[eK] at h0 h1;simp only[List.foldl_nil] at h1;refine⟨_,K9 acc an,?_⟩;rw[h1];exact c7
  ·intro i a hi ha hd ht hn acc h0 h1
   refine C9 _ _ _ _ (ai fj ?_);rw[hd] at h0 h1;simp only[tot,cg] at h0;simp only[xR,PB acc a an,aI,ha,aY,dA,dN,bY,fH,ij,eD,fI,dW,fJ,fK,iq,cW,natAdd,ct,cM,gX,dB,j7];rw[aG an];have h2:=x8 a acc;exact hn _ an (by rw[←h1];rfl)
 exact key [] dh rfl
theorem kN (n:List (List Key)) (hb:n.length≤1073741824) (hl:tot cg n≤1073741824) (q:RR):au C dw [.ag [.sub 1 (n.map cZ)]] (.c (.sub 5 q)) []↔q=(aU n).map bP:=ac9 (ND n hb hl)
theorem ko (t:Tree) (hl:cN t≤1073741824):au C fG [ef t] (dP (aC t)) []:=by
 refine(SX _ _ _ ?_).run
 have key: ∀(acc:List Key),acc.length+tot aO (t.nodes.drop 0)≤tot aO t.nodes→acc++(t.nodes.drop 0).flatMap aU=aC t→ah C fG ak 4 0 (oZ (t.nodes.map aR) ((0:Nat):Int) (acc.map bP)) (fun u st=>ax C fG ak u st fun r fs=>r=(dP (aC t))∧fs=[]):=by
  refine bh t.nodes (fun i=> ∀(acc:List Key),acc.length+tot aO (t.nodes.drop i)≤tot aO t.nodes→acc++(t.nodes.drop i).flatMap aU=aC t→ah C fG ak 4 0 (oZ (t.nodes.map aR) i (acc.map bP)) (fun u st=>ax C fG ak u st fun r fs=>r=(dP (aC t))∧fs=[])) ?_ ?_
  ·intro acc h0 h1
   refine CV _ _ _ _ (aa dh (N6 _ _ _ _ _ _ ?_));rw[eK] at h1;simp at h1;simp[h1]
  ·intro i a hi ha hd ht hn acc h0 h1
   refine CV _ _ _ _ (ai (by have:=hi;unfold cN wS at hl;simp;omega) ?_);have hz:a.length+tot cg a≤tot aO t.nodes:=oF (w:=aO) ha;rw[hd] at h0 h1;simp only[tot,aO] at h0;unfold cN wS at hl;have h2:=dy a;simp only[agf,tP,kN a an an,ni,aI,ha,aY,dA,dN,bY,fH,ij,eD,fI,dW,fJ,fK,iq,cW,natAdd,ct,cM,gX,dB,j7];rw[cT an,aG an];refine ai rfl ?_;rw[←ux];exact hn _ fj (by rw[←h1];simp)
 exact key [] dh rfl
theorem RW (t:Tree) (b:Int) (hl:cN t≤1073741824):au C jX [ef t,vI b] (dP (ja t b)) []:=by
 refine(YX _ _ _ _ ?_).run;refine⟨_,ko t hl,?_⟩
 have key: ∀(acc:List Key),acc.length+((aC t).drop 0).length≤(aC t).length→acc++((aC t).drop 0).filter (fun k=>decide (k.b=b))=ja t b→ah C jX ak 4 0 (og b ((aC t).map bP) ((0:Nat):Int) (acc.map bP)) (fun u st=>ax C jX ak u st fun r fs=>r=(dP (ja t b))∧fs=[]):=by
  refine bh (aC t) (fun i=> ∀(acc:List Key),acc.length+((aC t).drop i).length≤(aC t).length→acc++((aC t).drop i).filter (fun k=>decide (k.b=b))=ja t b→ah C jX ak 4 0 (og b ((aC t).map bP) i (acc.map bP)) (fun u st=>ax C jX ak u st fun r fs=>r=(dP (ja t b))∧fs=[])) ?_ ?_
  ·intro acc h0 h1
   refine HX _ _ _ _ _ (aa dh (Tl _ _ _ _ _ _ _ ?_));rw[eK] at h1;simp at h1;simp[h1]
  ·intro i a hi ha hd ht hn acc h0 h1
   refine HX _ _ _ _ _ (ai fj ?_);rw[hd] at h0 h1;simp only[gn] at h0;have hz:=fz t;simp only[lT,BQ,qH,bF,bK,aI,ha,aY,dA,dN,bY,fH,ij,eD,fI,dW,fJ,fK,iq,cW,natAdd,ct,cM,gX,dB,j7];simp (disch:=omega) only[cT,aG,lE]
   by_cases hk:a.b=b
   ·rw[aJ hk]
    exact hn (acc++[a]) (by simp only[cM,gX];omega) (by rw[←h1];simp[hk])
   ·rw[aF hk]
    exact hn _ an (by rw[←h1];simp[hk])
 exact key [] dh rfl
theorem qg (l:List Age) (id:Int) (hl:l.length≤1073741824):au C ez [gL l,vI id] (vI (fA l id)) []:=by
 refine(abI _ _ _ ?_).run
 have key:fe (fun a:Age=>decide (a.id=id)) (l.drop 0) ((0:Nat):Int)=fe (fun a:Age=>decide (a.id=id)) l 0→ah C ez aj 4 0 (tG (l.map bW) id ((0:Nat):Int)) (fun u st=>ax C ez aj u st fun r fs=>r=vI (fA l id)∧fs=[]):=by
  refine bh l (fun i=>fe (fun a:Age=>decide (a.id=id)) (l.drop i) (i:Int)=fe (fun a:Age=>decide (a.id=id)) l 0→ah C ez aj 4 0 (tG (l.map bW) id i) _) ?_ ?_
  ·intro h0
   refine J2 _ _ _ _ (aa dh (Wu _ _ _ _ _ ?_));rw[eK] at h0;simp only[fe] at h0;change _=vI (fe (fun a:Age=>decide (a.id=id)) l 0)∧_;rw[←h0];exact c7
  ·intro i a hi ha hd uD hn h0
   refine J2 _ _ _ _ (ai fj ?_);rw[hd] at h0;simp only[fe] at h0;simp only[wR,bF,bK,aI,ha,aY,dA,dN,bY,fH,ij,eD,fI,dW,fJ,fK,iq,cW,natAdd,ct,cM,gX,dB,j7];rw[aG an]
   split at h0
   ·rename_i hp
    have hp:=yh hp
    first|rw[aJ hp]|rw[aJ hp.symm]
    refine Wt _ _ ?_;rw[h0];exact c7
   ·rename_i hp
    have hp: ¬_:=fun h=>hp (gq h)
    first|rw[aF hp]|rw[aF (fun h=>hp h.symm)]
    exact hn h0
 exact key rfl
@[simp] theorem V3 (a b id:Int) (q:Bool):au C zR [.ag [iI a,iI b],.bx [iI id]] (vB q) []↔q=decide (a=id):=vO (by
  refine(W3 _ _ _ _ ?_).run
  simp)
theorem XM (l:List Age) (id:Int) (hl:l.length≤1073741824):au C dL [gL l,.fn zR [[iI id]]] (vI (fA l id)) []:=by
 refine(u5 _ _ _ ?_).run
 have key:fe (fun a:Age=>decide (a.id=id)) (l.drop 0) ((0:Nat):Int)=fe (fun a:Age=>decide (a.id=id)) l 0→ah C dL aj 4 0 (eH (l.map bW) ((0:Nat):Int) id) (fun u st=>ax C dL aj u st fun r fs=>r=vI (fA l id)∧fs=[]):=by
  refine bh l (fun i=>fe (fun a:Age=>decide (a.id=id)) (l.drop i) (i:Int)=fe (fun a:Age=>decide (a.id=id)) l 0→ah C dL aj 4 0 (eH (l.map bW) i id) _) ?_ ?_
  ·intro h0
   refine mI _ _ _ _ (aa dh (uu _ _ _ _ _ _ ?_));rw[eK] at h0;simp only[fe] at h0;change _=vI (fe (fun a:Age=>decide (a.id=id)) l 0)∧_;rw[←h0];exact c7
  ·intro i a hi ha hd uD hn h0
   refine mI _ _ _ _ (ai fj ?_);rw[hd] at h0;simp only[fe] at h0;simp only[wR,bF,V3,bK,aI,ha,aY,dA,dN,bY,fH,ij,eD,fI,dW,fJ,fK,iq,cW,natAdd,ct,cM,gX,dB,j7];rw[aG an]
   split at h0
   ·rename_i hp
    have hp:=yh hp
    first|rw[aJ hp]|rw[aJ hp.symm]
    refine ur _ _ _ ?_;rw[h0];exact c7
   ·rename_i hp
    have hp: ¬_:=fun h=>hp (gq h)
    first|rw[aF hp]|rw[aF (fun h=>hp h.symm)]
    exact hn h0
 exact key rfl
theorem w9 (l:List Age) (id:Int) (hl:l.length≤1073741824):au C jb [gL l,vI id] (vI (fA l id)) []:=(abQ _ _ _ ⟨_,XM l id hl,rfl,by trivial⟩).run
theorem FP (l:List Age) (id:Int) (hl:l.length≤1073741824) (q:Int):au C ez [gL l,vI id] (vI q) []↔q=fA l id:=ajj (qg l id hl)
theorem FQ (l:List Age) (id:Int) (hl:l.length≤1073741824) (q:Int):au C jb [gL l,vI id] (vI q) []↔q=fA l id:=ajj (w9 l id hl)
theorem F9 (l:List Age) (id:Int) (hl:l.length≤1073741824):au C kL [gL l,vI id] (oD (pathOf l id)) []:=by
 refine(ZC _ _ _ ⟨_,qg l id hl,?_⟩).run
 have key: ∀(n:Nat) (id':Int) (acc:List Int),acc.length+n=l.length+1→acc++Jg l n id'=pathOf l id→ah C kL kZ 4 0 (vE (l.map bW) (fA l id') (acc.map bS)) (fun u st=>ax C kL kZ u st fun r fs=>r=oD (pathOf l id)∧fs=[]):=by
  intro n
  induction n with
  |zero=>
   intro id' acc h0 h1;simp only[Jg,qv] at h1;refine zd _ _ _ _ (td (fun _=> ?_) fun _=>IA _ _ _ _ (by rw[h1];exact c7));exact aa fj (Uq _ _ _ _ _ (by rw[h1];exact c7))
  |succ n ih=>
   intro id' acc h0 h1;simp only[Jg] at h1
   by_cases h:fA l id'<0
   ·rw[aJ h,qv] at h1
    exact zd _ _ _ _ (aa fj (IA _ _ _ _ (by rw[h1];exact c7)))
   ·rw[aF h] at h1
    obtain⟨a,ha,he⟩:=Ky l id' h;rw[ha] at h1;refine zd _ _ _ _ (ai fj (ai fj ?_));simp only[wR,ha,aY,dA,abd,dB,cW,ct];rw[cT an];refine ai rfl ⟨_,qg l a.fr hl,?_⟩
    (try dsimp only)
    rw[UJ];exact ih a.fr (acc++[a.id]) fj (by rw[←h1,he];simp)
 exact key (l.length+1) id [] dh rfl
theorem Ga (l:List Age) (id:Int) (hl:l.length≤1073741824):au C kM [gL l,vI id] (oD (pathOf l id)) []:=by
 refine(YW _ _ _ ?_).run
 have key: ∀(n:Nat) (id':Int) (acc:List Int) (k:Nat),k+n=l.length+1→acc.length=k→acc++Jg l n id'=pathOf l id→ah C kM ak 4 0 (vr (l.map bW) id' k (acc.map bS)) (fun u st=>ax C kM ak u st fun r fs=>r=oD (pathOf l id)∧fs=[]):=by
  intro n
  induction n with
  |zero=>
   intro id' acc k h0 h2 h1;simp only[Jg,qv] at h1;refine HW _ _ _ _ _ (aa ?_ (Tj _ _ _ _ _ _ _ (by rw[h1];exact c7)));rw[aG fj];simp;omega
  |succ n ih=>
   intro id' acc k h0 h2 h1;simp only[Jg] at h1;refine HW _ _ _ _ _ (ai (by rw[aG fj];simp;omega) ⟨_,w9 l id' hl,?_⟩)
   by_cases h:fA l id'<0
   ·rw[aJ h,qv] at h1
    exact ai fj (Ti _ _ _ _ _ _ _ _ (by rw[h1];exact c7))
   ·rw[aF h] at h1
    obtain⟨a,ha,he⟩:=Ky l id' h;rw[ha] at h1;refine aa fj ?_;simp only[wR,ha,aY,dA,abd,dB,cW,ct];rw[cT an];refine ai rfl ?_;rw[UJ,aG an];exact ih a.fr (acc++[id']) (k+1) an fj (by rw[←h1];simp)
 exact key (l.length+1) id [] 0 dh rfl rfl
theorem V4 (l:List Int) (n:Int) (hl:l.length≤1073741824):au C kY [oD l,vI n] (vB (KH l n)) []:=by
 refine(abJ _ _ _ ?_).run
 have key:(l.drop 0).any (fun a:Int=>decide (a=n))=l.any (fun a:Int=>decide (a=n))→ah C kY aj 4 0 (tH (l.map bS) n ((0:Nat):Int)) (fun u st=>ax C kY aj u st fun r fs=>r=vB (KH l n)∧fs=[]):=by
  refine bh l (fun i=>(l.drop i).any (fun a:Int=>decide (a=n))=l.any (fun a:Int=>decide (a=n))→ah C kY aj 4 0 (tH (l.map bS) n i) _) ?_ ?_
  ·intro h0
   refine J3 _ _ _ _ (aa dh (WB _ _ _ _ _ ?_));rw[eK] at h0;simp only[List.any_nil] at h0;show _=vB (KH l n)∧_
   first|unfold KH|unfold qX|skip
   rw[←h0];exact c7
  ·intro i a hi ha hd uD hn h0
   refine J3 _ _ _ _ (ai fj ?_);rw[hd] at h0;simp only[List.any_cons] at h0;simp only[wQ,bF,bK,aI,ha,aY,dA,dN,bY,fH,ij,eD,fI,dW,fJ,fK,iq,cW,natAdd,ct,cM,gX,dB,j7];rw[aG an]
   split
   ·rename_i hp
    refine WA _ ?_
    have e:l.any (fun a:Int=>decide (a=n))=true:=by rw[←h0];simp[hp]
    first|unfold KH|unfold qX|skip
    rw[e];exact c7
   ·rename_i hp
    exact hn (by simpa [hp] using h0)
 exact key rfl
theorem La (p:Pool) (id:Int) (hl:p.av.length≤1073741824):au C nj [dQ p,vI id] (vB (qX p.av id)) []:=by
 refine(aea _ _ _ _ _ _ _ _ ?_).run
 have key:(p.av.drop 0).any (fun v:Vol=>decide (v.cY=id))=p.av.any (fun v:Vol=>decide (v.cY=id))→ah C nj aj 4 0 (uY id ((0:Nat):Int) (p.t.aD.map bS) (p.t.nodes.map aR) (p.aL.map bW) (p.cells.map bQ) (p.av.map cu) p.next) (fun u st=>ax C nj aj u st fun r fs=>r=vB (qX p.av id)∧fs=[]):=by
  refine bh p.av (fun i=>(p.av.drop i).any (fun v:Vol=>decide (v.cY=id))=p.av.any (fun v:Vol=>decide (v.cY=id))→ah C nj aj 4 0 (uY id i (p.t.aD.map bS) (p.t.nodes.map aR) (p.aL.map bW) (p.cells.map bQ) (p.av.map cu) p.next) _) ?_ ?_
  ·intro h0
   refine Ln _ _ _ _ _ _ _ _ _ (aa dh (Zw _ _ _ _ _ _ _ _ _ _ ?_));rw[eK] at h0;simp only[List.any_nil] at h0;show _=vB (qX p.av id)∧_
   first|unfold KH|unfold qX|skip
   rw[←h0];exact c7
  ·intro i a hi ha hd uD hn h0
   refine Ln _ _ _ _ _ _ _ _ _ (ai fj ?_);rw[hd] at h0;simp only[List.any_cons] at h0;simp only[yM,bF,bK,aI,ha,aY,dA,dN,bY,fH,ij,eD,fI,dW,fJ,fK,iq,cW,natAdd,ct,cM,gX,dB,j7];rw[aG an]
   split
   ·rename_i hp
    refine Zv _ _ _ _ _ _ _ ?_
    have e:p.av.any (fun v:Vol=>decide (v.cY=id))=true:=by rw[←h0];simp[hp]
    first|unfold KH|unfold qX|skip
    rw[e];exact c7
   ·rename_i hp
    exact hn (by simpa [hp] using h0)
 exact key rfl
theorem adJ (l:List Int) (n:Int) (hl:l.length≤1073741824):au C fP [oD l,vI n] (vI (fe (fun a:Int=>decide (a=n)) l 0)) []:=by
 refine(ME _ _ _ ?_).run
 have key:fe (fun a:Int=>decide (a=n)) (l.drop 0) ((0:Nat):Int)=fe (fun a:Int=>decide (a=n)) l 0→ah C fP aj 4 0 (lY (l.map bS) n ((0:Nat):Int)) (fun u st=>ax C fP aj u st fun r fs=>r=vI (fe (fun a:Int=>decide (a=n)) l 0)∧fs=[]):=by
  refine bh l (fun i=>fe (fun a:Int=>decide (a=n)) (l.drop i) (i:Int)=fe (fun a:Int=>decide (a=n)) l 0→ah C fP aj 4 0 (lY (l.map bS) n i) _) ?_ ?_
  ·intro h0
   refine yH _ _ _ _ (aa dh (Kd _ _ _ _ _ _ ?_));rw[eK] at h0;simp only[fe] at h0;change _=vI (fe (fun a:Int=>decide (a=n)) l 0)∧_;rw[←h0];exact c7
  ·intro i a hi ha hd uD hn h0
   refine yH _ _ _ _ (ai fj ?_);rw[hd] at h0;simp only[fe] at h0;simp only[wQ,bF,bK,aI,ha,aY,dA,dN,bY,fH,ij,eD,fI,dW,fJ,fK,iq,cW,natAdd,ct,cM,gX,dB,j7];rw[aG an]
   split at h0
   ·rename_i hp
    have hp:=yh hp
    first|rw[aJ hp]|rw[aJ hp.symm]
    refine Kb _ _ ?_;rw[h0];exact c7
   ·rename_i hp
    have hp: ¬_:=fun h=>hp (gq h)
    first|rw[aF hp]|rw[aF (fun h=>hp h.symm)]
    exact hn h0
 exact key rfl
theorem abx (l:List Int) (n:Int) (hl:l.length≤1073741824):au C p6 [oD l,vI n] (vB (KH l n)) []:=by
 refine(II _ _ _ ⟨_,adJ l n hl,?_⟩).run
 (try dsimp only)
 rw[gy,No _ _ _ an];exact c7
theorem Gb (t:Tree) (b:Int) (path:List Int) (hl:cN t≤1073741824) (hp:path.length≤1073741824):au C g7 [ef t,vI b,oD path] (Xl (near (ja t b) path)) []:=by
 refine(Yw _ _ _ _ _ ?_).run;refine⟨_,RV t b hl,?_⟩
 have key: ∀(pr:Key×Bool),((ja t b).drop 0).foldl (Np path) pr=near (ja t b) path→ah C g7 bN 4 0 (kP (path.map bS) pr.2 ((0:Nat):Int) pr.1.b pr.1.a pr.1.k pr.1.c pr.1.g ((ja t b).map bP)) (fun u st=>ax C g7 bN u st fun r fs=>r=(Xl (near (ja t b) path))∧fs=[]):=by
  refine bh (ja t b) (fun i=> ∀(pr:Key×Bool),((ja t b).drop i).foldl (Np path) pr=near (ja t b) path→ah C g7 bN 4 0 (kP (path.map bS) pr.2 i pr.1.b pr.1.a pr.1.k pr.1.c pr.1.g ((ja t b).map bP)) (fun u st=>ax C g7 bN u st fun r fs=>r=(Xl (near (ja t b) path))∧fs=[])) ?_ ?_
  ·intro pr h0
   refine HG _ _ _ _ _ _ _ _ _ _ (aa dh (SK _ _ _ _ _ _ _ _ _ _ _ ?_));rw[eK] at h0;simp only[List.foldl_nil] at h0;rw[h0];exact c7
  ·intro i a hi ha hd ht hn pr h0
   have hk:=VF t b;have hz:=fz t;refine HG _ _ _ _ _ _ _ _ _ _ (ai fj ?_);rw[hd] at h0;simp only[List.foldl_cons] at h0;obtain⟨bk,bf⟩:=pr;have hh: ∀q,au C kY [oD path,vI a.a] (vB q) []↔q=KH path a.a:=fun q=>vO (V4 path a.a hp);simp only[lT,hh,eX,bK,aI,ha,aY,dA,dN,bY,fH,ij,eD,fI,dW,fJ,fK,iq,cW,natAdd,ct,cM,gX,dB,j7];rw[aG an]
   have e:Np path (bk,bf) a=if KH path a.a&&(!bf||decide (bk.a<a.a)) then(a,true) else(bk,bf):=rfl
   rw[e] at h0
   cases h1:KH path a.a<;>cases bf<;>by_cases h2:bk.a<a.a<;>simp[h1,h2] at h0 ⊢ <;>first|exact hn (a,true) h0|exact hn (bk,false) h0|exact hn (bk,true) h0
 exact key (gh,false) rfl
theorem Gc (t:Tree) (b:Int) (path:List Int) (hl:cN t≤1073741824) (hp:path.length≤1073741824):au C g8 [ef t,vI b,oD path] (Xl (near (ja t b) path)) []:=by
 refine(Y9 _ _ _ _ _ ?_).run;refine⟨_,RW t b hl,?_⟩
 have key: ∀(pr:Key×Bool),((ja t b).drop 0).foldl (Np path) pr=near (ja t b) path→ah C g8 ak 4 0 (kQ (path.map bS) pr.2 ((ja t b).map bP) ((0:Nat):Int) pr.1.b pr.1.a pr.1.k pr.1.c pr.1.g) (fun u st=>ax C g8 ak u st fun r fs=>r=(Xl (near (ja t b) path))∧fs=[]):=by
  refine bh (ja t b) (fun i=> ∀(pr:Key×Bool),((ja t b).drop i).foldl (Np path) pr=near (ja t b) path→ah C g8 ak 4 0 (kQ (path.map bS) pr.2 ((ja t b).map bP) i pr.1.b pr.1.a pr.1.k pr.1.c pr.1.g) (fun u st=>ax C g8 ak u st fun r fs=>r=(Xl (near (ja t b) path))∧fs=[])) ?_ ?_
  ·intro pr h0
   refine Ie _ _ _ _ _ _ _ _ _ _ (aa dh (TN _ _ _ _ _ _ _ _ _ _ _ _ ?_));rw[eK] at h0;simp only[List.foldl_nil] at h0;rw[h0];exact c7
  ·intro i a hi ha hd ht hn pr h0
   have hk:=VF t b;have hz:=fz t;refine Ie _ _ _ _ _ _ _ _ _ _ (ai fj ?_);rw[hd] at h0;simp only[List.foldl_cons] at h0;obtain⟨bk,bf⟩:=pr;have hh: ∀q,au C p6 [oD path,vI a.a] (vB q) []↔q=KH path a.a:=fun q=>vO (abx path a.a hp);simp only[lT,hh,eX,bK,aI,ha,aY,dA,dN,bY,fH,ij,eD,fI,dW,fJ,fK,iq,cW,natAdd,ct,cM,gX,dB,j7];rw[aG an]
   have e:Np path (bk,bf) a=if KH path a.a&&(!bf||decide (bk.a<a.a)) then(a,true) else(bk,bf):=rfl
   rw[e] at h0
   cases h1:KH path a.a<;>cases bf<;>by_cases h2:bk.a<a.a<;>simp[h1,h2] at h0 ⊢ <;>first|exact hn (a,true) h0|exact hn (bk,false) h0|exact hn (bk,true) h0
 exact key (gh,false) rfl
@[simp] theorem ye (a:Int) (q:Bool):au C jT [vI a] (vB q) []↔q=iN a:=vO ((Zl _ _ ⟨_,tE _ _ _,rfl,by trivial⟩).run)
theorem RX (l:List Cell) (i gen:Int) (hl:l.length≤1073741824):au C yA [jG l,vI i,vI gen] (tIB (cellAt l i gen)) []:=by
 refine(YR _ _ _ _ ?_).run;simp only[DC,dN,ct,pO,bY,pW];rw[dx an]
 by_cases h:0≤i∧i<l.length
 ·obtain⟨a,ha⟩:=mz h.1 h.2
  have e:iM i 0 ((l.length:Int)-1)=true:=gq an;simp only[e,lE,ha,aY,dA,bF,bK,cellAt]
  cases h1:a.u<;>by_cases h2:a.g=gen<;>simp[h1,h2]
 ·have e:iM i 0 ((l.length:Int)-1)=false:=fO an
  have hn:fE l i=none:=gR h;simp[e,cellAt,hn]
theorem XN (l:List Cell) (hl:l.length≤1073741824) (i gen:Int) (n:Int) (q:Bool):au C yA [jG l,vI i,vI gen] (.tu [(0,[iI n]),(0,[iB q])]) []↔n=(cellAt l i gen).1∧q=(cellAt l i gen).2:=amD (RX l i gen hl)
theorem L8 (l:List Cell) (hl:l.length≤1073741824):au C gC [jG l] (vI (cA l)) []:=by
 refine(QN _ _ ?_).run
 have key: ∀(n:Nat),n+(l.drop 0).length≤l.length→n+cA (l.drop 0)=cA l→ah C gC ak 4 0 (lB (l.map bQ) n ((0:Nat):Int)) (fun u st=>ax C gC ak u st fun r fs=>r=(vI (cA l))∧fs=[]):=by
  refine bh l (fun i=> ∀(n:Nat),n+(l.drop i).length≤l.length→n+cA (l.drop i)=cA l→ah C gC ak 4 0 (lB (l.map bQ) n i) (fun u st=>ax C gC ak u st fun r fs=>r=(vI (cA l))∧fs=[])) ?_ ?_
  ·intro n h0 h1
   refine Bh _ _ _ _ (aa dh (MB _ _ _ _ _ ?_));rw[eK] at h1;simp[cA] at h1;simp[h1,cA]
  ·intro i a hi ha hd ht hn n h0 h1
   refine Bh _ _ _ _ (ai fj ?_);rw[hd] at h0 h1;simp only[gn] at h0;simp only[pW,aI,ha,aY,dA,dN,bY,fH,ij,eD,fI,dW,fJ,fK,iq,cW,natAdd,ct,cM,gX,dB,j7];rw[aG an,aG an]
   cases hu:a.u
   ·exact hn n an (by rw[←h1];simp[cA,hu])
   ·exact hn (n+1) an (by rw[←h1];simp[cA,hu];omega)
 exact key 0 dh dh
theorem PC (l:List Cell) (hl:l.length≤1073741824):au C e7 [jG l] (vB ((l.all kU&&decide (l.length=24)))) []:=by
 refine(W9 _ _ ?_).run
 have key:((l.drop 0).all kU&&decide (l.length=24))=(l.all kU&&decide (l.length=24))→ah C e7 aj 4 0 (lD (l.map bQ) ((0:Nat):Int)) (fun u st=>ax C e7 aj u st fun r fs=>r=vB ((l.all kU&&decide (l.length=24)))∧fs=[]):=by
  refine bh l (fun i=>((l.drop i).all kU&&decide (l.length=24))=(l.all kU&&decide (l.length=24))→ah C e7 aj 4 0 (lD (l.map bQ) i) (fun u st=>ax C e7 aj u st fun r fs=>r=vB ((l.all kU&&decide (l.length=24)))∧fs=[])) ?_ ?_
  ·intro h0
   refine E0 _ _ _ (aa dh (Q2 _ _ _ _ ?_));rw[eK] at h0;simp only[qS,dB] at h0;rw[←h0];simp[bF]
   try omega
  ·intro i a hi ha hd uD hn h0
   have gO:kU a=false→(l.all kU&&decide (l.length=24))=false:=fun e=>by rw[←h0,hd];simp[e]
   have gN:kU a=true→ah C e7 aj 4 0 (lD (l.map bQ) ((i:Int)+1)) (fun u st=>ax C e7 aj u st fun r fs=>r=vB ((l.all kU&&decide (l.length=24)))∧fs=[]):=fun e=>hn (by rw[←h0,hd];simp[e]);refine E0 _ _ _ (ai fj ?_);simp only[pW,DC,ye,bF,aI,ha,aY,dA,dN,bY,fH,ij,eD,fI,dW,fJ,fK,iq,cW,natAdd,ct,cM,gX,dB,j7];rw[aG an]
   cases h1:iM a.g 0 999<;>cases h2:iN a.n<;>cases h3:a.u<;>by_cases h4:a.n=0<;>simp only[h1,h2,h3,h4,lE,mw,decide_true,decide_false,not_true_eq_false,not_false_eq_true,Bu,Bool.not_false]<;>first|exact gN (by unfold kU;rw[h1,h2,h3];simp[h4])|exact Q1 _ (by rw[gO (by unfold kU;rw[h1,h2,h3];simp[h4])];exact c7)
 exact key rfl
theorem AB (l:List Cell) (hl:l.length≤1073741824) (q:Bool):au C e7 [jG l] (vB q) []↔q=eY l:=vO (PC l hl)
@[simp] theorem yf (a:Int) (q:Bool):au C tD [vI a] (vB q) []↔q=iN a:=vO ((Yj _ _ ⟨_,nM _ _ _,rfl,by trivial⟩).run)
theorem RY (l:List Cell) (i gen:Int) (hl:l.length≤1073741824):au C yB [jG l,vI i,vI gen] (tIB (cellAt l i gen)) []:=by
 refine(YS _ _ _ _ ?_).run;simp only[w8,dN,ct,pO,bY,pW];rw[dx an]
 by_cases h:0≤i∧i<l.length
 ·obtain⟨a,ha⟩:=mz h.1 h.2
  have e:iM i 0 ((l.length:Int)-1)=true:=gq an;simp only[e,lE,ha,aY,dA,bF,bK,cellAt]
  cases h1:a.u<;>by_cases h2:a.g=gen<;>simp[h1,h2]
 ·have e:iM i 0 ((l.length:Int)-1)=false:=fO an
  have hn:fE l i=none:=gR h;simp[e,cellAt,hn]
theorem XO (l:List Cell) (hl:l.length≤1073741824) (i gen:Int) (n:Int) (q:Bool):au C yB [jG l,vI i,vI gen] (.tu [(0,[iI n]),(0,[iB q])]) []↔n=(cellAt l i gen).1∧q=(cellAt l i gen).2:=amD (RY l i gen hl)
theorem L9 (l:List Cell) (hl:l.length≤1073741824):au C gD [jG l] (vI (cA l)) []:=by
 refine(QO _ _ ?_).run
 have key: ∀(n:Nat),n+(l.drop 0).length≤l.length→n+cA (l.drop 0)=cA l→ah C gD ak 4 0 (lC n (l.map bQ) ((0:Nat):Int)) (fun u st=>ax C gD ak u st fun r fs=>r=(vI (cA l))∧fs=[]):=by
  refine bh l (fun i=> ∀(n:Nat),n+(l.drop i).length≤l.length→n+cA (l.drop i)=cA l→ah C gD ak 4 0 (lC n (l.map bQ) i) (fun u st=>ax C gD ak u st fun r fs=>r=(vI (cA l))∧fs=[])) ?_ ?_
  ·intro n h0 h1
   refine Bi _ _ _ _ (aa dh (MC _ _ _ _ _ _ ?_));rw[eK] at h1;simp[cA] at h1;simp[h1,cA]
  ·intro i a hi ha hd ht hn n h0 h1
   refine Bi _ _ _ _ (ai fj ?_);rw[hd] at h0 h1;simp only[gn] at h0;simp only[pW,aI,ha,aY,dA,dN,bY,fH,ij,eD,fI,dW,fJ,fK,iq,cW,natAdd,ct,cM,gX,dB,j7];rw[aG an,aG an]
   cases hu:a.u
   ·exact hn n an (by rw[←h1];simp[cA,hu])
   ·exact hn (n+1) an (by rw[←h1];simp[cA,hu];omega)
 exact key 0 dh dh
theorem PD (l:List Cell) (hl:l.length≤1073741824):au C e8 [jG l] (vB ((l.all kU&&decide (l.length=24)))) []:=by
 refine(WU _ _ ?_).run
 have key:((l.drop 0).all kU&&decide (l.length=24))=(l.all kU&&decide (l.length=24))→ah C e8 aj 4 0 (lA (l.map bQ) ((0:Nat):Int)) (fun u st=>ax C e8 aj u st fun r fs=>r=vB ((l.all kU&&decide (l.length=24)))∧fs=[]):=by
  refine bh l (fun i=>((l.drop i).all kU&&decide (l.length=24))=(l.all kU&&decide (l.length=24))→ah C e8 aj 4 0 (lA (l.map bQ) i) (fun u st=>ax C e8 aj u st fun r fs=>r=vB ((l.all kU&&decide (l.length=24)))∧fs=[])) ?_ ?_
  ·intro h0
   refine EW _ _ _ (aa dh (QI _ _ _ _ _ ?_));rw[eK] at h0;simp only[qS,dB] at h0;rw[←h0];simp[bF]
   try omega
  ·intro i a hi ha hd uD hn h0
   have gO:kU a=false→(l.all kU&&decide (l.length=24))=false:=fun e=>by rw[←h0,hd];simp[e]
   have gN:kU a=true→ah C e8 aj 4 0 (lA (l.map bQ) ((i:Int)+1)) (fun u st=>ax C e8 aj u st fun r fs=>r=vB ((l.all kU&&decide (l.length=24)))∧fs=[]):=fun e=>hn (by rw[←h0,hd];simp[e]);refine EW _ _ _ (ai fj ?_);simp only[pW,w8,yf,bF,aI,ha,aY,dA,dN,bY,fH,ij,eD,fI,dW,fJ,fK,iq,cW,natAdd,ct,cM,gX,dB,j7];rw[aG an]
   cases h1:iM a.g 0 999<;>cases h2:iN a.n<;>cases h3:a.u<;>by_cases h4:a.n=0<;>simp only[h1,h2,h3,h4,lE,mw,decide_true,decide_false,not_true_eq_false,not_false_eq_true,Bu,Bool.not_false]<;>first|exact gN (by unfold kU;rw[h1,h2,h3];simp[h4])|exact QH _ _ _ _ (by rw[gO (by unfold kU;rw[h1,h2,h3];simp[h4])];exact c7)
 exact key rfl
theorem AD (l:List Cell) (hl:l.length≤1073741824) (q:Bool):au C e8 [jG l] (vB q) []↔q=eY l:=vO (PD l hl)
theorem RZ (s:ByteArray) (hl:s.size≤140737488355328):au C eM [vS s] (vB ((dY s.size (gz s)&&iM s.size 1 6))) []:=by
 refine(Zn _ _ ?_).run
 have key:((List.range' 0 (s.size-0)).all (gz s)&&iM s.size 1 6)=(dY s.size (gz s)&&iM s.size 1 6)→ah C eM aj 4 0 (mP s ((0:Nat):Int)) (fun u st=>ax C eM aj u st fun r fs=>r=vB ((dY s.size (gz s)&&iM s.size 1 6))∧fs=[]):=by
  refine th (s.size) (fun i=>((List.range' i (s.size-i)).all (gz s)&&iM s.size 1 6)=(dY s.size (gz s)&&iM s.size 1 6)→ah C eM aj 4 0 (mP s i) (fun u st=>ax C eM aj u st fun r fs=>r=vB ((dY s.size (gz s)&&iM s.size 1 6))∧fs=[])) ?_ ?_
  ·intro h0
   refine Im _ _ _ (aa dh (T9 _ _ _ _ ?_));rw[qT] at h0;simp only[List.range'_zero,qS,dB] at h0;rw[←h0];simp only[DC,dN,LH,pO];simp
  ·intro i hi hn h0
   rw[nG hi,qu] at h0
   have gO:(gz s) i=false→(dY s.size (gz s)&&iM s.size 1 6)=false:=fun e=>by rw[←h0,e];rfl
   have gN:(gz s) i=true→ah C eM aj 4 0 (mP s ((i:Int)+1)) (fun u st=>ax C eM aj u st fun r fs=>r=vB ((dY s.size (gz s)&&iM s.size 1 6))∧fs=[]):=fun e=>hn (by rw[←h0,e];rfl);refine Im _ _ _ (ai fj ?_);obtain⟨n,hb,hn0,hn1⟩:=aak hi;have hw:zh .i64 n=n:=ada an;simp only[hb,aY,dA,DC,dN,hw,bY];rw[aG an]
   have e:gz s i=(iM n 97 122||iM n 48 57):=by unfold gz;rw[hb];rfl
   rw[e] at gO gN
   cases h1:iM n 97 122<;>cases h2:iM n 48 57<;>simp only[lE,mw]<;>first|exact gN (by rw[h1,h2];rfl)|exact T8 _ (by rw[gO (by rw[h1,h2];rfl)];exact c7)
 exact key rfl
theorem uX (s:ByteArray) (hl:s.size≤140737488355328) (q:Bool):au C eM [vS s] (vB q) []↔q=j5 s:=vO (RZ s hl)
theorem amF (l:List Age): ∀(id:Int),id=0→eJ l id=[]:=fun id h=>aJ h
theorem yN (l:List Age) (id:Int) (hl:l.length≤1073741824):au C gQ [gL l,vI id] (oD (eJ l id)) []:=by
 refine(Y6 _ _ _ ?_).run
 have key: ∀(acc:List Int),acc.length+(l.drop 0).length≤l.length→acc++eJ (l.drop 0) id=eJ l id→ah C gQ ak 4 0 (mO (l.map bW) id ((0:Nat):Int) (acc.map bS)) (fun u st=>ax C gQ ak u st fun r fs=>r=(oD (eJ l id))∧fs=[]):=by
  refine bh l (fun i=> ∀(acc:List Int),acc.length+(l.drop i).length≤l.length→acc++eJ (l.drop i) id=eJ l id→ah C gQ ak 4 0 (mO (l.map bW) id i (acc.map bS)) (fun u st=>ax C gQ ak u st fun r fs=>r=(oD (eJ l id))∧fs=[])) ?_ ?_
  ·intro acc h0 h1
   refine Ib _ _ _ _ _ (aa dh (TJ _ _ _ _ _ _ ?_));rw[eK] at h1;simp[eJ] at h1;simp[eJ,h1]
  ·intro i a hi ha hd ht hn acc h0 h1
   refine Ib _ _ _ _ _ (ai fj ?_);rw[hd] at h0 h1;simp only[gn] at h0;simp only[wR,UJ,abd,bF,bK,aI,ha,aY,dA,dN,bY,fH,ij,eD,fI,dW,fJ,fK,iq,cW,natAdd,ct,cM,gX,dB,j7];simp (disch:=omega) only[cT,aG,lE]
   by_cases hz:id=0
   ·rw[amF _ _ hz] at h1
    have e: ∀(A B:Prop),(if a.fr=id then(if id=0 then A else B) else A)=if a.fr=id then A else A:=fun A B=>by rw[aJ hz]
    rw[e,ite_self];exact hn _ an (by rw[amF _ _ hz,←h1])
   by_cases hk:a.fr=id
   ·rw[aJ hk,aF hz]
    exact hn (acc++[a.id]) (by simp only[cM,gX];omega) (by rw[←h1];simp[eJ,hk,hz])
   ·rw[aF hk]
    exact hn _ an (by rw[←h1];simp[eJ,hk,hz])
 exact key [] dh rfl
theorem PE (l:List Key) (hl:l.length≤1073741824):au C kj [dP l] (vB (dY l.length (jF l gf))) []:=by
 refine(WN _ _ ?_).run
 have key: ∀(k i:Nat),i+k=l.length→1≤i→(List.range' i k).all (jF l gf)=dY l.length (jF l gf)→ah C kj aj 4 0 (ud (l.map bP) i) (fun u st=>ax C kj aj u st fun r fs=>r=vB (dY l.length (jF l gf))∧fs=[]):=by
  intro k
  induction k with
  |zero=>
   intro i h h1 h0;refine xX _ _ _ (aa fj (EU _ _ _ _ ?_));simp only[List.range'_zero,qS] at h0;rw[←h0];exact c7
  |succ k ih=>
   intro i h h1 h0;obtain⟨j,rfl⟩: ∃j,i=j+1:=⟨i-1,by omega⟩;have hj:l[j]?=some l[j]:=cw an;have hj1:l[j+1]?=some l[j+1]:=cw an
   have e:jF l gf (j+1)=gf l[j] l[j+1]:=by simp only[jF,hj,hj1]
   rw[List.range'_succ,qu,e] at h0;refine xX _ _ _ (ai fj ?_);rw[dx an,show((j+1:Nat):Int)-1=(j:Int) by omega];simp only[lT,aI,hj,hj1,aY,dA,JI,dN,eD,bY];rw[aG an]
   cases hb:gf l[j] l[j+1] with
   |true=>
    rw[hb,dB] at h0;exact ai rfl (ih (j+1+1) an an h0)
   |false=>
    rw[hb,Bool.false_and] at h0;refine aa rfl (QD _ ?_);rw[←h0];exact c7
 cases hz:l.length with
 |zero=>
  have:l=[]:=DK hz;subst this;exact xX _ _ _ (aa dh (EU _ _ _ _ c7))
 |succ n=>
  rw[hz] at key;exact key n 1 an an (by unfold dY;rw[List.range'_succ,qu];rfl)
theorem V5 (l:List Key) (hl:l.length≤1073741824):au C hJ [dP l] (vB ((l.all j8&&(dY l.length (jF l gf)&&decide (l.length≤60))))) []:=by
 refine(abY _ _ ?_).run
 have key:((l.drop 0).all j8&&(dY l.length (jF l gf)&&decide (l.length≤60)))=(l.all j8&&(dY l.length (jF l gf)&&decide (l.length≤60)))→ah C hJ aj 4 0 (qp (l.map bP) ((0:Nat):Int)) (fun u st=>ax C hJ aj u st fun r fs=>r=vB ((l.all j8&&(dY l.length (jF l gf)&&decide (l.length≤60))))∧fs=[]):=by
  refine bh l (fun i=>((l.drop i).all j8&&(dY l.length (jF l gf)&&decide (l.length≤60)))=(l.all j8&&(dY l.length (jF l gf)&&decide (l.length≤60)))→ah C hJ aj 4 0 (qp (l.map bP) i) (fun u st=>ax C hJ aj u st fun r fs=>r=vB ((l.all j8&&(dY l.length (jF l gf)&&decide (l.length≤60))))∧fs=[])) ?_ ?_
  ·intro h0
   refine Ke _ _ _ (aa dh (Xd _ _ _ _ ?_));rw[eK] at h0;simp only[qS,dB] at h0;rw[←h0];refine⟨_,PE l hl,?_⟩;simp only[gy,ct,pO]
   cases dY l.length (jF l gf)<;>simp
   omega
  ·intro i a hi ha hd uD hn h0
   have gO:j8 a=false→(l.all j8&&(dY l.length (jF l gf)&&decide (l.length≤60)))=false:=fun e=>by rw[←h0,hd];simp[e]
   have gN:j8 a=true→ah C hJ aj 4 0 (qp (l.map bP) ((i:Int)+1)) (fun u st=>ax C hJ aj u st fun r fs=>r=vB ((l.all j8&&(dY l.length (jF l gf)&&decide (l.length≤60))))∧fs=[]):=fun e=>hn (by rw[←h0,hd];simp[e]);refine Ke _ _ _ (ai fj ?_);simp only[lT,NC,aI,ha,aY,dA,dN,bY,fH,ij,eD,fI,dW,fJ,fK,iq,cW,natAdd,ct,cM,gX,dB,j7];rw[aG an]
   cases h1:j8 a<;>simp only[lE,mw]<;>first|exact gN eg|exact Xc _ (by rw[gO eg];exact c7)
 exact key rfl
theorem R0 (l:List Key) (hl:l.length≤1073741824):au C hJ [dP l] (vB (Jf l)) []:=by
 have:=V5 l hl;rw[VE];exact this
theorem aby (l:List Key) (hl:l.length≤1073741824) (q:Bool):au C hJ [dP l] (vB q) []↔q=Jf l:=vO (R0 l hl)
theorem R1 (s:ByteArray) (hl:s.size≤140737488355328):au C dJ [vS s] (vB ((dY s.size (gz s)&&iM s.size 1 6))) []:=by
 refine(Zq _ _ ?_).run
 have key:((List.range' 0 (s.size-0)).all (gz s)&&iM s.size 1 6)=(dY s.size (gz s)&&iM s.size 1 6)→ah C dJ aj 4 0 (mR s ((0:Nat):Int)) (fun u st=>ax C dJ aj u st fun r fs=>r=vB ((dY s.size (gz s)&&iM s.size 1 6))∧fs=[]):=by
  refine th (s.size) (fun i=>((List.range' i (s.size-i)).all (gz s)&&iM s.size 1 6)=(dY s.size (gz s)&&iM s.size 1 6)→ah C dJ aj 4 0 (mR s i) (fun u st=>ax C dJ aj u st fun r fs=>r=vB ((dY s.size (gz s)&&iM s.size 1 6))∧fs=[])) ?_ ?_
  ·intro h0
   refine Ip _ _ _ (aa dh (Uc _ _ _ _ ?_));rw[qT] at h0;simp only[List.range'_zero,qS,dB] at h0;rw[←h0];simp only[w8,dN,LH,pO];simp
  ·intro i hi hn h0
   rw[nG hi,qu] at h0
   have gO:(gz s) i=false→(dY s.size (gz s)&&iM s.size 1 6)=false:=fun e=>by rw[←h0,e];rfl
   have gN:(gz s) i=true→ah C dJ aj 4 0 (mR s ((i:Int)+1)) (fun u st=>ax C dJ aj u st fun r fs=>r=vB ((dY s.size (gz s)&&iM s.size 1 6))∧fs=[]):=fun e=>hn (by rw[←h0,e];rfl);refine Ip _ _ _ (ai fj ?_);obtain⟨n,hb,hn0,hn1⟩:=aak hi;have hw:zh .i64 n=n:=ada an;simp only[hb,aY,dA,w8,dN,hw,bY];rw[aG an]
   have e:gz s i=(iM n 97 122||iM n 48 57):=by unfold gz;rw[hb];rfl
   rw[e] at gO gN
   cases h1:iM n 97 122<;>cases h2:iM n 48 57<;>simp only[lE,mw]<;>first|exact gN (by rw[h1,h2];rfl)|exact Ub _ (by rw[gO (by rw[h1,h2];rfl)];exact c7)
 exact key rfl
theorem ng (s:ByteArray) (hl:s.size≤140737488355328) (q:Bool):au C dJ [vS s] (vB q) []↔q=j5 s:=vO (R1 s hl)
theorem vh (l:List Age) (id:Int) (hl:l.length≤1073741824):au C gr [gL l,vI id] (oD (eJ l id)) []:=by
 refine(Zx _ _ _ ?_).run;unfold eJ
 by_cases hz:id=0
 ·refine ai (by simp[hz]) ?_
  rw[aJ hz];exact c7
 refine aa (by simp[hz]) ?_;rw[aF hz]
 have key: ∀(acc:List Int),acc.length+(l.drop 0).length≤l.length→acc++((l.drop 0).filter fun a=>decide (a.fr=id)).map (·.id)=(l.filter fun a=>decide (a.fr=id)).map (·.id)→ah C gr ay 4 0 (ot id (l.map bW) ((0:Nat):Int) (acc.map bS)) (fun u st=>ax C gr ay u st fun r fs=>r=oD ((l.filter fun a=>decide (a.fr=id)).map (·.id))∧fs=[]):=by
  refine bh l (fun i=> ∀(acc:List Int),acc.length+(l.drop i).length≤l.length→acc++((l.drop i).filter fun a=>decide (a.fr=id)).map (·.id)=(l.filter fun a=>decide (a.fr=id)).map (·.id)→ah C gr ay 4 0 (ot id (l.map bW) i (acc.map bS)) (fun u st=>ax C gr ay u st fun r fs=>r=oD ((l.filter fun a=>decide (a.fr=id)).map (·.id))∧fs=[])) ?_ ?_
  ·intro acc h0 h1
   refine Ir _ _ _ _ _ (aa dh (Ui _ _ _ _ _ _ _ ?_));rw[eK] at h1;simp only[List.filter_nil,List.map_nil,qv] at h1;rw[h1];exact c7
  ·intro i a hi ha hd ht hn acc h0 h1
   refine Ir _ _ _ _ _ (ai fj ?_);rw[hd] at h0 h1;simp only[gn] at h0;simp only[wR,UJ,abd,bF,bK,aI,ha,aY,dA,dN,bY,fH,ij,eD,fI,dW,fJ,fK,iq,cW,natAdd,ct,cM,gX,dB,j7];simp (disch:=omega) only[cT,aG,lE]
   by_cases hk:a.fr=id
   ·rw[aJ hk]
    exact hn (acc++[a.id]) (by simp only[cM,gX];omega) (by rw[←h1];simp[hk])
   ·rw[aF hk]
    exact hn _ an (by rw[←h1];simp[hk])
 exact key [] dh rfl
theorem R2 (l:List Key) (hl:l.length≤1073741824):au C hD [dP l] (vB ((dY l.length (pY l)&&decide (l.length≤60)))) []:=by
 refine(abT _ _ ?_).run
 have key:((List.range' 0 (l.length-0)).all (pY l)&&decide (l.length≤60))=(dY l.length (pY l)&&decide (l.length≤60))→ah C hD aj 4 0 (nQ (l.map bP) ((0:Nat):Int)) (fun u st=>ax C hD aj u st fun r fs=>r=vB ((dY l.length (pY l)&&decide (l.length≤60)))∧fs=[]):=by
  refine th (l.length) (fun i=>((List.range' i (l.length-i)).all (pY l)&&decide (l.length≤60))=(dY l.length (pY l)&&decide (l.length≤60))→ah C hD aj 4 0 (nQ (l.map bP) i) (fun u st=>ax C hD aj u st fun r fs=>r=vB ((dY l.length (pY l)&&decide (l.length≤60)))∧fs=[])) ?_ ?_
  ·intro h0
   refine J9 _ _ _ (aa dh (W2 _ _ _ _ _ ?_));rw[qT] at h0;simp only[List.range'_zero,qS,dB] at h0;rw[←h0];simp[gy];omega
  ·intro i hi hn h0
   rw[nG hi,qu] at h0
   have gO:(pY l) i=false→(dY l.length (pY l)&&decide (l.length≤60))=false:=fun e=>by rw[←h0,e];rfl
   have gN:(pY l) i=true→ah C hD aj 4 0 (nQ (l.map bP) ((i:Int)+1)) (fun u st=>ax C hD aj u st fun r fs=>r=vB ((dY l.length (pY l)&&decide (l.length≤60)))∧fs=[]):=fun e=>hn (by rw[←h0,e];rfl);refine J9 _ _ _ (ai fj ?_);have ha:l[i]?=some l[i]:=cw hi;simp only[lT,NA,JH,aI,ha,aY,dA,dN,bY,fH,ij,eD,fI,dW,fJ,fK,iq,cW,natAdd,ct,cM,gX,dB,j7];rw[aG an]
   cases i with
   |zero=>
    have e:pY l 0=j8 l[0]:=by simp[pY,atL,jF,hi]
    simp only[e] at gO gN
    cases h1:j8 l[0]<;>simp only[h1,lE,mw,eX,bK,Int.natCast_zero,Int.lt_irrefl,if_false]<;>first|exact gN h1|exact Ka _ _ _ _ _ _ (by rw[gO h1];exact c7)
   |succ k=>
    have hk:l[k]?=some l[k]:=cw an
    have e:pY l (k+1)=(j8 l[k+1]&&gf l[k] l[k+1]):=by simp only[pY,atL,jF,hk,ha]
    simp only[e] at gO gN;rw[dx an,show((k+1:Nat):Int)-1=(k:Int) by omega];simp only[aI,hk,aY,dA,eD,eX,bK];rw[aJ an]
    cases h1:j8 l[k+1]<;>cases h2:gf l[k] l[k+1]<;>simp only[lE,mw]<;>first|exact gN (by rw[h1,h2];rfl)|exact Ka _ _ _ _ _ _ (by rw[gO (by rw[h1,h2];rfl)];exact c7)
 exact key rfl
theorem abz (l:List Key) (hl:l.length≤1073741824) (q:Bool):au C hD [dP l] (vB q) []↔q=Jf l:=vO (R2 l hl)
theorem XP (t:Tree) (l:List Age) (b id:Int) (hl:cN t≤1073741824) (ha:l.length≤1073741823):au C Py [ef t,gL l,vI b,vI id] (Xl (K2 t l b id)) []:=by
 refine(aec _ _ _ _ _ _ ?_).run;refine⟨_,F9 l id an,_,_,_,_,_,_,Gb t b _ hl (by have:=Fw l id;omega),?_⟩;exact c7
theorem AE (t:Tree) (l:List Age) (b id:Int) (hl:cN t≤1073741824) (ha:l.length≤1073741823):au C w6 [ef t,gL l,vI b,vI id] (Xl (tQ t l b id)) []:=by
 refine(QL _ _ _ _ _ _ ?_).run;have hp:=Fw l id;refine⟨_,F9 l id an,?_⟩;simp only[ct,pO,bF,bK,cO];unfold tQ
 by_cases h:(pathOf l id).length=0
 ·rw[aJ an,DK h]
  simp[ajl,gh]
 ·rw[aF an]
  refine ai fj ⟨_,_,_,_,_,_,Gb t b _ hl fj,?_⟩
  have e:List.drop (Int.toNat 1) (List.take (Int.toNat ((pathOf l id).length:Int)) (pathOf l id))=(pathOf l id).drop 1:=by rw[mT,we];rfl
  rw[e];exact c7
theorem XQ (t:Tree) (l:List Age) (k:Key) (id:Int) (hl:cN t≤1073741824) (ha:l.length≤1073741823):au C KD [ef t,gL l,uG k,vI id] (vB (nH t l k id)) []:=by
 refine(aeb _ _ _ _ _ _ _ _ _ _ ?_).run;refine⟨_,_,_,_,_,_,XP t l k.b id hl ha,?_⟩;unfold nH;simp only[bF]
 cases h:(K2 t l k.b id).2
 ·exact aa rfl c7
 ·exact ai rfl ⟨by simp,by trivial⟩
theorem Ma (p:Pool) (k:Key) (ht:cN p.t≤1073741824) (hg:p.aL.length≤1073741823) (hl:p.av.length≤1073741824):au C eA [dQ p,uG k] (vB ((p.av.any (fun v:Vol=>decide (k.b<v.size)&&nH p.t p.aL k v.cY)))) []:=by
 refine(Q6 _ _ _ _ _ _ _ _ _ _ _ _ ?_).run
 have key:((p.av.drop 0).any (fun v:Vol=>decide (k.b<v.size)&&nH p.t p.aL k v.cY))=(p.av.any (fun v:Vol=>decide (k.b<v.size)&&nH p.t p.aL k v.cY))→ah C eA aj 4 0 (jM ((0:Nat):Int) (p.t.aD.map bS) (p.t.nodes.map aR) (p.aL.map bW) (p.cells.map bQ) (p.av.map cu) p.next k.b k.a k.k k.c k.g) (fun u st=>ax C eA aj u st fun r fs=>r=vB ((p.av.any (fun v:Vol=>decide (k.b<v.size)&&nH p.t p.aL k v.cY)))∧fs=[]):=by
  refine bh p.av (fun i=>((p.av.drop i).any (fun v:Vol=>decide (k.b<v.size)&&nH p.t p.aL k v.cY))=(p.av.any (fun v:Vol=>decide (k.b<v.size)&&nH p.t p.aL k v.cY))→ah C eA aj 4 0 (jM i (p.t.aD.map bS) (p.t.nodes.map aR) (p.aL.map bW) (p.cells.map bQ) (p.av.map cu) p.next k.b k.a k.k k.c k.g) (fun u st=>ax C eA aj u st fun r fs=>r=vB ((p.av.any (fun v:Vol=>decide (k.b<v.size)&&nH p.t p.aL k v.cY)))∧fs=[])) ?_ ?_
  ·intro h0
   refine Bl _ _ _ _ _ _ _ _ _ _ _ _ _ (aa dh (MH _ _ _ _ _ _ _ _ _ _ _ _ _ _ ?_));rw[eK] at h0;simp only[List.any_nil,dB] at h0;rw[←h0];exact c7
  ·intro i a hi ha hd uD hn h0
   have gO:(fun v:Vol=>decide (k.b<v.size)&&nH p.t p.aL k v.cY) a=true→(p.av.any (fun v:Vol=>decide (k.b<v.size)&&nH p.t p.aL k v.cY))=true:=fun e=>by rw[←h0,hd];simp[e]
   have gN:(fun v:Vol=>decide (k.b<v.size)&&nH p.t p.aL k v.cY) a=false→ah C eA aj 4 0 (jM ((i:Int)+1) (p.t.aD.map bS) (p.t.nodes.map aR) (p.aL.map bW) (p.cells.map bQ) (p.av.map cu) p.next k.b k.a k.k k.c k.g) (fun u st=>ax C eA aj u st fun r fs=>r=vB ((p.av.any (fun v:Vol=>decide (k.b<v.size)&&nH p.t p.aL k v.cY)))∧fs=[]):=fun e=>hn (by rw[←h0,hd];simp[e]);refine Bl _ _ _ _ _ _ _ _ _ _ _ _ _ (ai fj ?_)
   have hh: ∀q,au C KD [ef p.t,gL p.aL,uG k,vI a.cY] (vB q) []↔q=nH p.t p.aL k a.cY:=fun q=>vO (XQ p.t p.aL k a.cY ht hg);simp only[yM,hh,eX,bK,aI,ha,aY,dA,dN,bY,fH,ij,eD,fI,dW,fJ,fK,iq,cW,natAdd,ct,cM,gX,dB,j7];rw[aG an]
   by_cases h1:k.b<a.size<;>cases h2:nH p.t p.aL k a.cY<;>simp only[h1,if_true,if_false,lE,mw]<;>first|exact gN (by simp[h1,h2])|exact MG _ _ _ _ _ _ _ _ _ _ _ _ (by rw[gO (by simp[h1,h2])];exact c7)
 exact key rfl
theorem KJ (p:Pool) (k:Key) (ht:cN p.t≤1073741824) (hg:p.aL.length≤1073741823) (hl:p.av.length≤1073741824):au C eA [dQ p,uG k] (vB (Pc p k)) []:=Ma p k ht hg hl
theorem XR (t:Tree) (l:List Age) (b id:Int) (hl:cN t≤1073741824) (ha:l.length≤1073741823):au C Pz [ef t,gL l,vI b,vI id] (Xl (K2 t l b id)) []:=by
 refine(adY _ _ _ _ _ _ ?_).run;refine⟨_,Ga l id an,_,_,_,_,_,_,Gc t b _ hl (by have:=Fw l id;omega),?_⟩;exact c7
theorem AF (t:Tree) (l:List Age) (b id:Int) (hl:cN t≤1073741824) (ha:l.length≤1073741823):au C w7 [ef t,gL l,vI b,vI id] (Xl (tQ t l b id)) []:=by
 refine(Q4 _ _ _ _ _ _ ?_).run;have hp:=Fw l id;refine⟨_,Ga l id an,?_⟩;simp only[ct,pO,cO,alf];unfold tQ
 have e: ∀m:Int,((m=1∧1≤(pathOf l id).length)∨(m=0∧(pathOf l id).length=0))→List.drop m.toNat (List.take (Int.toNat ((pathOf l id).length:Int)) (pathOf l id))=(pathOf l id).drop 1:=fun m hm=>by
  rw[mT,we];rcases hm with⟨rfl,_⟩|⟨rfl,h⟩
  ·rfl
  ·rw[DK h];rfl
 have hm:(if((pathOf l id).length:Int)<1 then((pathOf l id).length:Int) else 1)=1∧1≤(pathOf l id).length∨((if((pathOf l id).length:Int)<1 then((pathOf l id).length:Int) else 1)=0∧(pathOf l id).length=0):=by split<;>omega
 revert hm
 generalize (if((pathOf l id).length:Int)<1 then((pathOf l id).length:Int) else 1)=m;intro hm;rw[e m hm];refine ai fj ⟨_,_,_,_,_,_,Gc t b _ hl fj,?_⟩;exact c7
theorem XT (t:Tree) (l:List Age) (k:Key) (id:Int) (hl:cN t≤1073741824) (ha:l.length≤1073741823):au C KE [ef t,gL l,uG k,vI id] (vB (nH t l k id)) []:=by
 refine(adX _ _ _ _ _ _ _ _ _ _ ?_).run;refine⟨_,_,_,_,_,_,XR t l k.b id hl ha,?_⟩;unfold nH;simp only[bF]
 cases h:(K2 t l k.b id).2
 ·exact aa rfl c7
 ·exact ai rfl ⟨by simp,by trivial⟩
theorem Mb (p:Pool) (k:Key) (ht:cN p.t≤1073741824) (hg:p.aL.length≤1073741823) (hl:p.av.length≤1073741824):au C eB [dQ p,uG k] (vB ((p.av.any (fun v:Vol=>decide (k.b<v.size)&&nH p.t p.aL k v.cY)))) []:=by
 refine(QB _ _ _ _ _ _ _ _ _ _ _ _ ?_).run
 have key:((p.av.drop 0).any (fun v:Vol=>decide (k.b<v.size)&&nH p.t p.aL k v.cY))=(p.av.any (fun v:Vol=>decide (k.b<v.size)&&nH p.t p.aL k v.cY))→ah C eB aj 4 0 (jK (p.av.map cu) ((0:Nat):Int) (p.t.aD.map bS) (p.t.nodes.map aR) (p.aL.map bW) (p.cells.map bQ) p.next k.b k.a k.k k.c k.g) (fun u st=>ax C eB aj u st fun r fs=>r=vB ((p.av.any (fun v:Vol=>decide (k.b<v.size)&&nH p.t p.aL k v.cY)))∧fs=[]):=by
  refine bh p.av (fun i=>((p.av.drop i).any (fun v:Vol=>decide (k.b<v.size)&&nH p.t p.aL k v.cY))=(p.av.any (fun v:Vol=>decide (k.b<v.size)&&nH p.t p.aL k v.cY))→ah C eB aj 4 0 (jK (p.av.map cu) i (p.t.aD.map bS) (p.t.nodes.map aR) (p.aL.map bW) (p.cells.map bQ) p.next k.b k.a k.k k.c k.g) (fun u st=>ax C eB aj u st fun r fs=>r=vB ((p.av.any (fun v:Vol=>decide (k.b<v.size)&&nH p.t p.aL k v.cY)))∧fs=[])) ?_ ?_
  ·intro h0
   refine Bd _ _ _ _ _ _ _ _ _ _ _ _ _ (aa dh (Mx _ _ _ _ _ _ _ _ _ _ _ _ _ _ _ ?_));rw[eK] at h0;simp only[List.any_nil,dB] at h0;rw[←h0];exact c7
  ·intro i a hi ha hd uD hn h0
   have gO:(fun v:Vol=>decide (k.b<v.size)&&nH p.t p.aL k v.cY) a=true→(p.av.any (fun v:Vol=>decide (k.b<v.size)&&nH p.t p.aL k v.cY))=true:=fun e=>by rw[←h0,hd];simp[e]
   have gN:(fun v:Vol=>decide (k.b<v.size)&&nH p.t p.aL k v.cY) a=false→ah C eB aj 4 0 (jK (p.av.map cu) ((i:Int)+1) (p.t.aD.map bS) (p.t.nodes.map aR) (p.aL.map bW) (p.cells.map bQ) p.next k.b k.a k.k k.c k.g) (fun u st=>ax C eB aj u st fun r fs=>r=vB ((p.av.any (fun v:Vol=>decide (k.b<v.size)&&nH p.t p.aL k v.cY)))∧fs=[]):=fun e=>hn (by rw[←h0,hd];simp[e]);refine Bd _ _ _ _ _ _ _ _ _ _ _ _ _ (ai fj ?_)
   have hh: ∀q,au C KE [ef p.t,gL p.aL,uG k,vI a.cY] (vB q) []↔q=nH p.t p.aL k a.cY:=fun q=>vO (XT p.t p.aL k a.cY ht hg);simp only[yM,hh,eX,bK,aI,ha,aY,dA,dN,bY,fH,ij,eD,fI,dW,fJ,fK,iq,cW,natAdd,ct,cM,gX,dB,j7];rw[aG an]
   by_cases h1:k.b<a.size<;>cases h2:nH p.t p.aL k a.cY<;>simp only[h1,if_true,if_false,lE,mw]<;>first|exact gN (by simp[h1,h2])|exact Mw _ _ _ _ _ _ _ _ _ _ _ _ _ _ _ _ (by rw[gO (by simp[h1,h2])];exact c7)
 exact key rfl
theorem KK (p:Pool) (k:Key) (ht:cN p.t≤1073741824) (hg:p.aL.length≤1073741823) (hl:p.av.length≤1073741824):au C eB [dQ p,uG k] (vB (Pc p k)) []:=Mb p k ht hg hl
theorem ju (p:Pool) (s:ByteArray) (hl:p.av.length≤1073741824):au C ey [dQ p,vS s] (vI (cj p.av s)) []:=by
 refine(abL _ _ _ _ _ _ _ _ ?_).run
 have key:fe (fun v:Vol=>decide (v.name=s)) (p.av.drop 0) ((0:Nat):Int)=fe (fun v:Vol=>decide (v.name=s)) p.av 0→ah C ey aj 4 0 (tI s ((0:Nat):Int) (p.t.aD.map bS) (p.t.nodes.map aR) (p.aL.map bW) (p.cells.map bQ) (p.av.map cu) p.next) (fun u st=>ax C ey aj u st fun r fs=>r=vI (cj p.av s)∧fs=[]):=by
  refine bh p.av (fun i=>fe (fun v:Vol=>decide (v.name=s)) (p.av.drop i) (i:Int)=fe (fun v:Vol=>decide (v.name=s)) p.av 0→ah C ey aj 4 0 (tI s i (p.t.aD.map bS) (p.t.nodes.map aR) (p.aL.map bW) (p.cells.map bQ) (p.av.map cu) p.next) _) ?_ ?_
  ·intro h0
   refine J4 _ _ _ _ _ _ _ _ _ (aa dh (WE _ _ _ _ _ _ _ _ _ _ ?_));rw[eK] at h0;simp only[fe] at h0;change _=vI (fe (fun v:Vol=>decide (v.name=s)) p.av 0)∧_;rw[←h0];exact c7
  ·intro i a hi ha hd uD hn h0
   refine J4 _ _ _ _ _ _ _ _ _ (ai fj ?_);rw[hd] at h0;simp only[fe] at h0;simp only[yM,Fs,bK,aI,ha,aY,dA,dN,bY,fH,ij,eD,fI,dW,fJ,fK,iq,cW,natAdd,ct,cM,gX,dB,j7];rw[aG an]
   split at h0
   ·rename_i hp
    have hp:=yh hp
    first|rw[aJ hp]|rw[aJ hp.symm]
    refine WD _ _ _ _ _ _ _ _ ?_;rw[h0];exact c7
   ·rename_i hp
    have hp: ¬_:=fun h=>hp (gq h)
    first|rw[aF hp]|rw[aF (fun h=>hp h.symm)]
    exact hn h0
 exact key rfl
@[simp] theorem V6 (n:ByteArray) (a z:Int) (f:Bool) (s:ByteArray) (q:Bool):au C zP [.ag [iS n,iI a,iI z,iB f],.bx [iS s]] (vB q) []↔q=decide (n=s):=vO (by
  refine(WC _ _ _ _ _ _ ?_).run
  simp)
theorem XU (l:List Vol) (s:ByteArray) (hl:l.length≤1073741824):au C aK [qV l,.fn zP [[iS s]]] (vI (cj l s)) []:=by
 refine(uZ _ _ _ ?_).run
 have key:fe (fun v:Vol=>decide (v.name=s)) (l.drop 0) ((0:Nat):Int)=fe (fun v:Vol=>decide (v.name=s)) l 0→ah C aK aj 4 0 (eF (l.map cu) ((0:Nat):Int) s) (fun u st=>ax C aK aj u st fun r fs=>r=vI (cj l s)∧fs=[]):=by
  refine bh l (fun i=>fe (fun v:Vol=>decide (v.name=s)) (l.drop i) (i:Int)=fe (fun v:Vol=>decide (v.name=s)) l 0→ah C aK aj 4 0 (eF (l.map cu) i s) _) ?_ ?_
  ·intro h0
   refine mH _ _ _ _ (aa dh (uo _ _ _ _ _ _ ?_));rw[eK] at h0;simp only[fe] at h0;change _=vI (fe (fun v:Vol=>decide (v.name=s)) l 0)∧_;rw[←h0];exact c7
  ·intro i a hi ha hd uD hn h0
   refine mH _ _ _ _ (ai fj ?_);rw[hd] at h0;simp only[fe] at h0;simp only[yM,bF,V6,bK,aI,ha,aY,dA,dN,bY,fH,ij,eD,fI,dW,fJ,fK,iq,cW,natAdd,ct,cM,gX,dB,j7];rw[aG an]
   split at h0
   ·rename_i hp
    have hp:=yh hp
    first|rw[aJ hp]|rw[aJ hp.symm]
    refine um _ _ _ ?_;rw[h0];exact c7
   ·rename_i hp
    have hp: ¬_:=fun h=>hp (gq h)
    first|rw[aF hp]|rw[aF (fun h=>hp h.symm)]
    exact hn h0
 exact key rfl
theorem lX (p:Pool) (s:ByteArray) (hl:p.av.length≤1073741824):au C vV [dQ p,vS s] (vI (cj p.av s)) []:=(abG _ _ _ _ _ _ _ _ ⟨_,XU p.av s hl,rfl,by trivial⟩).run
@[simp] theorem XV (n:ByteArray) (a z:Int) (f:Bool) (id:Int) (q:Bool):au C yC [.ag [iS n,iI a,iI z,iB f],.bx [iI id]] (vB q) []↔q=decide (a=id):=vO (by
  refine(Zd _ _ _ _ _ _ ?_).run
  simp)
theorem KL (l:List Vol) (id:Int) (hl:l.length≤1073741824):au C aK [qV l,.fn yC [[iI id]]] (vI (fe (fun v:Vol=>decide (v.cY=id)) l 0)) []:=by
 refine(v7 _ _ _ ?_).run
 have key:fe (fun v:Vol=>decide (v.cY=id)) (l.drop 0) ((0:Nat):Int)=fe (fun v:Vol=>decide (v.cY=id)) l 0→ah C aK aj 4 0 (eT (l.map cu) ((0:Nat):Int) id) (fun u st=>ax C aK aj u st fun r fs=>r=vI (fe (fun v:Vol=>decide (v.cY=id)) l 0)∧fs=[]):=by
  refine bh l (fun i=>fe (fun v:Vol=>decide (v.cY=id)) (l.drop i) (i:Int)=fe (fun v:Vol=>decide (v.cY=id)) l 0→ah C aK aj 4 0 (eT (l.map cu) i id) _) ?_ ?_
  ·intro h0
   refine mX _ _ _ _ (aa dh (uJ _ _ _ _ _ _ ?_));rw[eK] at h0;simp only[fe] at h0;change _=vI (fe (fun v:Vol=>decide (v.cY=id)) l 0)∧_;rw[←h0];exact c7
  ·intro i a hi ha hd uD hn h0
   refine mX _ _ _ _ (ai fj ?_);rw[hd] at h0;simp only[fe] at h0;simp only[yM,bF,XV,bK,aI,ha,aY,dA,dN,bY,fH,ij,eD,fI,dW,fJ,fK,iq,cW,natAdd,ct,cM,gX,dB,j7];rw[aG an]
   split at h0
   ·rename_i hp
    have hp:=yh hp
    first|rw[aJ hp]|rw[aJ hp.symm]
    refine uI _ _ _ ?_;rw[h0];exact c7
   ·rename_i hp
    have hp: ¬_:=fun h=>hp (gq h)
    first|rw[aF hp]|rw[aF (fun h=>hp h.symm)]
    exact hn h0
 exact key rfl
theorem KM (l:List Vol) (id:Int) (hl:l.length≤1073741824):au C fD [qV l,.fn yC [[iI id]]] (vB (l.any (fun v:Vol=>decide (v.cY=id)))) []:=by
 refine(uq _ _ _ ⟨_,KL l id hl,?_⟩).run
 (try dsimp only)
 rw[gy,No _ _ _ an];exact c7
@[simp] theorem R4 (n:ByteArray) (a z:Int) (f:Bool) (s:ByteArray) (a' z':Int) (f':Bool) (q:Bool):au C rP [.ag [iS n,iI a,iI z,iB f],.bx [iS s,iI a',iI z',iB f']] (vB q) []↔q=decide (a=a'):=vO (by
  refine(Uu _ _ _ _ _ _ _ _ _ ?_).run
  simp)
theorem IE (l:List Vol) (s:ByteArray) (a' z':Int) (f':Bool) (hl:l.length≤1073741824):au C aK [qV l,.fn rP [[iS s,iI a',iI z',iB f']]] (vI (fe (fun v:Vol=>decide (v.cY=a')) l 0)) []:=by
 refine(uK _ _ _ _ _ _ ?_).run
 have key:fe (fun v:Vol=>decide (v.cY=a')) (l.drop 0) ((0:Nat):Int)=fe (fun v:Vol=>decide (v.cY=a')) l 0→ah C aK aj 4 0 (eC (l.map cu) ((0:Nat):Int) s a' z' f') (fun u st=>ax C aK aj u st fun r fs=>r=vI (fe (fun v:Vol=>decide (v.cY=a')) l 0)∧fs=[]):=by
  refine bh l (fun i=>fe (fun v:Vol=>decide (v.cY=a')) (l.drop i) (i:Int)=fe (fun v:Vol=>decide (v.cY=a')) l 0→ah C aK aj 4 0 (eC (l.map cu) i s a' z' f') _) ?_ ?_
  ·intro h0
   refine mh _ _ _ _ _ _ _ (aa dh (tK _ _ _ _ _ _ _ _ _ ?_));rw[eK] at h0;simp only[fe] at h0;change _=vI (fe (fun v:Vol=>decide (v.cY=a')) l 0)∧_;rw[←h0];exact c7
  ·intro i a hi ha hd uD hn h0
   refine mh _ _ _ _ _ _ _ (ai fj ?_);rw[hd] at h0;simp only[fe] at h0;simp only[yM,bF,R4,bK,aI,ha,aY,dA,dN,bY,fH,ij,eD,fI,dW,fJ,fK,iq,cW,natAdd,ct,cM,gX,dB,j7];rw[aG an]
   split at h0
   ·rename_i hp
    have hp:=yh hp
    first|rw[aJ hp]|rw[aJ hp.symm]
    refine tJ _ _ _ _ _ _ ?_;rw[h0];exact c7
   ·rename_i hp
    have hp: ¬_:=fun h=>hp (gq h)
    first|rw[aF hp]|rw[aF (fun h=>hp h.symm)]
    exact hn h0
 exact key rfl
theorem IF (l:List Vol) (s:ByteArray) (a' z':Int) (f':Bool) (hl:l.length≤1073741824):au C fD [qV l,.fn rP [[iS s,iI a',iI z',iB f']]] (vB (l.any (fun v:Vol=>decide (v.cY=a')))) []:=by
 refine(sN _ _ _ _ _ _ ⟨_,IE l s a' z' f' hl,?_⟩).run
 (try dsimp only)
 rw[gy,No _ _ _ an];exact c7
theorem Lb (p:Pool) (id:Int) (hl:p.av.length≤1073741824):au C KC [dQ p,vI id] (vB (qX p.av id)) []:=(ad9 _ _ _ _ _ _ _ _ ⟨_,KM p.av id hl,rfl,by trivial⟩).run
theorem PF (n:List (List Key)) (hb:n.length≤1073741824) (hl:tot cg n≤1073741824):au C jA [iu n] (vI (dn n)) []:=by
 refine(Wz _ _ ?_).run
 have key: ∀(c:Nat),c+tot cg (n.drop 0)=dn n→ah C jA ak 4 0 (qk c ((0:Nat):Int) (n.map cZ)) (fun u st=>ax C jA ak u st fun r fs=>r=(vI (dn n))∧fs=[]):=by
  refine bh n (fun i=> ∀(c:Nat),c+tot cg (n.drop i)=dn n→ah C jA ak 4 0 (qk c i (n.map cZ)) (fun u st=>ax C jA ak u st fun r fs=>r=(vI (dn n))∧fs=[])) ?_ ?_
  ·intro c h0
   refine EN _ _ _ _ (aa dh (Qs _ _ _ _ _ ?_));rw[eK] at h0;simp only[tot,xz] at h0;rw[h0];exact c7
  ·intro i a hi ha hd ht hn c h0
   refine EN _ _ _ _ (ai fj ?_);rw[hd] at h0;have e5:tot cg (a::n.drop (i+1))=a.length+tot cg (n.drop (i+1)):=rfl;rw[e5] at h0;unfold dn at h0;simp only[xR,aI,ha,aY,dA,dN,bY,fH,ij,eD,fI,dW,fJ,fK,iq,cW,natAdd,ct,cM,gX,dB,j7];rw[aG (by simp only[pO];omega),aG an];exact hn (c+a.length) (by unfold dn;omega)
 exact key 0 (by simp[dn])
theorem PG (n:List (List Key)) (hs:tot cg n≤1073741824) (hl:n.length≤1073741824):au C cC [iu n] (vB ((n.all eU&&(decide (n.length≤3)&&decide (dn n≤8))))) []:=by
 refine(Zz _ _ ?_).run
 have key:((n.drop 0).all eU&&(decide (n.length≤3)&&decide (dn n≤8)))=(n.all eU&&(decide (n.length≤3)&&decide (dn n≤8)))→ah C cC aj 4 0 (ou ((0:Nat):Int) (n.map cZ)) (fun u st=>ax C cC aj u st fun r fs=>r=vB ((n.all eU&&(decide (n.length≤3)&&decide (dn n≤8))))∧fs=[]):=by
  refine bh n (fun i=>((n.drop i).all eU&&(decide (n.length≤3)&&decide (dn n≤8)))=(n.all eU&&(decide (n.length≤3)&&decide (dn n≤8)))→ah C cC aj 4 0 (ou i (n.map cZ)) (fun u st=>ax C cC aj u st fun r fs=>r=vB ((n.all eU&&(decide (n.length≤3)&&decide (dn n≤8))))∧fs=[])) ?_ ?_
  ·intro h0
   refine Iv _ _ _ (aa dh (Un _ _ _ _ ?_));rw[eK] at h0;simp only[qS,dB] at h0;rw[←h0];simp only[gy,ct,pO,bK]
   by_cases h3:n.length≤3
   ·rw[aJ an]
    refine⟨_,PF n hl hs,?_⟩;simp[h3];omega
   ·rw[aF an]
    simp[h3]
  ·intro i a hi ha hd uD hn h0
   have gO:eU a=false→(n.all eU&&(decide (n.length≤3)&&decide (dn n≤8)))=false:=fun e=>by rw[←h0,hd];simp[e]
   have gN:eU a=true→ah C cC aj 4 0 (ou ((i:Int)+1) (n.map cZ)) (fun u st=>ax C cC aj u st fun r fs=>r=vB ((n.all eU&&(decide (n.length≤3)&&decide (dn n≤8))))∧fs=[]):=fun e=>hn (by rw[←h0,hd];simp[e]);refine Iv _ _ _ (ai fj ?_);have hz:a.length≤tot cg n:=oF (w:=cg) ha;have hh: ∀q,au C hJ [dP a] (vB q) []↔q=Jf a:=fun q=>aby a an q;simp only[xR,hh,bF,pO,bK,aI,ha,aY,dA,dN,bY,fH,ij,eD,fI,dW,fJ,fK,iq,cW,natAdd,ct,cM,gX,dB,j7]
   rw[aG an]
   cases h1:Jf a<;>by_cases h2:a.length=0<;>simp only[lE,mw]<;>first|(rw[aJ an];exact Iw _ _ (by rw[gO (by simp[eU,h1,h2])];exact c7))|(rw[aF an];exact gN (by simp[eU,h1,h2]))|exact Iw _ _ (by rw[gO (by simp[eU,h1,h2])];exact c7)
 exact key rfl
theorem yO (n:List (List Key)) (hb:n.length≤1073741824) (hl:tot cg n≤1073741824):au C cC [iu n] (vB (iQ n)) []:=by
 have:=PG n hl hb;rw[aam];exact this
theorem yP (l:List Age) (hl:l.length≤1073741824):au C dI [gL l] (vB ((dY l.length (gJ l)&&decide (l.length≤16)))) []:=by
 refine(Y4 _ _ ?_).run
 have key:((List.range' 0 (l.length-0)).all (gJ l)&&decide (l.length≤16))=(dY l.length (gJ l)&&decide (l.length≤16))→ah C dI aj 4 0 (jD (l.map bW) ((0:Nat):Int)) (fun u st=>ax C dI aj u st fun r fs=>r=vB ((dY l.length (gJ l)&&decide (l.length≤16)))∧fs=[]):=by
  refine th (l.length) (fun i=>((List.range' i (l.length-i)).all (gJ l)&&decide (l.length≤16))=(dY l.length (gJ l)&&decide (l.length≤16))→ah C dI aj 4 0 (jD (l.map bW) i) (fun u st=>ax C dI aj u st fun r fs=>r=vB ((dY l.length (gJ l)&&decide (l.length≤16)))∧fs=[])) ?_ ?_
  ·intro h0
   refine H8 _ _ _ (aa dh (TA _ _ _ _ ?_));rw[qT] at h0;simp only[List.range'_zero,qS,dB] at h0;rw[←h0];simp[gy];omega
  ·intro i hi hn h0
   rw[nG hi,qu] at h0
   have gO:(gJ l) i=false→(dY l.length (gJ l)&&decide (l.length≤16))=false:=fun e=>by rw[←h0,e];rfl
   have gN:(gJ l) i=true→ah C dI aj 4 0 (jD (l.map bW) ((i:Int)+1)) (fun u st=>ax C dI aj u st fun r fs=>r=vB ((dY l.length (gJ l)&&decide (l.length≤16)))∧fs=[]):=fun e=>hn (by rw[←h0,e];rfl);refine H8 _ _ _ (ai fj ?_);have ha:l[i]?=some l[i]:=cw hi;have hh: ∀q,au C ez [gL (l.take i),vI l[i].fr] (vI q) []↔q=fA (l.take i) l[i].fr:=fun q=>FP (l.take i) l[i].fr fj q
   have zV:aE (l.map bW) 0 (i:Int)=(l.take i).map bW:=by rw[cO,mT];rfl
   have hin:gH 0 (i:Int) (l.length:Int)=true:=by simp;omega
   simp only[wR,DC,zV,aI,ha,aY,dA,dN,bY,fH,ij,eD,fI,dW,fJ,fK,iq,cW,natAdd,ct,cM,gX,dB,j7];simp only[ha,hin,hh,dN,aY,dA,lE,bF,gy,eX,bK,pO,ct];rw[aG an]
   cases i with
   |zero=>
    have e:gJ l 0=(iM l[0].id 1 60&&(decide (l[0].fr=0)|| !decide (fA (l.take 0) l[0].fr<0))):=by simp[gJ,atL,jF,hi]
    rw[e] at gO gN
    have hz: ¬((0:Int)<((0:Nat):Int)):=by omega
    simp only[aF hz]
    cases h1:iM l[0].id 1 60 with
    |false=>simp only[mw];exact rJ _ (by rw[gO (by rw[h1];simp)];exact c7)
    |true=>
     simp only[lE]
     by_cases h2:l[0].fr=0
     ·rw[aJ h2];exact gN (by rw[h1,gq h2];simp)
     ·rw[aF h2]
      by_cases h3:fA (l.take 0) l[0].fr<0
      ·rw[aJ h3];exact rJ _ (by rw[gO (by rw[fO h2,gq h3];simp)];exact c7)
      ·rw[aF h3];exact gN (by rw[h1,fO h3];simp)
   |succ k=>
    have hk:l[k]?=some l[k]:=cw an
    have e:gJ l (k+1)=(iM l[k+1].id 1 60&&(decide (l[k].id<l[k+1].id)&&(decide (l[k+1].fr=0)|| !decide (fA (l.take (k+1)) l[k+1].fr<0)))):=by simp only[gJ,atL,jF,hk,ha]
    rw[e] at gO gN;rw[dx an,show((k+1:Nat):Int)-1=(k:Int) by omega];simp only[aI,hk,aY,dA];rw[aJ an]
    cases h1:iM l[k+1].id 1 60 with
    |false=>simp only[mw];exact rJ _ (by rw[gO (by rw[h1];simp)];exact c7)
    |true=>
     simp only[lE]
     by_cases h4:l[k].id<l[k+1].id
     ·rw[aF an]
      by_cases h2:l[k+1].fr=0
      ·rw[aJ h2];exact gN (by rw[h1,gq h4,gq h2];simp)
      ·rw[aF h2]
       by_cases h3:fA (l.take (k+1)) l[k+1].fr<0
       ·rw[aJ h3];exact rJ _ (by rw[gO (by rw[fO h2,gq h3];simp)];exact c7)
       ·rw[aF h3];exact gN (by rw[h1,gq h4,fO h3];simp)
     ·rw[aJ an];exact rJ _ (by rw[gO (by rw[fO h4];simp)];exact c7)
 exact key rfl
theorem XW (l:List Age) (hl:l.length≤1073741824) (q:Bool):au C dI [gL l] (vB q) []↔q=g9 l:=vO (yP l hl)
theorem PI (n:List (List Key)) (hb:n.length≤1073741824) (hl:tot cg n≤1073741824):au C cv [iu n] (vB (n.all eU&&(decide (n.length≤3)&&decide (dn n≤8)))) []:=by
 refine(Yv _ _ ?_).run
 have key: ∀(c:Nat),c+tot cg (n.drop 0)=dn n→((n.drop 0).all eU&&(decide (n.length≤3)&&decide (dn n≤8)))=(n.all eU&&(decide (n.length≤3)&&decide (dn n≤8)))→ah C cv ak 4 0 (rm c (n.map cZ) ((0:Nat):Int)) (fun u st=>ax C cv ak u st fun r fs=>r=(vB (n.all eU&&(decide (n.length≤3)&&decide (dn n≤8))))∧fs=[]):=by
  refine bh n (fun i=> ∀(c:Nat),c+tot cg (n.drop i)=dn n→((n.drop i).all eU&&(decide (n.length≤3)&&decide (dn n≤8)))=(n.all eU&&(decide (n.length≤3)&&decide (dn n≤8)))→ah C cv ak 4 0 (rm c (n.map cZ) i) (fun u st=>ax C cv ak u st fun r fs=>r=(vB (n.all eU&&(decide (n.length≤3)&&decide (dn n≤8))))∧fs=[])) ?_ ?_
  ·intro c h0 h1
   refine HF _ _ _ _ (aa dh (SG _ _ _ _ _ _ ?_));rw[eK] at h0 h1;simp only[tot,xz] at h0;simp only[qS,dB] at h1;rw[←h1];simp only[gy,ct,pO,bK]
   by_cases h3:n.length≤3
   ·rw[aJ an]
    simp[h3];omega
   ·rw[aF an]
    simp[h3]
  ·intro i a hi ha hd ht hn c h0 h1
   refine HF _ _ _ _ (ai fj ?_);have hz:a.length≤tot cg n:=oF (w:=cg) ha;have hh: ∀q,au C hD [dP a] (vB q) []↔q=Jf a:=fun q=>abz a an q;rw[hd] at h0 h1;have e5:tot cg (a::n.drop (i+1))=a.length+tot cg (n.drop (i+1)):=rfl;rw[e5] at h0;unfold dn at h0;have hO:eU a=false→ax C cv ak TX.ret (vn (n.map cZ)) (fun r fs=>r=vB (n.all eU&&(decide (n.length≤3)&&decide (dn n≤8)))∧fs=[]):=fun e=>SF _ _ (by rw[←h1];simp only[qu,e];exact c7)
   simp only[xR,hh,bF,pO,bK,aI,ha,aY,dA,dN,bY,fH,ij,eD,fI,dW,fJ,fK,iq,cW,natAdd,ct,cM,gX,dB,j7];rw[aG an,aG an]
   cases h2:Jf a<;>by_cases h3:a.length=0<;>simp only[lE,mw]
   ·exact hO (by simp[eU,h2])
   ·exact hO (by simp[eU,h2])
   ·rw[aJ an];exact hO (by simp[eU,h3])
   ·rw[aF an]
    exact hn (c+a.length) (by unfold dn;omega) (by rw[←h1];simp[eU,h2,h3])
 exact key 0 (by simp[dn]) rfl
theorem yQ (n:List (List Key)) (hb:n.length≤1073741824) (hl:tot cg n≤1073741824):au C cv [iu n] (vB (iQ n)) []:=by
 have:=PI n hb hl;rw[aam];exact this
theorem XX (n:List (List Key)) (hb:n.length≤1073741824) (hl:tot cg n≤1073741824) (q:Bool):au C cv [.ag [.sub 1 (n.map cZ)]] (vB q) []↔q=iQ n:=vO (yQ n hb hl)
theorem yR (l:List Age) (hl:l.length≤1073741824):au C dK [gL l] (vB ((dY l.length (gJ l)&&decide (l.length≤16)))) []:=by
 refine(YI _ _ ?_).run
 have key:((List.range' 0 (l.length-0)).all (gJ l)&&decide (l.length≤16))=(dY l.length (gJ l)&&decide (l.length≤16))→ah C dK aj 4 0 (jC (l.map bW) ((0:Nat):Int)) (fun u st=>ax C dK aj u st fun r fs=>r=vB ((dY l.length (gJ l)&&decide (l.length≤16)))∧fs=[]):=by
  refine th (l.length) (fun i=>((List.range' i (l.length-i)).all (gJ l)&&decide (l.length≤16))=(dY l.length (gJ l)&&decide (l.length≤16))→ah C dK aj 4 0 (jC (l.map bW) i) (fun u st=>ax C dK aj u st fun r fs=>r=vB ((dY l.length (gJ l)&&decide (l.length≤16)))∧fs=[])) ?_ ?_
  ·intro h0
   refine HN _ _ _ (aa dh (S6 _ _ _ _ _ ?_));rw[qT] at h0;simp only[List.range'_zero,qS,dB] at h0;rw[←h0];simp[gy];omega
  ·intro i hi hn h0
   rw[nG hi,qu] at h0
   have gO:(gJ l) i=false→(dY l.length (gJ l)&&decide (l.length≤16))=false:=fun e=>by rw[←h0,e];rfl
   have gN:(gJ l) i=true→ah C dK aj 4 0 (jC (l.map bW) ((i:Int)+1)) (fun u st=>ax C dK aj u st fun r fs=>r=vB ((dY l.length (gJ l)&&decide (l.length≤16)))∧fs=[]):=fun e=>hn (by rw[←h0,e];rfl);refine HN _ _ _ (ai fj ?_);have ha:l[i]?=some l[i]:=cw hi;have hh: ∀q,au C jb [gL (l.take i),vI l[i].fr] (vI q) []↔q=fA (l.take i) l[i].fr:=fun q=>FQ (l.take i) l[i].fr fj q
   have zV:aE (l.map bW) 0 (i:Int)=(l.take i).map bW:=by rw[cO,mT];rfl
   have hin:gH 0 (i:Int) (l.length:Int)=true:=by simp;omega
   simp only[wR,w8,zV,aI,ha,aY,dA,dN,bY,fH,ij,eD,fI,dW,fJ,fK,iq,cW,natAdd,ct,cM,gX,dB,j7];simp only[ha,hin,hh,dN,aY,dA,lE,bF,gy,eX,bK,pO,ct];rw[aG an]
   cases i with
   |zero=>
    have e:gJ l 0=(iM l[0].id 1 60&&(decide (l[0].fr=0)|| !decide (fA (l.take 0) l[0].fr<0))):=by simp[gJ,atL,jF,hi]
    rw[e] at gO gN
    have hz: ¬((0:Int)<((0:Nat):Int)):=by omega
    simp only[aF hz]
    cases h1:iM l[0].id 1 60 with
    |false=>simp only[mw];exact rI _ _ _ (by rw[gO (by rw[h1];simp)];exact c7)
    |true=>
     simp only[lE]
     by_cases h2:l[0].fr=0
     ·rw[aJ h2];exact gN (by rw[h1,gq h2];simp)
     ·rw[aF h2]
      by_cases h3:fA (l.take 0) l[0].fr<0
      ·rw[aJ h3];exact rI _ _ _ (by rw[gO (by rw[fO h2,gq h3];simp)];exact c7)
      ·rw[aF h3];exact gN (by rw[h1,fO h3];simp)
   |succ k=>
    have hk:l[k]?=some l[k]:=cw an
    have e:gJ l (k+1)=(iM l[k+1].id 1 60&&(decide (l[k].id<l[k+1].id)&&(decide (l[k+1].fr=0)|| !decide (fA (l.take (k+1)) l[k+1].fr<0)))):=by simp only[gJ,atL,jF,hk,ha]
    rw[e] at gO gN;rw[dx an,show((k+1:Nat):Int)-1=(k:Int) by omega];simp only[aI,hk,aY,dA];rw[aJ an]
    cases h1:iM l[k+1].id 1 60 with
    |false=>simp only[mw];exact rI _ _ _ (by rw[gO (by rw[h1];simp)];exact c7)
    |true=>
     simp only[lE]
     by_cases h4:l[k].id<l[k+1].id
     ·rw[aF an]
      by_cases h2:l[k+1].fr=0
      ·rw[aJ h2];exact gN (by rw[h1,gq h4,gq h2];simp)
      ·rw[aF h2]
       by_cases h3:fA (l.take (k+1)) l[k+1].fr<0
       ·rw[aJ h3];exact rI _ _ _ (by rw[gO (by rw[fO h2,gq h3];simp)];exact c7)
       ·rw[aF h3];exact gN (by rw[h1,gq h4,fO h3];simp)
     ·rw[aJ an];exact rI _ _ _ (by rw[gO (by rw[fO h4];simp)];exact c7)
 exact key rfl
theorem XY (l:List Age) (hl:l.length≤1073741824) (q:Bool):au C dK [gL l] (vB q) []↔q=g9 l:=vO (yR l hl)
@[simp] theorem Lc (b a q:Int):au C B3 [vI b,vI a] (vI q) []↔q=j9 b a:=ajj ((YT _ _ _ c7).run)
@[simp] theorem Ld (b a k c g q:Int):au C qB [.ag [iI b,iI a,iI k,iI c,iI g]] (vI q) []↔q=j9 b a:=ajj (by
  refine(Zs _ _ _ _ _ _ ?_).run;simp only[Lc,dN]
  simp)
@[simp] theorem DE (b a q:Int):au C yz [vI b,vI a] (vI q) []↔q=j9 b a:=ajj ((Yq _ _ _ c7).run)
theorem PJ (t:Tree) (i:Nat) (n:List (List Key)) (hi:i<t.aD.length) (hl:cN t≤1073741824) (hn:n.length≤1073741824) (hz:tot cg n≤1073741824):ah C cc ay 4 0 (kO i ((0:Nat):Int) (t.aD.map bS) (t.nodes.map aR) (n.map cZ)) (fun u st=>ax C cc ay u st fun r fs=>r=vB (n.all (cK t.aD i))∧fs=[]):=by
 have hll:t.aD.length≤1073741824:=by unfold cN at hl;omega
 have hlo:t.aD[i]?=some t.aD[i]:=cw hi
 have key:(n.drop 0).all (cK t.aD i)=n.all (cK t.aD i)→ah C cc ay 4 0 (kO i ((0:Nat):Int) (t.aD.map bS) (t.nodes.map aR) (n.map cZ)) (fun u st=>ax C cc ay u st fun r fs=>r=vB (n.all (cK t.aD i))∧fs=[]):=by
  refine bh n (fun k=>(n.drop k).all (cK t.aD i)=n.all (cK t.aD i)→ah C cc ay 4 0 (kO i k (t.aD.map bS) (t.nodes.map aR) (n.map cZ)) (fun u st=>ax C cc ay u st fun r fs=>r=vB (n.all (cK t.aD i))∧fs=[])) ?_ ?_
  ·intro h0
   refine HD _ _ _ _ _ _ (aa dh (SB _ _ _ _ _ _ _ ?_));rw[eK] at h0;simp only[qS] at h0;rw[←h0];exact c7
  ·intro k s hk hs hd uD hnext h0
   have hsl:s.length≤tot cg n:=oF (w:=cg) hs;rw[hd,qu] at h0;refine HD _ _ _ _ _ _ (ai fj ?_)
   have keyI:(s.drop 0).all (jP t.aD i)=s.all (jP t.aD i)→ah C cc iH 3 2 (mL i k ((0:Nat):Int) (t.aD.map bS) (t.nodes.map aR) (n.map cZ)) (fun u st=>qF C cc ay 4 0 y7 u st (fun u st=>ax C cc ay u st fun r fs=>r=vB (n.all (cK t.aD i))∧fs=[])):=by
    refine bh s (fun j=>(s.drop j).all (jP t.aD i)=s.all (jP t.aD i)→ah C cc iH 3 2 (mL i k j (t.aD.map bS) (t.nodes.map aR) (n.map cZ)) (fun u st=>qF C cc ay 4 0 y7 u st (fun u st=>ax C cc ay u st fun r fs=>r=vB (n.all (cK t.aD i))∧fs=[]))) ?_ ?_
    ·intro h1
     rw[eK] at h1;simp only[qS] at h1;refine HE _ _ _ _ _ _ _ (⟨_,ek hs,aa dh (SD _ _ _ _ _ _ _ _ ?_)⟩);rw[aG an];exact hnext (by rw[←h0];unfold cK;rw[←h1];simp)
    ·intro j x hj hx hdj htj hn2 h1
     rw[hdj,qu] at h1
     have gO:jP t.aD i x=false→qF C cc ay 4 0 y7 TX.ret (vm (t.aD.map bS) (t.nodes.map aR) (n.map cZ)) (fun u st=>ax C cc ay u st fun r fs=>r=vB (n.all (cK t.aD i))∧fs=[]):=fun e=>SC _ _ _ _ (SE _ _ _ _ (by
      have e2:cK t.aD i s=false:=by unfold cK;rw[←h1,e];rfl
      rw[←h0,e2];exact c7))
     have gN:jP t.aD i x=true→ah C cc iH 3 2 (mL i k ((j:Int)+1) (t.aD.map bS) (t.nodes.map aR) (n.map cZ)) (fun u st=>qF C cc ay 4 0 y7 u st (fun u st=>ax C cc ay u st fun r fs=>r=vB (n.all (cK t.aD i))∧fs=[])):=fun e=>hn2 (by rw[←h1,e];rfl)
     have e:jP t.aD i x=(!decide (j9 x.b x.a<t.aD[i])&&(match t.aD[i+1]? with|some hi=>decide (j9 x.b x.a<hi)|none=>true)):=by simp only[jP,ae2,hlo];rfl
     rw[e] at gO gN;refine HE _ _ _ _ _ _ _ (⟨_,ek hs,ai fj ⟨_,ek hs,?_⟩⟩);rw[aG (a:=(i:Int)) an,aG (a:=(j:Int)) an];simp only[lT,wQ,aI,hx,hlo,aY,dA,Ld,dN,eX,gy,bK,ct,pO]
     by_cases h2:j9 x.b x.a<t.aD[i]
     ·rw[aJ h2]
      exact gO (by rw[gq h2];rfl)
     ·rw[aF h2]
      by_cases h3:i+1<t.aD.length
      ·have hhi:t.aD[i+1]?=some t.aD[i+1]:=cw h3
       rw[aJ an,show((i:Int)+1)=((i+1:Nat):Int) by omega,aI,hhi];simp only[aY,dA];rw[hhi] at gO gN
       by_cases h4:j9 x.b x.a<t.aD[i+1]
       ·rw[aF an]
        exact gN (by rw[fO h2];simp[h4])
       ·rw[aJ an]
        exact gO (by simp[h4])
      ·rw[aF an]
       have hno:t.aD[i+1]?=none:=US an;rw[hno] at gN;exact gN (by rw[fO h2];rfl)
   exact keyI rfl
 exact key rfl
theorem Mc (t:Tree) (i:Nat) (n:List (List Key)) (hi:i<t.aD.length) (hl:cN t≤1073741824) (hn:n.length≤1073741824) (hz:tot cg n≤1073741824):ah C bI aj 4 0 (mE i (n.map cZ) (n.length:Int) ((0:Nat):Int) (t.aD.map bS) (t.nodes.map aR)) (fun u st=>ax C bI aj u st fun r fs=>r=vB (n.all (cK t.aD i))∧fs=[]):=by
 have hll:t.aD.length≤1073741824:=by unfold cN at hl;omega
 have hlo:t.aD[i]?=some t.aD[i]:=cw hi
 have key:(n.drop 0).all (cK t.aD i)=n.all (cK t.aD i)→ah C bI aj 4 0 (mE i (n.map cZ) (n.length:Int) ((0:Nat):Int) (t.aD.map bS) (t.nodes.map aR)) (fun u st=>ax C bI aj u st fun r fs=>r=vB (n.all (cK t.aD i))∧fs=[]):=by
  refine bh n (fun k=>(n.drop k).all (cK t.aD i)=n.all (cK t.aD i)→ah C bI aj 4 0 (mE i (n.map cZ) (n.length:Int) k (t.aD.map bS) (t.nodes.map aR)) (fun u st=>ax C bI aj u st fun r fs=>r=vB (n.all (cK t.aD i))∧fs=[])) ?_ ?_
  ·intro h0
   refine C2 _ _ _ _ _ _ _ (aa dh (Og _ _ _ _ _ _ _ _ ?_));rw[eK] at h0;simp only[qS] at h0;rw[←h0];exact c7
  ·intro k s hk hs hd uD hnext h0
   have hsl:s.length≤tot cg n:=oF (w:=cg) hs;rw[hd,qu] at h0;refine C2 _ _ _ _ _ _ _ (ai fj ⟨_,ek hs,?_⟩)
   have keyI:(s.drop 0).all (jP t.aD i)=s.all (jP t.aD i)→ah C bI pN 3 2 (kz i (n.map cZ) (n.length:Int) k (s.map bP) ((0:Nat):Int) (t.aD.map bS) (t.nodes.map aR)) (fun u st=>qF C bI aj 4 0 q9 u st (fun u st=>ax C bI aj u st fun r fs=>r=vB (n.all (cK t.aD i))∧fs=[])):=by
    refine bh s (fun j=>(s.drop j).all (jP t.aD i)=s.all (jP t.aD i)→ah C bI pN 3 2 (kz i (n.map cZ) (n.length:Int) k (s.map bP) j (t.aD.map bS) (t.nodes.map aR)) (fun u st=>qF C bI aj 4 0 q9 u st (fun u st=>ax C bI aj u st fun r fs=>r=vB (n.all (cK t.aD i))∧fs=[]))) ?_ ?_
    ·intro h1
     rw[eK] at h1;simp only[qS] at h1;refine C3 _ _ _ _ _ _ _ _ _ (aa dh (Oi _ _ _ _ _ _ _ _ _ _ _ ?_));rw[aG an];exact hnext (by rw[←h0];unfold cK;rw[←h1];simp)
    ·intro j x hj hx hdj htj hn2 h1
     rw[hdj,qu] at h1
     have gO:jP t.aD i x=false→qF C bI aj 4 0 q9 TX.ret (sE (t.aD.map bS) (t.nodes.map aR) x.b x.a x.k x.c x.g) (fun u st=>ax C bI aj u st fun r fs=>r=vB (n.all (cK t.aD i))∧fs=[]):=fun e=>Oh _ _ _ _ _ _ _ _ (Oj _ _ _ _ _ _ _ _ (by
      have e2:cK t.aD i s=false:=by unfold cK;rw[←h1,e];rfl
      rw[←h0,e2];exact c7))
     have gN:jP t.aD i x=true→ah C bI pN 3 2 (kz i (n.map cZ) (n.length:Int) k (s.map bP) ((j:Int)+1) (t.aD.map bS) (t.nodes.map aR)) (fun u st=>qF C bI aj 4 0 q9 u st (fun u st=>ax C bI aj u st fun r fs=>r=vB (n.all (cK t.aD i))∧fs=[])):=fun e=>hn2 (by rw[←h1,e];rfl)
     have e:jP t.aD i x=(!decide (j9 x.b x.a<t.aD[i])&&(match t.aD[i+1]? with|some hi=>decide (j9 x.b x.a<hi)|none=>true)):=by simp only[jP,ae2,hlo];rfl
     rw[e] at gO gN;refine C3 _ _ _ _ _ _ _ _ _ (ai fj ?_);rw[aG (a:=(i:Int)) an,aG (a:=(j:Int)) an];simp only[lT,wQ,aI,hx,hlo,aY,dA,DE,dN,eX,gy,bK,ct,pO]
     by_cases h2:j9 x.b x.a<t.aD[i]
     ·rw[aJ h2]
      exact gO (by rw[gq h2];rfl)
     ·rw[aF h2]
      by_cases h3:i+1<t.aD.length
      ·have hhi:t.aD[i+1]?=some t.aD[i+1]:=cw h3
       rw[aJ an,show((i:Int)+1)=((i+1:Nat):Int) by omega,aI,hhi];simp only[aY,dA];rw[hhi] at gO gN
       by_cases h4:j9 x.b x.a<t.aD[i+1]
       ·rw[aF an]
        exact gN (by rw[fO h2];simp[h4])
       ·rw[aJ an]
        exact gO (by simp[h4])
      ·rw[aF an]
       have hno:t.aD[i+1]?=none:=US an;rw[hno] at gN;exact gN (by rw[fO h2];rfl)
   exact keyI rfl
 exact key rfl
theorem R5 (t:Tree) (i:Nat) (n:List (List Key)) (ha:t.nodes[i]?=some n) (hlo:i<t.aD.length) (hl:cN t≤1073741824):au C cc [ef t,vI i] (vB (iQ n&&((decide (i=0)|| !decide ((aU n).length=0))&&n.all (cK t.aD i)))) []:=by
 have hz:aO n≤tot aO t.nodes:=oF (w:=aO) ha;have e1:aO n=n.length+tot cg n:=rfl;have e2:cN t=t.aD.length+(t.nodes.length+tot aO t.nodes):=rfl;have hnk:=dy n;refine(Yu _ _ _ _ ⟨_,ek (e:=aR) ha,_,yO n an an,?_⟩).run
 cases h1:iQ n with
 |false=>exact ai rfl c7
 |true=>
  refine aa rfl ?_;have aqf:=PJ t i n hlo hl an an
  have conv: ∀B:Bool,B=n.all (cK t.aD i)→ah C cc ay 4 0 (kO i 0 (t.aD.map bS) (t.nodes.map aR) (n.map cZ)) (fun u st=>ax C cc ay u st fun r fs=>r=vB B∧fs=[]):=fun B hB=>by subst hB;exact aqf
  cases i with
  |zero=>exact aa dh (conv _ dh)
  |succ k=>
   refine ai (by first|(simp;done)|(simp;omega)) ⟨_,B5 n an an,?_⟩
   by_cases h2:(aU n).length=0
   ·refine ai (by simp[h2]) ?_
    simp[h2]
   ·exact aa (by simpa using h2) (conv _ (by simp[h2]))
theorem yS (t:Tree) (hl:cN t≤1073741824):au C bu [ef t] (vB (gU t)) []:=by
 have e2:cN t=t.aD.length+(t.nodes.length+tot aO t.nodes):=rfl;refine(YG _ _ _ ?_).run;simp only[DC,dN,ct,pO,bF,bY];unfold gU
 cases h1:iM (t.nodes.length:Int) 1 20 with
 |false=>exact aa rfl c7
 |true=>
  refine ai rfl ?_
  have hn1:1≤t.nodes.length:=by have:=yh h1;omega
  by_cases h2:t.aD.length=t.nodes.length
  ·refine ai (by simp[h2]) ?_
   have h0:t.aD[0]?=some t.aD[0]:=cw an
   have UQ:fE t.aD 0=some t.aD[0]:=by rw[show(0:Int)=((0:Nat):Int) from rfl,aI];exact h0
   simp only[wQ,UQ,h0,aY,dA,bK]
   by_cases h3:t.aD[0]=0
   ·rw[aJ (by simpa using h3)]
    have hw:(true&&(decide (t.aD.length=t.nodes.length)&&((decide (t.aD[0]=0))&&(dY t.nodes.length (eo t)&&decide ((aC t).length≤60)))))=(dY t.nodes.length (eo t)&&decide ((aC t).length≤60)):=by simp[h2,h3]
    rw[hw]
    have key:((List.range' 0 (t.nodes.length-0)).all (eo t)&&decide ((aC t).length≤60))=(dY t.nodes.length (eo t)&&decide ((aC t).length≤60))→ah C bu ak 4 0 (mM ((0:Nat):Int) (t.aD.map bS) (t.nodes.map aR)) (fun u st=>ax C bu ak u st fun r fs=>r=vB (dY t.nodes.length (eo t)&&decide ((aC t).length≤60))∧fs=[]):=by
     refine th t.nodes.length (fun i=>((List.range' i (t.nodes.length-i)).all (eo t)&&decide ((aC t).length≤60))=(dY t.nodes.length (eo t)&&decide ((aC t).length≤60))→ah C bu ak 4 0 (mM i (t.aD.map bS) (t.nodes.map aR)) _) ?_ ?_
     ·intro h0
      rw[qT] at h0;simp only[List.range'_zero,qS,dB] at h0;refine HM _ _ _ _ (aa dh (S5 _ _ _ _ _ ⟨_,kk t hl,?_⟩));rw[←h0];simp[gy];omega
     ·intro i hi hn h0
      rw[nG hi,qu] at h0;have ha:t.nodes[i]?=some t.nodes[i]:=cw hi;have hli:t.aD[i]?=some t.aD[i]:=cw an;have gO:eo t i=false→ax C bu ak TX.ret (ry (t.aD.map bS) (t.nodes.map aR)) (fun r fs=>r=vB (dY t.nodes.length (eo t)&&decide ((aC t).length≤60))∧fs=[]):=fun e=>S4 _ _ _ (by rw[←h0,e];exact c7);have gN:eo t i=true→ah C bu ak 4 0 (mM ((i:Int)+1) (t.aD.map bS) (t.nodes.map aR)) (fun u st=>ax C bu ak u st fun r fs=>r=vB (dY t.nodes.length (eo t)&&decide ((aC t).length≤60))∧fs=[]):=fun e=>hn (by rw[←h0,e];rfl)
      have hh: ∀q,au C cc [ef t,vI i] (vB q) []↔q=_:=fun q=>vO (R5 t i t.nodes[i] ha an hl);refine HM _ _ _ _ (ai fj ?_);rw[aG an];simp only[hh,dN,eX,gy,bK,bY]
      cases i with
      |zero=>
       have e:eo t 0=(iQ t.nodes[0]&&((decide (0=0)|| !decide ((aU t.nodes[0]).length=0))&&t.nodes[0].all (cK t.aD 0))):=by simp only[eo,jF,ha,dB]
       rw[e] at gO gN;rw[aF an];exact td gN gO
      |succ k=>
       have hk:t.aD[k]?=some t.aD[k]:=cw an
       have e:eo t (k+1)=(decide (t.aD[k]<t.aD[k+1])&&(iQ t.nodes[k+1]&&((decide (k+1=0)|| !decide ((aU t.nodes[k+1]).length=0))&&t.nodes[k+1].all (cK t.aD (k+1))))):=by simp only[eo,jF,ha,hk,hli]
       rw[e] at gO gN;rw[aJ an,dx an,show((k+1:Nat):Int)-1=(k:Int) by omega];simp only[wQ,aI,hk,hli,aY,dA]
       by_cases h4:t.aD[k]<t.aD[k+1]
       ·rw[aF an]
        rw[gq h4,dB] at gO gN;exact td gN gO
       ·rw[aJ an]
        exact gO (by rw[fO h4];rfl)
    exact key rfl
   ·rw[aF (by simpa using h3)]
    simp[h3]
  ·refine aa fj ?_
   simp[h2]
theorem NF (t:Tree) (i:Nat) (n:List (List Key)) (ha:t.nodes[i]?=some n) (hlo:i<t.aD.length) (hl:cN t≤1073741824):au C bI [ef t,vI i] (vB (n.all (cK t.aD i))) []:=by
 have hz:aO n≤tot aO t.nodes:=oF (w:=aO) ha;have e1:aO n=n.length+tot cg n:=rfl;have e2:cN t=t.aD.length+(t.nodes.length+tot aO t.nodes):=rfl;refine(Tf _ _ _ _ ⟨_,ek (e:=aR) ha,?_⟩).run;simp only[ct,pO];exact Mc t i n hlo hl an an
theorem yT (t:Tree) (hl:cN t≤1073741824):au C cU [ef t] (vB (gU t)) []:=by
 have e2:cN t=t.aD.length+(t.nodes.length+tot aO t.nodes):=rfl;refine(Yo _ _ _ ?_).run;simp only[w8,dN,ct,pO,bF,bY];unfold gU
 cases h1:iM (t.nodes.length:Int) 1 20 with
 |false=>exact aa rfl c7
 |true=>
  refine ai rfl ?_
  have hn1:1≤t.nodes.length:=by have:=yh h1;omega
  by_cases h2:t.aD.length=t.nodes.length
  ·refine ai (by simp[h2]) ?_
   have h0:t.aD[0]?=some t.aD[0]:=cw an
   have UQ:fE t.aD 0=some t.aD[0]:=by rw[show(0:Int)=((0:Nat):Int) from rfl,aI];exact h0
   simp only[wQ,UQ,h0,aY,dA,bK]
   by_cases h3:t.aD[0]=0
   ·rw[aJ (by simpa using h3)]
    have hw:(true&&(decide (t.aD.length=t.nodes.length)&&((decide (t.aD[0]=0))&&(dY t.nodes.length (eo t)&&decide ((aC t).length≤60)))))=(dY t.nodes.length (eo t)&&decide ((aC t).length≤60)):=by simp[h2,h3]
    rw[hw]
    have key: ∀c:Nat,c+((t.nodes.drop 0).flatMap aU).length=(aC t).length→((List.range' 0 (t.nodes.length-0)).all (eo t)&&decide ((aC t).length≤60))=(dY t.nodes.length (eo t)&&decide ((aC t).length≤60))→ah C cU ay 4 0 (jB c (t.nodes.map aR) ((0:Nat):Int) (t.aD.map bS)) (fun u st=>ax C cU ay u st fun r fs=>r=vB (dY t.nodes.length (eo t)&&decide ((aC t).length≤60))∧fs=[]):=by
     refine th t.nodes.length (fun i=> ∀c:Nat,c+((t.nodes.drop i).flatMap aU).length=(aC t).length→((List.range' i (t.nodes.length-i)).all (eo t)&&decide ((aC t).length≤60))=(dY t.nodes.length (eo t)&&decide ((aC t).length≤60))→ah C cU ay 4 0 (jB c (t.nodes.map aR) i (t.aD.map bS)) _) ?_ ?_
     ·intro c hc h0
      rw[qT] at h0;simp only[List.range'_zero,qS,dB] at h0;rw[eK] at hc;simp at hc;refine HC _ _ _ _ _ (aa dh (SA _ _ _ _ _ _ _ ?_));rw[←h0];simp[gy];omega
     ·intro i hi hn c hc h0
      rw[nG hi,qu] at h0;have ha:t.nodes[i]?=some t.nodes[i]:=cw hi;have hli:t.aD[i]?=some t.aD[i]:=cw an;rw[KT hi,List.flatMap_cons,cM] at hc;have hz:aO t.nodes[i]≤tot aO t.nodes:=oF (w:=aO) ha;have e1:aO t.nodes[i]=t.nodes[i].length+tot cg t.nodes[i]:=rfl;have hnk:=dy t.nodes[i];have uD:=fz t;have gO1:eo t i=false→ax C cU ay TX.ret (mK (t.aD.map bS) (t.nodes.map aR) (t.nodes[i].map cZ)) (fun r fs=>r=vB (dY t.nodes.length (eo t)&&decide ((aC t).length≤60))∧fs=[]):=fun e=>Sy _ _ _ _ (by rw[←h0,e];exact c7)
      have gO2:eo t i=false→ax C cU ay TX.ret (vl (t.aD.map bS) (t.nodes.map aR) (t.nodes[i].map cZ) ((aU t.nodes[i]).map bP)) (fun r fs=>r=vB (dY t.nodes.length (eo t)&&decide ((aC t).length≤60))∧fs=[]):=fun e=>Sz _ _ _ _ _ (by rw[←h0,e];exact c7);have gN:eo t i=true→ah C cU ay 4 0 (jB ((c:Int)+((aU t.nodes[i]).length:Int)) (t.nodes.map aR) ((i:Int)+1) (t.aD.map bS)) (fun u st=>ax C cU ay u st fun r fs=>r=vB (dY t.nodes.length (eo t)&&decide ((aC t).length≤60))∧fs=[]):=fun e=>hn (c+(aU t.nodes[i]).length) an (by rw[←h0,e];rfl)
      have hb: ∀q,au C bI [ef t,vI i] (vB q) []↔q=_:=fun q=>vO (NF t i t.nodes[i] ha an hl);have hk: ∀q,au C dw [iu t.nodes[i]] (.c (.sub 5 q)) []↔q=(aU t.nodes[i]).map bP:=fun q=>kN t.nodes[i] an an q;have ho: ∀q,au C cv [iu t.nodes[i]] (vB q) []↔q=iQ t.nodes[i]:=fun q=>XX t.nodes[i] an an q;refine HC _ _ _ _ _ (ai fj ?_);simp only[tP,aI,ha,aY,dA,hb,hk,ho,dN,eX,gy,bF,bK,bY,ct,pO];rw[aG (a:=(c:Int)) an,aG (a:=(i:Int)) an]
      cases i with
      |zero=>
       have e:eo t 0=(iQ t.nodes[0]&&((decide (0=0)|| !decide ((aU t.nodes[0]).length=0))&&t.nodes[0].all (cK t.aD 0))):=by simp only[eo,jF,ha,dB]
       rw[e] at gO1 gN
       have MJ: ¬((0:Int)<((0:Nat):Int)):=by omega
       simp only[aF MJ]
       cases h4:iQ t.nodes[0] with
       |false=>exact aa rfl (gO1 (by rw[h4];rfl))
       |true=>
        refine ai rfl ?_
        cases h5:t.nodes[0].all (cK t.aD 0) with
        |false=>exact aa rfl (gO1 (by rw[h4,h5];simp))
        |true=>exact ai rfl (gN (by rw[h4,h5];simp))
      |succ k=>
       have Ki:t.aD[k]?=some t.aD[k]:=cw an
       have e:eo t (k+1)=(decide (t.aD[k]<t.aD[k+1])&&(iQ t.nodes[k+1]&&((decide (k+1=0)|| !decide ((aU t.nodes[k+1]).length=0))&&t.nodes[k+1].all (cK t.aD (k+1))))):=by simp only[eo,jF,ha,Ki,hli]
       rw[e] at gO1 gO2 gN
       have MJ:(0:Int)<((k+1:Nat):Int):=by omega
       simp only[aJ MJ];rw[dx an,show((k+1:Nat):Int)-1=(k:Int) by omega];simp only[wQ,aI,Ki,hli,aY,dA]
       by_cases h6:t.aD[k]<t.aD[k+1]
       ·rw[aF an]
        cases h4:iQ t.nodes[k+1] with
        |false=>exact aa rfl (gO1 (by rw[h4];simp))
        |true=>
         refine ai rfl ?_
         cases h5:t.nodes[k+1].all (cK t.aD (k+1)) with
         |false=>exact aa rfl (gO1 (by rw[h4,h5];simp))
         |true=>
          refine ai rfl ?_
          by_cases h7:(aU t.nodes[k+1]).length=0
          ·rw[aJ an];exact gO2 (by rw[h4,h5];simp[h7])
          ·rw[aF an];exact gN (by rw[h4,h5,gq h6];simp[h7])
       ·rw[aJ an]
        exact gO1 (by rw[fO h6];rfl)
    exact key 0 (by simp[aC]) rfl
   ·rw[aF (by simpa using h3)]
    simp[h3]
  ·refine aa fj ?_
   simp[h2]
theorem PK (p:Pool) (hS:aN p≤4194304):au C bZ [dQ p] (vB (j6 p)) []:=by
 have hP:=cJ hS
 have hname: ∀v∈p.av,v.name.size≤140737488355328:=fun v hv=>by have:=pX (w:=qd) hv;have e:qd v=v.name.size:=rfl;omega
 refine(Wo _ _ _ _ _ _ _ ?_).run;unfold j6
 have key:((List.range' 0 (p.av.length-0)).all (cP p)&&decide (p.av.length≤6))=(dY p.av.length (cP p)&&decide (p.av.length≤6))→ah C bZ aj 4 0 (nq ((0:Nat):Int) (p.t.aD.map bS) (p.t.nodes.map aR) (p.aL.map bW) (p.cells.map bQ) (p.av.map cu) p.next) (fun u st=>ax C bZ aj u st fun r fs=>r=vB (dY p.av.length (cP p)&&decide (p.av.length≤6))∧fs=[]):=by
  refine th p.av.length (fun i=>((List.range' i (p.av.length-i)).all (cP p)&&decide (p.av.length≤6))=(dY p.av.length (cP p)&&decide (p.av.length≤6))→ah C bZ aj 4 0 (nq i (p.t.aD.map bS) (p.t.nodes.map aR) (p.aL.map bW) (p.cells.map bQ) (p.av.map cu) p.next) (fun u st=>ax C bZ aj u st fun r fs=>r=vB (dY p.av.length (cP p)&&decide (p.av.length≤6))∧fs=[])) ?_ ?_
  ·intro h0
   rw[qT] at h0;simp only[List.range'_zero,qS,dB] at h0;refine EH _ _ _ _ _ _ _ _ (aa dh (Qe _ _ _ _ _ _ _ _ _ ?_));rw[←h0];simp[gy];omega
  ·intro i hi hn h0
   rw[nG hi,qu] at h0;have ha:p.av[i]?=some p.av[i]:=cw hi;have hv:=hname p.av[i] (DM hi);have hkl:=VG p.aL p.av[i].cY;have gO1:cP p i=false→ax C bZ aj TX.ret (nr (p.t.aD.map bS) (p.t.nodes.map aR) (p.aL.map bW) (p.cells.map bQ) (p.av.map cu) p.next p.av[i].name p.av[i].cY p.av[i].size p.av[i].fx) (fun r fs=>r=vB (dY p.av.length (cP p)&&decide (p.av.length≤6))∧fs=[]):=fun e=>Qb _ _ _ _ _ _ _ _ _ _ _ (by rw[←h0,e];exact c7)
   have gO2:cP p i=false→ax C bZ aj TX.ret (tZ (p.t.aD.map bS) (p.t.nodes.map aR) (p.aL.map bW) (p.cells.map bQ) (p.av.map cu) p.next p.av[i].name p.av[i].cY p.av[i].size p.av[i].fx ((eJ p.aL p.av[i].cY).map bS)) (fun r fs=>r=vB (dY p.av.length (cP p)&&decide (p.av.length≤6))∧fs=[]):=fun e=>Qd _ _ _ _ _ _ _ _ _ _ _ _ (by rw[←h0,e];exact c7);have gN:cP p i=true→ah C bZ aj 4 0 (nq ((i:Int)+1) (p.t.aD.map bS) (p.t.nodes.map aR) (p.aL.map bW) (p.cells.map bQ) (p.av.map cu) p.next) (fun u st=>ax C bZ aj u st fun r fs=>r=vB (dY p.av.length (cP p)&&decide (p.av.length≤6))∧fs=[]):=fun e=>hn (by rw[←h0,e];rfl)
   have hin: ∀b:Bool,((p.av.take i).any fun u=>decide (u.cY=p.av[i].cY))=b→(b=true→cP p i=false)→(b=false→cP p i=true)→ah C bZ pM 3 2 (k9 i 0 (p.t.aD.map bS) (p.t.nodes.map aR) (p.aL.map bW) (p.cells.map bQ) (p.av.map cu) p.next p.av[i].name p.av[i].cY p.av[i].size p.av[i].fx) (fun u st=>qF C bZ aj 4 0 AL u st (fun u st=>ax C bZ aj u st fun r fs=>r=vB (dY p.av.length (cP p)&&decide (p.av.length≤6))∧fs=[])):=by
    intro b hb hbt hbf
    have keyI:(((p.av.take i).drop 0).any fun u=>decide (u.cY=p.av[i].cY))=b→ah C bZ pM 3 2 (k9 i ((0:Nat):Int) (p.t.aD.map bS) (p.t.nodes.map aR) (p.aL.map bW) (p.cells.map bQ) (p.av.map cu) p.next p.av[i].name p.av[i].cY p.av[i].size p.av[i].fx) (fun u st=>qF C bZ aj 4 0 AL u st (fun u st=>ax C bZ aj u st fun r fs=>r=vB (dY p.av.length (cP p)&&decide (p.av.length≤6))∧fs=[])):=by
     have hle:(p.av.take i).length=i:=by simp;omega
     refine bh (p.av.take i) (fun k=>(((p.av.take i).drop k).any fun u=>decide (u.cY=p.av[i].cY))=b→ah C bZ pM 3 2 (k9 i k (p.t.aD.map bS) (p.t.nodes.map aR) (p.aL.map bW) (p.cells.map bQ) (p.av.map cu) p.next p.av[i].name p.av[i].cY p.av[i].size p.av[i].fx) (fun u st=>qF C bZ aj 4 0 AL u st (fun u st=>ax C bZ aj u st fun r fs=>r=vB (dY p.av.length (cP p)&&decide (p.av.length≤6))∧fs=[]))) ?_ ?_
     ·intro h1
      rw[eK] at h1;simp only[List.any_nil] at h1;refine EI _ _ _ _ _ _ _ _ _ _ _ _ _ (aa fj (Qg _ _ _ _ _ _ _ _ _ _ _ _ _ ?_));rw[aG an];exact gN (hbf h1.symm)
     ·intro k u hk hu hd uD hn2 h1
      have hu':p.av[k]?=some u:=by rw[←hu,DL];simp;omega
      rw[hd,List.any_cons] at h1;refine EI _ _ _ _ _ _ _ _ _ _ _ _ _ (ai fj ?_);rw[aG an];simp only[yM,aI,hu',aY,dA,bF,bK]
      by_cases h2:u.cY=p.av[i].cY
      ·rw[aJ h2]
       rw[gq h2,Bool.true_or] at h1;exact Qf _ _ _ _ _ _ _ _ _ _ _ (gO1 (hbt h1.symm))
      ·rw[aF h2]
       rw[fO h2,IL] at h1;exact hn2 h1
    exact keyI hb
   have afC: ∀z,au C ez [gL p.aL,vI p.av[i].cY] (vI z) []↔z=fA p.aL p.av[i].cY:=fun z=>FP p.aL p.av[i].cY an z;have aoK: ∀z,au C gQ [gL p.aL,vI p.av[i].cY] (.c (.sub 1 z)) []↔z=(eJ p.aL p.av[i].cY).map bS:=fun z=>ac9 (yN p.aL p.av[i].cY an);refine EH _ _ _ _ _ _ _ _ (ai fj ?_);simp only[yM,aI,ha,aY,dA,uX p.av[i].name hv,DC,afC,aoK,dN,bY,eX,bK,ct,pO]
   cases h1:j5 p.av[i].name with
   |false=>exact aa rfl (gO1 (by simp[cP,ha,h1]))
   |true=>
    refine ai rfl ?_
    cases h2:iM p.av[i].size 1 12 with
    |false=>exact aa rfl (gO1 (by simp[cP,ha,h2]))
    |true=>
     refine ai rfl ?_
     by_cases h3:fA p.aL p.av[i].cY<0
     ·rw[aJ h3];exact gO1 (by simp[cP,ha,h3])
     ·rw[aF h3]
      by_cases h4:(eJ p.aL p.av[i].cY).length=0
      ·rw[aF an]
       cases i with
       |zero=>
        rw[aF an];exact hin _ rfl (fun e=>by simp at e) (fun e=>by simp[cP,ha,h1,h2,h3,h4,jF])
       |succ k=>
        have hk:p.av[k]?=some p.av[k]:=cw an;rw[aJ an,dx an,show((k+1:Nat):Int)-1=(k:Int) by omega];simp only[aI,hk,aY,dA]
        cases h5:RM p.av[k].name p.av[k+1].name with
        |false=>exact aa rfl (gO2 (by simp[cP,ha,hk,jF,h5]))
        |true=>exact ai rfl (hin _ rfl (fun e=>by simp only[cP,ha,e];simp) (fun e=>by simp only[cP,ha,hk,jF,h5,h1,h2,e];simp[h3,h4]))
      ·rw[aJ an];exact gO2 (by simp[cP,ha,h4])
 exact key rfl
theorem R6 (p:Pool) (hS:aN p≤4194304):au C fW [dQ p] (vB (j6 p)) []:=by
 have hP:=cJ hS
 have hname: ∀v∈p.av,v.name.size≤140737488355328:=fun v hv=>by have:=pX (w:=qd) hv;have e:qd v=v.name.size:=rfl;omega
 refine(Zr _ _ _ _ _ _ _ ?_).run;unfold j6
 have key:((List.range' 0 (p.av.length-0)).all (cP p)&&decide (p.av.length≤6))=(dY p.av.length (cP p)&&decide (p.av.length≤6))→ah C fW aj 4 0 (mS (p.av.map cu) ((0:Nat):Int) (p.t.aD.map bS) (p.t.nodes.map aR) (p.aL.map bW) (p.cells.map bQ) p.next) (fun u st=>ax C fW aj u st fun r fs=>r=vB (dY p.av.length (cP p)&&decide (p.av.length≤6))∧fs=[]):=by
  refine th p.av.length (fun i=>((List.range' i (p.av.length-i)).all (cP p)&&decide (p.av.length≤6))=(dY p.av.length (cP p)&&decide (p.av.length≤6))→ah C fW aj 4 0 (mS (p.av.map cu) i (p.t.aD.map bS) (p.t.nodes.map aR) (p.aL.map bW) (p.cells.map bQ) p.next) (fun u st=>ax C fW aj u st fun r fs=>r=vB (dY p.av.length (cP p)&&decide (p.av.length≤6))∧fs=[])) ?_ ?_
  ·intro h0
   rw[qT] at h0;simp only[List.range'_zero,qS,dB] at h0;refine Iq _ _ _ _ _ _ _ _ (aa dh (Uf _ _ _ _ _ _ _ _ _ _ ?_));rw[←h0];simp[gy];omega
  ·intro i hi hn h0
   rw[nG hi,qu] at h0;have ha:p.av[i]?=some p.av[i]:=cw hi;have hv:=hname p.av[i] (DM hi);have hkl:=VG p.aL p.av[i].cY;have gO1:cP p i=false→ax C fW aj TX.ret (kR (p.t.aD.map bS) (p.t.nodes.map aR) (p.aL.map bW) (p.cells.map bQ) (p.av.map cu) p.next p.av[i].name p.av[i].cY p.av[i].size p.av[i].fx) (fun r fs=>r=vB (dY p.av.length (cP p)&&decide (p.av.length≤6))∧fs=[]):=fun e=>Ud _ _ _ _ _ _ _ _ _ _ _ (by rw[←h0,e];exact c7)
   have gO2:cP p i=false→ax C fW aj TX.ret (oq (p.t.aD.map bS) (p.t.nodes.map aR) (p.aL.map bW) (p.cells.map bQ) (p.av.map cu) p.next p.av[i].name p.av[i].cY p.av[i].size p.av[i].fx ((eJ p.aL p.av[i].cY).map bS)) (fun r fs=>r=vB (dY p.av.length (cP p)&&decide (p.av.length≤6))∧fs=[]):=fun e=>Ue _ _ _ _ _ _ _ _ _ _ _ _ (by rw[←h0,e];exact c7);have gN:cP p i=true→ah C fW aj 4 0 (mS (p.av.map cu) ((i:Int)+1) (p.t.aD.map bS) (p.t.nodes.map aR) (p.aL.map bW) (p.cells.map bQ) p.next) (fun u st=>ax C fW aj u st fun r fs=>r=vB (dY p.av.length (cP p)&&decide (p.av.length≤6))∧fs=[]):=fun e=>hn (by rw[←h0,e];rfl)
   have afC: ∀z,au C jb [gL p.aL,vI p.av[i].cY] (vI z) []↔z=fA p.aL p.av[i].cY:=fun z=>FQ p.aL p.av[i].cY an z;have aoK: ∀z,au C gr [gL p.aL,vI p.av[i].cY] (.c (.sub 1 z)) []↔z=(eJ p.aL p.av[i].cY).map bS:=fun z=>ac9 (vh p.aL p.av[i].cY an)
   have zV:aE (p.av.map cu) 0 (i:Int)=(p.av.take i).map cu:=by rw[cO,mT];rfl
   have hcin:gH 0 (i:Int) (p.av.length:Int)=true:=by simp;omega
   have arL: ∀z,au C fD [qV (p.av.take i),.fn rP [[iS p.av[i].name,iI p.av[i].cY,iI p.av[i].size,iB p.av[i].fx]]] (vB z) []↔z=(p.av.take i).any fun u=>decide (u.cY=p.av[i].cY):=fun z=>vO (IF (p.av.take i) _ _ _ _ fj);refine Iq _ _ _ _ _ _ _ _ (ai fj ?_);simp only[zV,yM,aI,ha,aY,dA,ng p.av[i].name hv,w8,afC,aoK,arL,dN,bY,eX,bK,ct,pO];rw[aG an]
   cases h1:j5 p.av[i].name with
   |false=>exact aa rfl (gO1 (by simp[cP,ha,h1]))
   |true=>
    refine ai rfl ?_
    cases i with
    |zero=>
     rw[aF an]
     cases h2:iM p.av[0].size 1 12 with
     |false=>exact aa rfl (gO1 (by simp[cP,ha,h2]))
     |true=>
      refine ai rfl ?_
      by_cases h3:fA p.aL p.av[0].cY<0
      ·rw[aJ h3];exact gO1 (by simp[cP,ha,h3])
      ·rw[aF h3]
       by_cases h4:(eJ p.aL p.av[0].cY).length=0
       ·rw[aF an]
        refine ai hcin ?_
        cases h6:(p.av.take (0)).any fun u=>decide (u.cY=p.av[0].cY) with
        |true=>exact ai rfl (gO2 (by simp only[cP,ha,h6];simp))
        |false=>exact aa rfl (gN (by simp only[cP,ha,h6,h1,h2,jF];simp[h3,h4]))
       ·rw[aJ an];exact gO2 (by simp[cP,ha,h4])
    |succ k=>
     have hk:p.av[k]?=some p.av[k]:=cw an;rw[aJ an,dx an,show((k+1:Nat):Int)-1=(k:Int) by omega];simp only[aI,hk,aY,dA]
     cases h5:RM p.av[k].name p.av[k+1].name with
     |false=>exact aa rfl (gO1 (by simp[cP,ha,hk,jF,h5]))
     |true=>
      refine ai rfl ?_
      cases h2:iM p.av[k+1].size 1 12 with
      |false=>exact aa rfl (gO1 (by simp[cP,ha,h2]))
      |true=>
       refine ai rfl ?_
       by_cases h3:fA p.aL p.av[k+1].cY<0
       ·rw[aJ h3];exact gO1 (by simp[cP,ha,h3])
       ·rw[aF h3]
        by_cases h4:(eJ p.aL p.av[k+1].cY).length=0
        ·rw[aF an]
         refine ai hcin ?_
         cases h6:(p.av.take (k+1)).any fun u=>decide (u.cY=p.av[k+1].cY) with
         |true=>exact ai rfl (gO2 (by simp only[cP,ha,h6];simp))
         |false=>exact aa rfl (gN (by simp only[cP,ha,h6,h1,h2,jF,hk,h5];simp[h3,h4]))
        ·rw[aJ an];exact gO2 (by simp[cP,ha,h4])
 exact key rfl
theorem ajT:uE 24=24:=by unfold uE;rfl
theorem g24 {n:Nat} (h:n≤1000):(true&&bO 24 24&&nv 0 24&&fits (uE 24) n)=true:=by rw[ajT,cT an];simp
theorem aob:(tT []).map Rw=List.replicate 24 [iB false]:=by rw[ade];rfl
theorem PL (p:Pool) (hS:aN p≤4194304):au C cn [dQ p] (vB (ic p)) []:=by
 have hP:=cJ hS;have htl:=fz p.t;refine(WH _ _ _ _ _ _ _ ?_).run;refine⟨_,kk p.t an,?_⟩;unfold ic;generalize aC p.t=L at*;have hdk:cX L≤L.length:=ZJ _ _
 have key: ∀c:Nat,c+cX (L.drop 0)=cX L→((List.range' 0 (L.length-0)).all (dF p L)&&decide ((cA p.cells:Int)=cX L))=(dY L.length (dF p L)&&decide ((cA p.cells:Int)=cX L))→ah C cn ay 4 0 (lu (c:Int) ((0:Nat):Int) (p.t.aD.map bS) (p.t.nodes.map aR) (p.aL.map bW) (p.cells.map bQ) (p.av.map cu) p.next (L.map bP)) (fun u st=>ax C cn ay u st fun r fs=>r=vB (dY L.length (dF p L)&&decide ((cA p.cells:Int)=cX L))∧fs=[]):=by
  refine th L.length (fun i=> ∀c:Nat,c+cX (L.drop i)=cX L→((List.range' i (L.length-i)).all (dF p L)&&decide ((cA p.cells:Int)=cX L))=(dY L.length (dF p L)&&decide ((cA p.cells:Int)=cX L))→ah C cn ay 4 0 (lu (c:Int) i (p.t.aD.map bS) (p.t.nodes.map aR) (p.aL.map bW) (p.cells.map bQ) (p.av.map cu) p.next (L.map bP)) (fun u st=>ax C cn ay u st fun r fs=>r=vB (dY L.length (dF p L)&&decide ((cA p.cells:Int)=cX L))∧fs=[])) ?_ ?_
  ·intro c hc h0
   rw[qT] at h0;simp only[List.range'_zero,qS,dB] at h0;rw[eK] at hc
   have hc0:c=cX L:=by simpa [cX] using hc
   subst hc0;refine EP _ _ _ _ _ _ _ _ _ _ (aa dh (Qx _ _ _ _ _ _ _ _ _ _ _ ⟨_,L8 p.cells an,?_⟩));rw[←h0];refine⟨?_,by trivial⟩;simp[bF,eq_comm]
  ·intro i hi hn c hc h0
   rw[nG hi,qu] at h0;have ha:L[i]?=some L[i]:=cw hi;rw[KT hi,K3] at hc;have gO1:dF p L i=false→ax C cn ay TX.ret (qm (p.t.aD.map bS) (p.t.nodes.map aR) (p.aL.map bW) (p.cells.map bQ) (p.av.map cu) p.next (L.map bP)) (fun r fs=>r=vB (dY L.length (dF p L)&&decide ((cA p.cells:Int)=cX L))∧fs=[]):=fun e=>Qw _ _ _ _ _ _ _ _ (by rw[←h0,e];exact c7);have gN: ∀c':Nat,c'+cX (L.drop (i+1))=cX L→dF p L i=true→ah C cn ay 4 0 (lu (c':Int) ((i:Int)+1) (p.t.aD.map bS) (p.t.nodes.map aR) (p.aL.map bW) (p.cells.map bQ) (p.av.map cu) p.next (L.map bP)) (fun u st=>ax C cn ay u st fun r fs=>r=vB (dY L.length (dF p L)&&decide ((cA p.cells:Int)=cX L))∧fs=[]):=fun c' e' e=>hn c' e' (by rw[←h0,e];rfl)
   have hin: ∀b:Bool,((L.take i).any fun x=>decide (x.k=1)&&decide (x.c=L[i].c))=b→(b=true→dF p L i=false)→(b=false→dF p L i=true)→L[i].k=1→ah C cn jJ 3 2 (lz c i 0 (p.t.aD.map bS) (p.t.nodes.map aR) (p.aL.map bW) (p.cells.map bQ) (p.av.map cu) p.next (L.map bP)) (fun u st=>qF C cn ay 4 0 wE u st (fun u st=>ax C cn ay u st fun r fs=>r=vB (dY L.length (dF p L)&&decide ((cA p.cells:Int)=cX L))∧fs=[])):=by
    intro b hb hbt hbf Ki;rw[aJ Ki] at hc
    have keyI:(((L.take i).drop 0).any fun x=>decide (x.k=1)&&decide (x.c=L[i].c))=b→ah C cn jJ 3 2 (lz c i ((0:Nat):Int) (p.t.aD.map bS) (p.t.nodes.map aR) (p.aL.map bW) (p.cells.map bQ) (p.av.map cu) p.next (L.map bP)) (fun u st=>qF C cn ay 4 0 wE u st (fun u st=>ax C cn ay u st fun r fs=>r=vB (dY L.length (dF p L)&&decide ((cA p.cells:Int)=cX L))∧fs=[])):=by
     have hle:(L.take i).length=i:=by simp;omega
     refine bh (L.take i) (fun k=>(((L.take i).drop k).any fun x=>decide (x.k=1)&&decide (x.c=L[i].c))=b→ah C cn jJ 3 2 (lz c i k (p.t.aD.map bS) (p.t.nodes.map aR) (p.aL.map bW) (p.cells.map bQ) (p.av.map cu) p.next (L.map bP)) (fun u st=>qF C cn ay 4 0 wE u st (fun u st=>ax C cn ay u st fun r fs=>r=vB (dY L.length (dF p L)&&decide ((cA p.cells:Int)=cX L))∧fs=[]))) ?_ ?_
     ·intro h1
      rw[eK] at h1;simp only[List.any_nil] at h1;refine ER _ _ _ _ _ _ _ _ _ _ _ (aa fj (Qz _ _ _ _ _ _ _ _ _ _ _ ?_));rw[aG an,aG an];exact gN (c+1) an (hbf h1.symm)
     ·intro k u hk hu hd uD hn2 h1
      have hu':L[k]?=some u:=by rw[←hu,DL];simp;omega
      rw[hd,List.any_cons] at h1;refine ER _ _ _ _ _ _ _ _ _ _ _ (ai fj ?_);rw[aG an];simp only[lT,aI,hu',ha,aY,dA,bF,bK]
      by_cases h3:u.k=1
      ·rw[aJ h3]
       by_cases h2:u.c=L[i].c
       ·rw[aJ h2]
        rw[gq h3,gq h2,Bool.and_self,Bool.true_or] at h1;exact Qy _ _ _ _ _ _ _ _ (gO1 (hbt h1.symm))
       ·rw[aF h2]
        rw[fO h2,Bool.and_false,IL] at h1;exact hn2 h1
      ·rw[aF h3]
       rw[fO h3,Bool.false_and,IL] at h1;exact hn2 h1
    exact keyI hb
   have afC: ∀z,au C ez [gL p.aL,vI L[i].a] (vI z) []↔z=fA p.aL L[i].a:=fun z=>FP p.aL L[i].a an z;have hcell: ∀n b,au C yA [jG p.cells,vI L[i].c,vI L[i].g] (.tu [(0,[iI n]),(0,[iB b])]) []↔n=(cellAt p.cells L[i].c L[i].g).1∧b=(cellAt p.cells L[i].c L[i].g).2:=fun n b=>XN p.cells an _ _ n b;refine EP _ _ _ _ _ _ _ _ _ _ (ai fj ?_);simp only[lT,aI,ha,aY,dA,afC,hcell,and_assoc,exists_and_left,dN,eX,bF,bY,bK]
   rw[aG (a:=(i:Int)) an]
   by_cases h1:fA p.aL L[i].a<0
   ·rw[aJ h1];exact gO1 (by simp[dF,ha,h1])
   ·rw[aF h1]
    by_cases h2:L[i].k=1
    ·rw[aJ h2]
     cases h3:(cellAt p.cells L[i].c L[i].g).2 with
     |false=>exact aa rfl (gO1 (by simp[dF,ha,h2,h3]))
     |true=>
      refine ai rfl ?_;exact hin _ rfl (fun e=>by simp only[dF,ha,e,h2];simp) (fun e=>by simp only[dF,ha,e,h2,h3];simp[h1]) h2
    ·rw[aF h2]
     rw[aF h2] at hc;exact gN c an (by simp[dF,ha,h1,h2])
 exact key 0 dh rfl
theorem PM (p:Pool) (hS:aN p≤4194304) (h24:p.cells.length=24):au C fX [dQ p] (vB (ic p)) []:=by
 have hP:=cJ hS;have htl:=fz p.t;refine(Wp _ _ _ _ _ _ _ ?_).run;refine ai (g24 an) ⟨_,ko p.t an,?_⟩;unfold ic;generalize aC p.t=L at*;have hdk:cX L≤L.length:=ZJ _ _
 have key: ∀c:Nat,c+cX (L.drop 0)=cX L→((List.range' 0 (L.length-0)).all (dF p L)&&decide ((cA p.cells:Int)=cX L))=(dY L.length (dF p L)&&decide ((cA p.cells:Int)=cX L))→ah C fX ay 4 0 (lq (c:Int) (L.map bP) ((0:Nat):Int) (p.t.aD.map bS) (p.t.nodes.map aR) (p.aL.map bW) (p.cells.map bQ) (p.av.map cu) p.next ((tT (L.take 0)).map Rw)) (fun u st=>ax C fX ay u st fun r fs=>r=vB (dY L.length (dF p L)&&decide ((cA p.cells:Int)=cX L))∧fs=[]):=by
  refine th L.length (fun i=> ∀c:Nat,c+cX (L.drop i)=cX L→((List.range' i (L.length-i)).all (dF p L)&&decide ((cA p.cells:Int)=cX L))=(dY L.length (dF p L)&&decide ((cA p.cells:Int)=cX L))→ah C fX ay 4 0 (lq (c:Int) (L.map bP) i (p.t.aD.map bS) (p.t.nodes.map aR) (p.aL.map bW) (p.cells.map bQ) (p.av.map cu) p.next ((tT (L.take i)).map Rw)) (fun u st=>ax C fX ay u st fun r fs=>r=vB (dY L.length (dF p L)&&decide ((cA p.cells:Int)=cX L))∧fs=[])) ?_ ?_
  ·intro c hc h0
   rw[qT] at h0;simp only[List.range'_zero,qS,dB] at h0;rw[eK] at hc
   have hc0:c=cX L:=by simpa [cX] using hc
   subst hc0;refine EJ _ _ _ _ _ _ _ _ _ _ _ (aa dh (Qj _ _ _ _ _ _ _ _ _ _ _ _ _ ⟨_,L9 p.cells an,?_⟩));rw[←h0];refine⟨?_,by trivial⟩;simp[bF,eq_comm]
  ·intro i hi hn c hc h0
   rw[nG hi,qu] at h0;have ha:L[i]?=some L[i]:=cw hi;rw[KT hi,K3] at hc;have gO1: ∀u,dF p L i=false→ax C fX ay TX.ret (qi (p.t.aD.map bS) (p.t.nodes.map aR) (p.aL.map bW) (p.cells.map bQ) (p.av.map cu) p.next L[i].b L[i].a L[i].k L[i].c L[i].g u (L.map bP)) (fun r fs=>r=vB (dY L.length (dF p L)&&decide ((cA p.cells:Int)=cX L))∧fs=[]):=fun u e=>Qi _ _ _ _ _ _ _ _ _ _ _ _ _ _ (by rw[←h0,e];exact c7)
   have ht1:L.take (i+1)=L.take i++[L[i]]:=by rw[List.take_add_one,ha];rfl
   have gN: ∀c':Nat,c'+cX (L.drop (i+1))=cX L→dF p L i=true→ah C fX ay 4 0 (lq (c':Int) (L.map bP) ((i:Int)+1) (p.t.aD.map bS) (p.t.nodes.map aR) (p.aL.map bW) (p.cells.map bQ) (p.av.map cu) p.next ((tT (L.take (i+1))).map Rw)) (fun u st=>ax C fX ay u st fun r fs=>r=vB (dY L.length (dF p L)&&decide ((cA p.cells:Int)=cX L))∧fs=[]):=fun c' e' e=>hn c' e' (by rw[←h0,e];rfl);have afC: ∀z,au C jb [gL p.aL,vI L[i].a] (vI z) []↔z=fA p.aL L[i].a:=fun z=>FQ p.aL L[i].a an z
   have hcell: ∀n b,au C yB [jG p.cells,vI L[i].c,vI L[i].g] (.tu [(0,[iI n]),(0,[iB b])]) []↔n=(cellAt p.cells L[i].c L[i].g).1∧b=(cellAt p.cells L[i].c L[i].g).2:=fun n b=>XO p.cells an _ _ n b;refine EJ _ _ _ _ _ _ _ _ _ _ _ (ai fj ?_);simp only[lT,aI,ha,aY,dA,afC,hcell,and_assoc,exists_and_left,dN,eX,bF,bY,bK];rw[aG (a:=(i:Int)) an]
   by_cases h1:fA p.aL L[i].a<0
   ·rw[aJ h1];exact gO1 _ (by simp[dF,ha,h1])
   ·rw[aF h1]
    by_cases h2:L[i].k=1
    ·rw[aJ h2]
     cases h3:(cellAt p.cells L[i].c L[i].g).2 with
     |false=>exact aa rfl (gO1 _ (by simp[dF,ha,h2,h3]))
     |true=>
      refine ai rfl ?_;have hci:=ag1 h3;rw[h24] at hci;simp only[alo,adf (L.take i) hci,aY,dA,dN,alp]
      cases h4:(L.take i).any fun x=>decide (x.k=1)&&decide (x.c=L[i].c) with
      |true=>exact ai rfl (gO1 _ (by simp only[dF,ha,h4,h2];simp))
      |false=>
       refine aa rfl ?_;rw[adg (L.take i) L[i] h2 hci,←ht1,aG (a:=(c:Int)) an];rw[aJ h2] at hc;exact gN (c+1) an (by simp only[dF,ha,h4,h2,h3];simp[h1])
    ·rw[aF h2]
     rw[aF h2] at hc;have hg:=gN c an (by simp[dF,ha,h1,h2]);rw[ht1,abg _ _ h2] at hg;exact hg
 rw[ajT,←aob];exact key 0 dh rfl
def nc (n:Int) (a:Age):Bool:=decide (a.id<n)
theorem ahn (p:Pool):dg p=(p.aL.all (nc p.next)&&(gU p.t&&(g9 p.aL&&(eY p.cells&&(iM p.next 1 61&&(j6 p&&ic p)))))):=rfl
theorem al1 {l:List Cell} (h:eY l=true):l.length=24:=by simp[eY] at h;omega
theorem PN (p:Pool) (hS:aN p≤4194304):au C cH [dQ p] (vB ((p.aL.all (nc p.next)&&(gU p.t&&(g9 p.aL&&(eY p.cells&&(iM p.next 1 61&&(j6 p&&ic p)))))))) []:=by
 refine(Zi _ _ _ _ _ _ _ ?_).run;have hP:=cJ hS;have htl:=fz p.t
 have key:((p.aL.drop 0).all (nc p.next)&&(gU p.t&&(g9 p.aL&&(eY p.cells&&(iM p.next 1 61&&(j6 p&&ic p))))))=(p.aL.all (nc p.next)&&(gU p.t&&(g9 p.aL&&(eY p.cells&&(iM p.next 1 61&&(j6 p&&ic p))))))→ah C cH aj 4 0 (om ((0:Nat):Int) (p.t.aD.map bS) (p.t.nodes.map aR) (p.aL.map bW) (p.cells.map bQ) (p.av.map cu) p.next) (fun u st=>ax C cH aj u st fun r fs=>r=vB ((p.aL.all (nc p.next)&&(gU p.t&&(g9 p.aL&&(eY p.cells&&(iM p.next 1 61&&(j6 p&&ic p)))))))∧fs=[]):=by
  refine bh p.aL (fun i=>((p.aL.drop i).all (nc p.next)&&(gU p.t&&(g9 p.aL&&(eY p.cells&&(iM p.next 1 61&&(j6 p&&ic p))))))=(p.aL.all (nc p.next)&&(gU p.t&&(g9 p.aL&&(eY p.cells&&(iM p.next 1 61&&(j6 p&&ic p))))))→ah C cH aj 4 0 (om i (p.t.aD.map bS) (p.t.nodes.map aR) (p.aL.map bW) (p.cells.map bQ) (p.av.map cu) p.next) (fun u st=>ax C cH aj u st fun r fs=>r=vB ((p.aL.all (nc p.next)&&(gU p.t&&(g9 p.aL&&(eY p.cells&&(iM p.next 1 61&&(j6 p&&ic p)))))))∧fs=[])) ?_ ?_
  ·intro h0
   refine Ij _ _ _ _ _ _ _ _ (aa dh (TZ _ _ _ _ _ _ _ _ _ ?_));rw[eK] at h0;simp only[qS,dB] at h0;rw[←h0];refine⟨_,yS p.t an,?_⟩
   cases h1:gU p.t with
   |false=>exact aa rfl c7
   |true=>
    refine ai rfl ⟨_,(XW p.aL an (g9 p.aL)).2 rfl,?_⟩
    cases h2:g9 p.aL with
    |false=>exact aa rfl c7
    |true=>
     refine ai rfl ⟨_,(AB p.cells an (eY p.cells)).2 rfl,?_⟩
     cases h3:eY p.cells with
     |false=>exact aa rfl c7
     |true=>
      refine ai rfl ⟨_,tE p.next 1 61,?_⟩
      cases h4:iM p.next 1 61 with
      |false=>exact aa rfl c7
      |true=>
       refine ai rfl ⟨_,PK p hS,?_⟩
       cases h5:j6 p with
       |false=>exact aa rfl c7
       |true=>exact ai rfl ⟨_,PL p hS,c7⟩
  ·intro i a hi ha hd uD hn h0
   have gO:(nc p.next) a=false→(p.aL.all (nc p.next)&&(gU p.t&&(g9 p.aL&&(eY p.cells&&(iM p.next 1 61&&(j6 p&&ic p))))))=false:=fun e=>by rw[←h0,hd];simp[e]
   have gN:(nc p.next) a=true→ah C cH aj 4 0 (om ((i:Int)+1) (p.t.aD.map bS) (p.t.nodes.map aR) (p.aL.map bW) (p.cells.map bQ) (p.av.map cu) p.next) (fun u st=>ax C cH aj u st fun r fs=>r=vB ((p.aL.all (nc p.next)&&(gU p.t&&(g9 p.aL&&(eY p.cells&&(iM p.next 1 61&&(j6 p&&ic p)))))))∧fs=[]):=fun e=>hn (by rw[←h0,hd];simp[e]);refine Ij _ _ _ _ _ _ _ _ (ai fj ?_);simp only[wR,aI,ha,aY,dA,gy,bK];rw[aG an]
   by_cases h1:p.next≤a.id
   ·rw[aJ h1];exact TY _ _ _ _ _ _ _ (by rw[gO (by simp[nc];omega)];exact c7)
   ·rw[aF h1];exact gN (by simp[nc];omega)
 exact key rfl
theorem gY (p:Pool) (hS:aN p≤4194304):au C cH [dQ p] (vB (dg p)) []:=PN p hS
theorem fq (p:Pool) (hS:aN p≤4194304):au C ew [dQ p] (vB (dg p)) []:=by
 have hP:=cJ hS;rw[ahn];refine(YC _ _ _ _ _ _ _ ?_).run;refine⟨_,yT p.t an,?_⟩
 cases h1:gU p.t with
 |false=>exact ai rfl ⟨by simp,by trivial⟩
 |true=>
  refine aa rfl ⟨_,(XY p.aL an (g9 p.aL)).2 rfl,?_⟩
  cases h2:g9 p.aL with
  |false=>exact ai rfl ⟨by simp,by trivial⟩
  |true=>
   refine aa rfl ⟨_,(AD p.cells an (eY p.cells)).2 rfl,?_⟩
   cases h3:eY p.cells with
   |false=>exact ai rfl ⟨by simp,by trivial⟩
   |true=>
    refine aa rfl ⟨_,nM p.next 1 61,?_⟩
    cases h4:iM p.next 1 61 with
    |false=>exact ai rfl ⟨by simp,by trivial⟩
    |true=>
     refine aa rfl ?_;simp only[dB]
     have key:((p.aL.drop 0).all (nc p.next)&&(j6 p&&ic p))=(p.aL.all (nc p.next)&&(j6 p&&ic p))→ah C ew ak 4 0 (ru (p.aL.map bW) ((0:Nat):Int) (p.t.aD.map bS) (p.t.nodes.map aR) (p.cells.map bQ) (p.av.map cu) p.next) (fun u st=>ax C ew ak u st fun r fs=>r=vB (p.aL.all (nc p.next)&&(j6 p&&ic p))∧fs=[]):=by
      refine bh p.aL (fun i=>((p.aL.drop i).all (nc p.next)&&(j6 p&&ic p))=(p.aL.all (nc p.next)&&(j6 p&&ic p))→ah C ew ak 4 0 (ru (p.aL.map bW) i (p.t.aD.map bS) (p.t.nodes.map aR) (p.cells.map bQ) (p.av.map cu) p.next) (fun u st=>ax C ew ak u st fun r fs=>r=vB (p.aL.all (nc p.next)&&(j6 p&&ic p))∧fs=[])) ?_ ?_
      ·intro h0
       rw[eK] at h0;simp only[qS,dB] at h0;refine HJ _ _ _ _ _ _ _ _ (aa dh (SV _ _ _ _ _ _ _ _ _ _ ⟨_,R6 p hS,?_⟩));rw[←h0]
       cases h5:j6 p with
       |false=>exact aa rfl c7
       |true=>exact ai rfl ⟨_,PM p hS (al1 h3),c7⟩
      ·intro i a hi ha hd uD hn h0
       rw[hd,qu] at h0;refine HJ _ _ _ _ _ _ _ _ (ai fj ?_);simp only[wR,aI,ha,aY,dA,gy,bK];rw[aG an]
       by_cases h5:p.next≤a.id
       ·rw[aJ h5]
        have e:nc p.next a=false:=by simp[nc];omega
        exact SU _ _ _ _ _ _ _ _ _ (by rw[←h0,e];exact c7)
       ·rw[aF h5]
        have e:nc p.next a=true:=by simp[nc];omega
        exact hn (by rw[←h0,e];rfl)
     exact key rfl
theorem yU (l:List Cell) (hl:l.length≤1073741824):au C lW [jG l] (jG l) []:=by
 refine(Ym _ _ ?_).run;rw[show bT (l.map bQ)=true from by simp[LI],cT fj];exact c7
theorem vW (l:List Cell) (hl:l.length≤1073741824):au C nK [jG l] (jG l) []:=by
 refine(Q3 _ _ ?_).run;rw[show bT (l.map bQ)=true from by simp[LI],cT fj];exact c7
theorem B6 (l:List Cell) (i:Int) (hl:l.length≤1073741824):au C ya [jG l,vI i] (jG (ke l i)) []:=by
 refine(SW _ _ _ ⟨_,yU l hl,_,(AB l hl (eY l)).2 rfl,?_⟩).run
 cases h1:eY l with
 |false=>exact aa rfl ⟨by rw[Nr h1],by trivial⟩
 |true=>
  refine ai rfl ⟨_,tE _ _ _,?_⟩
  (try dsimp only)
  rw[ct,show cV (Int.ofNat l.length) 1=(l.length:Int)-1 from dx fj]
  by_cases h2:0≤i∧i<l.length
  ·obtain⟨c,hc⟩:=mz h2.1 h2.2
   refine ai (by simp[iM];omega) ?_;simp only[pW,hc,aY,dA]
   cases h3:c.u with
   |false=>exact aa rfl ⟨by rw[Ry hc h3],by trivial⟩
   |true=>
    refine ai rfl (aa dh ?_);simp only[pW,hc,aY,dA,abe];exact⟨by rw[Ns hc h1 h3],by trivial⟩
  ·exact aa (by simp[iM];omega) ⟨by rw[K4 (gR h2)],by trivial⟩
theorem B7 (l:List Cell) (i:Int) (hl:l.length≤1073741824):au C yc [jG l,vI i] (jG (ke l i)) []:=by
 refine(T3 _ _ _ ⟨_,vW l hl,_,(AD l hl (eY l)).2 rfl,?_⟩).run
 cases h1:eY l with
 |false=>exact ai rfl ⟨by rw[Nr h1],by trivial⟩
 |true=>
  have h24:l.length=24:=by simp[eY] at h1;omega
  refine aa rfl ⟨_,nM _ _ _,?_⟩
  by_cases h2:0≤i∧i<l.length
  ·obtain⟨c,hc⟩:=mz h2.1 h2.2
   refine aa (by simp[iM];omega) ?_;simp only[pW,hc,aY,dA]
   cases h3:c.u with
   |false=>exact ai rfl ⟨by rw[Ry hc h3],by trivial⟩
   |true=>
    refine aa rfl (aa dh ?_);simp only[pW,hc,aY,dA,abe];exact⟨by rw[Ns hc h1 h3],by trivial⟩
  ·exact ai (by simp[iM];omega) ⟨by rw[K4 (gR h2)],by trivial⟩
theorem Gd (l:List Cell) (hl:l.length≤1073741824):au C jg [jG l] (vI (fy l)) []:=by
 refine(Y2 _ _ ?_).run
 have key:fe At (l.drop 0) ((0:Nat):Int)=fy l→ah C jg aj 4 0 (rD (l.map bQ) ((0:Nat):Int)) (fun u st=>ax C jg aj u st fun r fs=>r=vI (fy l)∧fs=[]):=by
  refine bh l (fun i=>fe At (l.drop i) (i:Int)=fy l→ah C jg aj 4 0 (rD (l.map bQ) i) (fun u st=>ax C jg aj u st fun r fs=>r=vI (fy l)∧fs=[])) ?_ ?_
  ·intro h0
   rw[eK] at h0;simp only[fe] at h0;exact H6 _ _ _ (aa dh (Tv _ _ _ _ _ (by rw[←h0];exact c7)))
  ·intro i a hi ha hd uD hn h0
   rw[hd] at h0;simp only[fe] at h0;refine H6 _ _ _ (ai fj ?_);simp only[pW,aI,ha,aY,dA];rw[aG an]
   cases h1:a.u with
   |false=>rw[aJ (by simp[At,h1])] at h0;exact ai rfl (Tu _ _ _ _ _ (by rw[←h0];exact c7))
   |true=>rw[aF (by simp[At,h1])] at h0;exact aa rfl (hn h0)
 exact key rfl
theorem B8 (l:List Cell) (n:Int) (hl:l.length≤1073741824):au C rO [jG l,vI n] (als (jQ l n)) []:=by
 refine(Sx _ _ _ ⟨_,vW l hl,_,Gd l hl,?_⟩).run
 by_cases h0:fy l<0
 ·exact ai (by simp[h0]) ⟨by rw[qA (fun h=>by omega)],by trivial⟩
 ·refine aa fj ⟨_,(yf n (iN n)).2 rfl,?_⟩
  cases h1:iN n with
  |false=>exact ai rfl ⟨by rw[qA (fun h=>by rw[h1] at h;cases h.2.1)],by trivial⟩
  |true=>
   refine aa rfl ⟨_,(AD l hl (eY l)).2 rfl,?_⟩
   cases h2:eY l with
   |false=>exact ai rfl ⟨by rw[qA (fun h=>by rw[h2] at h;cases h.1)],by trivial⟩
   |true=>
    obtain⟨c,hc,hf⟩:=wU At l h0;change fE l (fy l)=some c at hc;refine aa rfl ?_;simp only[pW,O8,O9,hc,qW,kG,aY,dA,mod_mod];exact⟨by rw[wV ⟨h2,h1,by omega⟩],by trivial⟩
theorem B9 (l:List Cell) (n:Int) (hl:l.length≤1073741824):au C ff [jG l,vI n] (als (jQ l n)) []:=by
 refine(T2 _ _ _ ⟨_,yU l hl,?_⟩).run
 have key:fe At (l.drop 0) ((0:Nat):Int)=fy l→ah C ff ak 4 0 (pH (l.map bQ) n ((0:Nat):Int) (l.map bQ)) (fun u st=>ax C ff ak u st fun r fs=>r=als (jQ l n)∧fs=[]):=by
  refine bh l (fun i=>fe At (l.drop i) (i:Int)=fy l→ah C ff ak 4 0 (pH (l.map bQ) n i (l.map bQ)) (fun u st=>ax C ff ak u st fun r fs=>r=als (jQ l n)∧fs=[])) ?_ ?_
  ·intro h0
   rw[eK] at h0;simp only[fe] at h0;exact Dc _ _ _ _ _ (aa dh (Dd _ _ _ _ _ ⟨by rw[qA (fun h=>by omega)],by trivial⟩))
  ·intro i a hi ha hd uD hn h0
   rw[hd] at h0;simp only[fe] at h0;refine Dc _ _ _ _ _ (ai fj ⟨_,(AB l hl (eY l)).2 rfl,?_⟩)
   cases h2:eY l with
   |false=>exact aa rfl (Dd _ _ _ _ _ ⟨by rw[qA (fun h=>by rw[h2] at h;cases h.1)],by trivial⟩)
   |true=>
    refine ai rfl ⟨_,(ye n (iN n)).2 rfl,?_⟩
    cases h1:iN n with
    |false=>exact aa rfl (Oz _ _ _ _ _ _ ⟨by rw[qA (fun h=>by rw[h1] at h;cases h.2.1)],by trivial⟩)
    |true=>
     refine ai rfl ?_
     have hc:fE l (i:Int)=some a:=by rw[aI];exact ha
     simp only[pW,hc,aY,dA];rw[aG an]
     cases h3:a.u with
     |false=>
      rw[aJ (by simp[At,h3])] at h0;refine ai rfl ?_;simp only[pW,O8,O9,hc,qW,kG,aY,dA,mod_mod];refine Oy _ _ _ ⟨?_,by trivial⟩;rw[wV ⟨h2,h1,by omega⟩,←h0]
     |true=>rw[aF (by simp[At,h3])] at h0;exact aa rfl (hn h0)
 exact key rfl
theorem PO (o:Xk):au C qJ [.ag (opC o)] (vB (Pd o)) []:=by
 refine(Wn _ _ _ _ _ _ ?_).run;simp only[DC,dN,gy,bF,Fs,bK,bY];unfold Pd
 (repeat' split)<;>simp_all<;>omega
theorem V7 (k:Int) (s t:ByteArray) (a b:Int) (q:Bool):au C qJ [.ag [iI k,iS s,iS t,iI a,iI b]] (vB q) []↔q=Pd ⟨k,s,t,a,b⟩:=vO (PO ⟨k,s,t,a,b⟩)
theorem XZ (o:Xk) (h1:o.name.size≤140737488355328) (h2:o.to.size≤140737488355328):au C Pq [.ag (opC o)] (vB (VH o)) []:=by
 obtain⟨k,s,t,a,b⟩:=o;refine(ad7 _ _ _ _ _ _ ?_).run;simp only[DC,uX s h1,uX t h2,ye,V7,dN,gy,bF,Fs,bK,bY];unfold VH opName anE;simp only[];generalize Pd ⟨k,s,t,a,b⟩=z;generalize j5 s=x;generalize j5 t=y;generalize iN a=u;generalize iN b=v;generalize iM k 1 9=w
 by_cases p1:7≤k<;>by_cases p2:k=2<;>by_cases p3:s=xQ<;>by_cases p4:t=xQ<;>first
  |omega
  |(simp only[p1,p2,p3,p4,if_true,if_false,decide_true,decide_false,reduceIte]
    cases w<;>(try simp only[lE,mw,dB,Bool.false_and])<;>cases x<;>cases y<;>cases u<;>cases v<;>(try simp only[lE,mw,j7,Bool.and_false,dB,Bool.false_and])<;>(first|exact c7|simp))
theorem X3 (o:Xk) (h1:o.name.size≤140737488355328) (h2:o.to.size≤140737488355328):au C Pv [.ag (opC o)] (vB (VH o)) []:=by
 obtain⟨k,s,t,a,b⟩:=o;refine(adU _ _ _ _ _ _ ?_).run;simp only[w8,ng s h1,ng t h2,yf,dN,gy,bF,Fs,bK,bY];unfold VH opName anE Pd;simp only[]
 cases hv:iN b with
 |false=>cases iM k 1 9<;>cases iN a<;>simp only[lE,mw]<;>exact⟨by simp,by trivial⟩
 |true=>
  have hb:0≤b:=by simp[iN,iM] at hv;omega
  have hb1:iM b 0 1=decide (b≤1):=by by_cases h:b≤1<;>simp[iM,h,hb]
  rw[hb1];generalize j5 s=x;generalize j5 t=y;generalize iN a=u;generalize hw:iM k 1 9=w;generalize decide (b≤1)=z1;generalize decide (b=0)=z0
  cases w with
  |false=>simp only[lE,mw];exact⟨by simp,by trivial⟩
  |true=>
  cases u with
  |false=>simp only[lE,mw];exact⟨by simp,by trivial⟩
  |true=>
  simp only[lE,mw,dB];clear hw hv hb1 hb h1 h2
  by_cases p1:k≤6<;>by_cases p0:7≤k<;>by_cases p2:k=2<;>by_cases p3:k=3<;>by_cases p4:k=4<;>by_cases p7:k=7<;>first
   |omega
   |(simp only[p0,p1,p2,p3,p4,p7,if_true,if_false,reduceIte,or_true,true_or,or_false,false_or]
     by_cases q:a=0<;>by_cases q3:s=xQ<;>by_cases q4:t=xQ<;>(try simp only[q,q3,q4,if_true,if_false,reduceIte,decide_true,decide_false])<;>cases x<;>cases y<;>(try simp only[lE,mw,j7,Bool.and_false,dB,Bool.false_and])<;>(first|exact c7|simp))
theorem Ca (l:List Int) (hl:l.length≤1073741824):au C yd [oD l] (oD l) []:=by
 refine(Um _ _ ?_).run;rw[show bT (l.map bS)=true from nY _,cT fj];exact c7
theorem JJ (l:List Key) (b a:Int) (hl:l.length≤1073741824):au C jH [dP l,vI b,vI a] (Xl (D3 l b a)) []:=by
 refine(abR _ _ _ _ ?_).run
 have key:setAt (l.drop 0) b a=setAt l b a→ah C jH aj 4 0 (qn (l.map bP) b a ((0:Nat):Int)) (fun u st=>ax C jH aj u st fun r fs=>r=(Xl (D3 l b a))∧fs=[]):=by
  refine bh l (fun i=>setAt (l.drop i) b a=setAt l b a→ah C jH aj 4 0 (qn (l.map bP) b a i) (fun u st=>ax C jH aj u st fun r fs=>r=(Xl (D3 l b a))∧fs=[])) ?_ ?_
  ·intro h0
   rw[eK] at h0;refine J7 _ _ _ _ _ (aa dh (WX _ _ _ _ _ _ ⟨?_,by trivial⟩));unfold D3;rw[←h0];rfl
  ·intro i x hi hx hd uD hn h0
   rw[hd] at h0;simp only[setAt,List.find?_cons] at h0;refine J7 _ _ _ _ _ (ai fj ?_);simp only[lT,aI,hx,aY,dA,bF,bK];rw[aG an]
   by_cases h1:x.b=b
   ·rw[aJ h1]
    by_cases h2:x.a=a
    ·rw[aJ h2]
     rw[gq ⟨h1,h2⟩] at h0;refine WW _ _ _ _ _ _ ⟨?_,by trivial⟩;unfold D3 setAt;rw[←h0]
    ·rw[aF h2]
     rw[fO (fun h=>h2 h.2)] at h0;exact hn h0
   ·rw[aF h1]
    rw[fO (fun h=>h1 h.1)] at h0;exact hn h0
 exact key rfl
theorem R7 (n:List (List Key)) (b a:Int) (hl:n.length≤1073741824) (hs: ∀s∈n,s.length≤1073741824):au C kJ [iu n,vI b,vI a] (Xl (qY n b a n.length)) []:=by
 refine(YV _ _ _ _ ?_).run
 have key: ∀k:Nat,k≤n.length→qY n b a k=qY n b a n.length→ah C kJ aj 4 0 (rC b a ((k:Int)-1) (n.map cZ)) (fun u st=>ax C kJ aj u st fun r fs=>r=(Xl (qY n b a n.length))∧fs=[]):=by
  intro k
  induction k with
  |zero=>
   intro _ hk;refine HU _ _ _ _ _ (aa dh (Th _ _ _ _ _ _ ⟨?_,by trivial⟩));rw[←hk];rfl
  |succ k ih=>
   intro hle hk;have hx:n[k]?=some n[k]:=cw an;rw[show((k+1:Nat):Int)-1=(k:Int) by omega];have hss:=hs n[k] (DM an);generalize n[k]=s at hx hss;simp only[qY,hx] at hk;refine HU _ _ _ _ _ (ai dh ?_);simp only[xR,aI,hx,aY,dA];rw[dx an];refine⟨_,_,_,_,_,_,JJ s b a hss,?_⟩
   cases h2:(D3 s b a).2 with
   |false=>
    rw[h2] at hk;exact aa rfl (aa rfl (ih an (by simpa using hk)))
   |true=>
    rw[h2] at hk;simp only[if_true] at hk;refine ai rfl ?_
    by_cases h3:(D3 s b a).1.k=0
    ·refine ai (by simp[h3]) (HV _ _ _ _ _ _ _ _ _ _ _ _ _ ⟨?_,by trivial⟩)
     rw[aJ h3] at hk;rw[←hk];rfl
    ·refine aa (by simp[h3]) (ai rfl (HV _ _ _ _ _ _ _ _ _ _ _ _ _ ⟨?_,by trivial⟩))
     rw[aF h3] at hk;rw[←hk,←h2]
 rw[ct,show cV (Int.ofNat n.length) 1=(n.length:Int)-1 from dx fj];exact key n.length (de _) rfl
theorem D8 (t:Tree) (b a:Int) (hl:t.aD.length≤1073741824):au C gV [ef t,vI b,vI a] (vI (pZ t b a)) []:=by
 refine(WI _ _ _ _ _ ?_).run;unfold pZ
 have key:ah C gV ak 4 0 (nu b a (wW (fun x=>decide (x≤j9 b a)) t.aD 0) ((0:Nat):Int) (t.aD.map bS) (t.nodes.map aR)) (fun u st=>ax C gV ak u st fun r fs=>r=(vI (wW (fun x=>decide (x≤j9 b a)) t.aD t.aD.length))∧fs=[]):=by
  refine bh t.aD (fun i=>ah C gV ak 4 0 (nu b a (wW (fun x=>decide (x≤j9 b a)) t.aD i) i (t.aD.map bS) (t.nodes.map aR)) (fun u st=>ax C gV ak u st fun r fs=>r=(vI (wW (fun x=>decide (x≤j9 b a)) t.aD t.aD.length))∧fs=[])) ?_ ?_
  ·exact ES _ _ _ _ _ _ _ (aa dh (QA _ _ _ _ _ _ _ _ c7))
  ·intro i x hi hx hd uD hn
   simp only[wW,hx] at hn;refine ES _ _ _ _ _ _ _ (ai fj ?_);simp only[wQ,aI,hx,aY,dA,Lc,dN,gy,bK];rw[aG an]
   by_cases h1:x≤j9 b a
   ·rw[aJ h1]
    rw[aJ (gq h1)] at hn;exact hn
   ·rw[aF h1]
    rw[aF (by simpa using h1)] at hn;exact hn
 exact key
theorem yV (t:Tree) (b a:Int) (hl:cN t≤1073741824):au C wA [ef t,vI b,vI a] (Xl (wX t b a)) []:=by
 have e2:cN t=t.aD.length+(t.nodes.length+tot aO t.nodes):=rfl;refine(Zu _ _ _ _ _ ⟨_,D8 t b a an,_,tE _ _ _,?_⟩).run;unfold wX;rw[ct,show cV (Int.ofNat t.nodes.length) 1=(t.nodes.length:Int)-1 from dx fj]
 by_cases h1:0≤pZ t b a∧pZ t b a<t.nodes.length
 ·obtain⟨n,hn⟩:=mz h1.1 h1.2
  have hz:aO n≤tot aO t.nodes:=pX (w:=aO) (D2 hn);have e1:aO n=n.length+tot cg n:=rfl;refine aa (by simp[iM];omega) ?_;simp only[tP,hn,aY,dA];refine⟨_,_,_,_,_,_,R7 n b a an (fun s hs=> ?_),c7⟩;have h3:cg s≤tot cg n:=pX (w:=cg) hs;have h4:cg s=s.length:=rfl;omega
 ·rw[gR h1]
  exact ai (by simp[iM];omega) c7
theorem JK (l:List Key) (b a:Int) (hl:l.length≤1073741824):au C jc [dP l,vI b,vI a] (Xl (D3 l b a)) []:=by
 refine(abS _ _ _ _ ?_).run
 have key:setAt (l.drop 0) b a=setAt l b a→ah C jc aj 4 0 (qo b a (l.map bP) ((0:Nat):Int)) (fun u st=>ax C jc aj u st fun r fs=>r=(Xl (D3 l b a))∧fs=[]):=by
  refine bh l (fun i=>setAt (l.drop i) b a=setAt l b a→ah C jc aj 4 0 (qo b a (l.map bP) i) (fun u st=>ax C jc aj u st fun r fs=>r=(Xl (D3 l b a))∧fs=[])) ?_ ?_
  ·intro h0
   rw[eK] at h0;refine J8 _ _ _ _ _ (aa dh (WZ _ _ _ _ _ _ _ ⟨?_,by trivial⟩));unfold D3;rw[←h0];rfl
  ·intro i x hi hx hd uD hn h0
   rw[hd] at h0;simp only[setAt,List.find?_cons] at h0;refine J8 _ _ _ _ _ (ai fj ?_);simp only[lT,aI,hx,aY,dA,bF,bK];rw[aG an]
   by_cases h1:x.b=b
   ·rw[aJ h1]
    by_cases h2:x.a=a
    ·rw[aJ h2]
     rw[gq ⟨h1,h2⟩] at h0;refine WY _ _ _ _ _ _ ⟨?_,by trivial⟩;unfold D3 setAt;rw[←h0]
    ·rw[aF h2]
     rw[fO (fun h=>h2 h.2)] at h0;exact hn h0
   ·rw[aF h1]
    rw[fO (fun h=>h1 h.1)] at h0;exact hn h0
 exact key rfl
theorem R8 (n:List (List Key)) (b a:Int) (hl:n.length≤1073741824) (hs: ∀s∈n,s.length≤1073741824):au C kK [iu n,vI b,vI a] (Xl (qY n b a n.length)) []:=by
 refine(Y8 _ _ _ _ ?_).run
 have key: ∀k:Nat,k≤n.length→qY n b a k=qY n b a n.length→ah C kK aj 4 0 (vv b a ((k:Int)-1) (n.map cZ)) (fun u st=>ax C kK aj u st fun r fs=>r=(Xl (qY n b a n.length))∧fs=[]):=by
  intro k
  induction k with
  |zero=>
   intro _ hk;refine Ic _ _ _ _ _ (aa dh (TM _ _ _ _ _ _ ⟨?_,by trivial⟩));rw[←hk];rfl
  |succ k ih=>
   intro hle hk;have hx:n[k]?=some n[k]:=cw an;rw[show((k+1:Nat):Int)-1=(k:Int) by omega];have hss:=hs n[k] (DM an);generalize n[k]=s at hx hss;simp only[qY,hx] at hk;refine Ic _ _ _ _ _ (ai dh ?_);simp only[xR,aI,hx,aY,dA];rw[dx an];refine⟨_,_,_,_,_,_,JK s b a hss,?_⟩
   cases h2:(D3 s b a).2 with
   |false=>
    rw[h2] at hk;exact ai rfl (ih an (by simpa using hk))
   |true=>
    rw[h2] at hk;simp only[if_true] at hk;refine aa rfl ?_
    by_cases h3:(D3 s b a).1.k=0
    ·refine ai (by simp[h3]) (TK _ _ _ _ _ _ _ _ ⟨?_,by trivial⟩)
     rw[aJ h3] at hk;rw[←hk];rfl
    ·refine aa (by simp[h3]) (TL _ _ _ _ _ _ _ ⟨?_,by trivial⟩)
     rw[aF h3] at hk;rw[←hk,←h2]
 rw[ct,show cV (Int.ofNat n.length) 1=(n.length:Int)-1 from dx fj];exact key n.length (de _) rfl
theorem D9 (t:Tree) (b a:Int) (hl:t.aD.length≤1073741824):au C iT [ef t,vI b,vI a] (vI (pZ t b a)) []:=by
 refine(Wq _ _ _ _ _ ?_).run
 have key: ∀k:Nat,k≤t.aD.length→wW (fun x=>decide (x≤j9 b a)) t.aD k=pZ t b a→ah C iT aj 4 0 (ua b a ((k:Int)-1) (t.aD.map bS) (t.nodes.map aR)) (fun u st=>ax C iT aj u st fun r fs=>r=(vI (pZ t b a))∧fs=[]):=by
  intro k
  induction k with
  |zero=>
   intro _ hk;refine EK _ _ _ _ _ _ (aa dh (Ql _ _ _ _ _ _ _ ⟨?_,by trivial⟩));rw[←hk];rfl
  |succ k ih=>
   intro hle hk;have hx:t.aD[k]?=some t.aD[k]:=cw an;rw[show((k+1:Nat):Int)-1=(k:Int) by omega];generalize t.aD[k]=x at hx;simp only[wW,hx] at hk;refine EK _ _ _ _ _ _ (ai dh ?_);simp only[wQ,aI,hx,aY,dA,DE,dN,gy,bK];rw[dx an]
   by_cases h1:x≤j9 b a
   ·rw[aJ h1]
    rw[aJ (gq h1)] at hk;exact Qk _ _ _ _ ⟨by rw[←hk],by trivial⟩
   ·rw[aF h1]
    rw[aF (by simpa using h1)] at hk;exact ih an hk
 rw[ct,show cV (Int.ofNat t.aD.length) 1=(t.aD.length:Int)-1 from dx fj];exact key t.aD.length (de _) rfl
theorem vi (t:Tree) (b a:Int) (hl:cN t≤1073741824):au C wB [ef t,vI b,vI a] (Xl (wX t b a)) []:=by
 have e2:cN t=t.aD.length+(t.nodes.length+tot aO t.nodes):=rfl;refine(YM _ _ _ _ _ ⟨_,D9 t b a an,_,nM _ _ _,?_⟩).run;unfold wX;rw[ct,show cV (Int.ofNat t.nodes.length) 1=(t.nodes.length:Int)-1 from dx fj]
 by_cases h1:0≤pZ t b a∧pZ t b a<t.nodes.length
 ·obtain⟨n,hn⟩:=mz h1.1 h1.2
  have hz:aO n≤tot aO t.nodes:=pX (w:=aO) (D2 hn);have e1:aO n=n.length+tot cg n:=rfl;refine aa (by simp[iM];omega) ?_;simp only[tP,hn,aY,dA];refine⟨_,_,_,_,_,_,R8 n b a an (fun s hs=> ?_),c7⟩;have h3:cg s≤tot cg n:=pX (w:=cg) hs;have h4:cg s=s.length:=rfl;omega
 ·rw[gR h1]
  exact ai (by simp[iM];omega) c7
theorem Ge (p:Pool) (hS:aN p≤4194304) (id:Int):au C yy [dQ p,vI id] (vI (D4 p id)) []:=by
 have hP:=cJ hS;refine(Yk _ _ _ _ _ _ _ _ ⟨_,yN p.aL id an,_,La p id an,?_⟩).run;unfold D4
 cases h1:qX p.av id with
 |false=>exact ai rfl ⟨by simp,by trivial⟩
 |true=>
  refine aa rfl ?_
  by_cases h2:(eJ p.aL id).length=1
  ·obtain⟨x,hx⟩:=mz (l:=eJ p.aL id) (i:=0) an an
   refine aa (by simp[h2]) ?_;simp only[wQ,hx,aY,dA];exact⟨by simp[h2],by trivial⟩
  ·exact ai fj ⟨by simp[h2],by trivial⟩
theorem PR (p:Pool) (hS:aN p≤4194304) (k:Key):au C FN [dQ p,uG k] (vB (aan p k)) []:=by
 have hP:=cJ hS;refine(Wx _ _ _ _ _ _ _ _ _ _ _ _ ⟨_,Ge p hS k.a,?_⟩).run;unfold aan
 by_cases h1:D4 p k.a=0
 ·exact ai (by simp[h1]) ⟨by rw[aJ h1],by trivial⟩
 ·exact aa (by simp[h1]) ⟨_,_,_,_,_,_,yV p.t k.b (D4 p k.a) an,⟨by rw[aF h1],by trivial⟩⟩
theorem R9 (p:Pool) (hS:aN p≤4194304) (j:Int) (k:Key):au C JC [dQ p,vI j,uG k] (vB (sj p j k)) []:=by
 have hP:=cJ hS;refine(Yr _ _ _ _ _ _ _ _ _ _ _ _ _ ?_).run;unfold sj
 by_cases h1:j=1
 ·exact ai (by simp[h1]) ⟨_,KJ p k an an an,⟨by rw[aJ h1],by trivial⟩⟩
 ·refine aa (by simp[h1]) ?_
  rw[aF h1]
  by_cases h2:j=2
  ·refine ai (by simp[h2]) ⟨_,_,_,_,_,_,AE p.t p.aL k.b k.a an an,?_⟩
   rw[aJ h2]
   by_cases h3:k.k=2
   ·exact ai (by simp[h3]) ⟨by simp[h3],by trivial⟩
   ·exact aa (by simp[h3]) ⟨by simp[h3],by trivial⟩
  ·rw[aF h2]
   exact aa (by simp[h2]) ⟨_,PR p hS k,c7⟩
theorem Sa (p:Pool) (hS:aN p≤4194304) (id:Int):au C iE [dQ p,vI id] (vB (((aC p.t).all (Jh id)&&(qX p.av id&&decide ((eJ p.aL id).length≤1))))) []:=by
 refine(YO _ _ _ _ _ _ _ _ ?_).run;have hP:=cJ hS;have htl:=fz p.t;refine⟨_,kk p.t an,?_⟩
 have key:(((aC p.t).drop 0).all (Jh id)&&(qX p.av id&&decide ((eJ p.aL id).length≤1)))=((aC p.t).all (Jh id)&&(qX p.av id&&decide ((eJ p.aL id).length≤1)))→ah C iE ak 4 0 (oc id ((0:Nat):Int) (p.t.aD.map bS) (p.t.nodes.map aR) (p.aL.map bW) (p.cells.map bQ) (p.av.map cu) p.next ((aC p.t).map bP)) (fun u st=>ax C iE ak u st fun r fs=>r=vB (((aC p.t).all (Jh id)&&(qX p.av id&&decide ((eJ p.aL id).length≤1))))∧fs=[]):=by
  refine bh (aC p.t) (fun i=>(((aC p.t).drop i).all (Jh id)&&(qX p.av id&&decide ((eJ p.aL id).length≤1)))=((aC p.t).all (Jh id)&&(qX p.av id&&decide ((eJ p.aL id).length≤1)))→ah C iE ak 4 0 (oc id i (p.t.aD.map bS) (p.t.nodes.map aR) (p.aL.map bW) (p.cells.map bQ) (p.av.map cu) p.next ((aC p.t).map bP)) (fun u st=>ax C iE ak u st fun r fs=>r=vB (((aC p.t).all (Jh id)&&(qX p.av id&&decide ((eJ p.aL id).length≤1))))∧fs=[])) ?_ ?_
  ·intro h0
   refine HS _ _ _ _ _ _ _ _ _ _ (aa dh (Td _ _ _ _ _ _ _ _ _ _ _ ?_));rw[eK] at h0;simp only[qS,dB] at h0;rw[←h0];refine⟨_,La p id an,?_⟩
   cases h1:qX p.av id with
   |false=>exact aa rfl c7
   |true=>exact ai rfl ⟨_,yN p.aL id an,⟨by simp[gy];omega,by trivial⟩⟩
  ·intro i a hi ha hd uD hn h0
   have gO:(Jh id) a=false→((aC p.t).all (Jh id)&&(qX p.av id&&decide ((eJ p.aL id).length≤1)))=false:=fun e=>by rw[←h0,hd];simp[e]
   have gN:(Jh id) a=true→ah C iE ak 4 0 (oc id ((i:Int)+1) (p.t.aD.map bS) (p.t.nodes.map aR) (p.aL.map bW) (p.cells.map bQ) (p.av.map cu) p.next ((aC p.t).map bP)) (fun u st=>ax C iE ak u st fun r fs=>r=vB (((aC p.t).all (Jh id)&&(qX p.av id&&decide ((eJ p.aL id).length≤1))))∧fs=[]):=fun e=>hn (by rw[←h0,hd];simp[e]);refine HS _ _ _ _ _ _ _ _ _ _ (ai fj ?_);simp only[lT,aI,ha,aY,dA,bF,bK];rw[aG an]
   by_cases h1:a.a=id
   ·rw[aJ h1];exact Tc _ _ _ _ _ _ _ _ (by rw[gO (by simp[Jh,hasB,h1])];exact c7)
   ·rw[aF h1];exact gN (by simp[Jh,hasB,h1])
 exact key rfl
theorem PS (l:List Key) (id:Int) (hl:l.length≤1073741824):au C gW [dP l,vI id] (vB ((l.any (hasB id)))) []:=by
 refine(Wv _ _ _ ?_).run
 have key:((l.drop 0).any (hasB id))=(l.any (hasB id))→ah C gW aj 4 0 (nt id (l.map bP) ((0:Nat):Int)) (fun u st=>ax C gW aj u st fun r fs=>r=vB ((l.any (hasB id)))∧fs=[]):=by
  refine bh l (fun i=>((l.drop i).any (hasB id))=(l.any (hasB id))→ah C gW aj 4 0 (nt id (l.map bP) i) (fun u st=>ax C gW aj u st fun r fs=>r=vB ((l.any (hasB id)))∧fs=[])) ?_ ?_
  ·intro h0
   refine EL _ _ _ _ (aa dh (Qn _ _ _ _ _ _ ?_));rw[eK] at h0;simp only[List.any_nil,dB] at h0;rw[←h0];exact c7
  ·intro i a hi ha hd uD hn h0
   have gO:(hasB id) a=true→(l.any (hasB id))=true:=fun e=>by rw[←h0,hd];simp[e]
   have gN:(hasB id) a=false→ah C gW aj 4 0 (nt id (l.map bP) ((i:Int)+1)) (fun u st=>ax C gW aj u st fun r fs=>r=vB ((l.any (hasB id)))∧fs=[]):=fun e=>hn (by rw[←h0,hd];simp[e]);refine EL _ _ _ _ (ai fj ?_);simp only[lT,aI,ha,aY,dA,bF,bK];rw[aG an]
   by_cases h1:a.a=id
   ·rw[aJ h1];exact Qm _ _ _ _ _ _ (by rw[gO (by simp[hasB,h1])];exact c7)
   ·rw[aF h1];exact gN (by simp[hasB,h1])
 exact key rfl
theorem PT (p:Pool) (hS:aN p≤4194304) (hA:g9 p.aL=true) (j:Int) (k:Key):au C FM [dQ p,vI j,uG k] (vB (sj p j k)) []:=by
 have hP:=cJ hS;refine(WK _ _ _ _ _ _ _ _ _ _ _ _ _ ?_).run;unfold sj
 by_cases h1:j=1
 ·exact ai (by simp[h1]) ⟨_,KK p k an an an,⟨by rw[aJ h1],by trivial⟩⟩
 ·refine aa (by simp[h1]) ?_
  rw[aF h1]
  by_cases h2:j=2
  ·refine ai (by simp[h2]) ⟨_,_,_,_,_,_,AF p.t p.aL k.b k.a an an,?_⟩
   rw[aJ h2]
   by_cases h3:k.k=2
   ·exact ai (by simp[h3]) ⟨by simp[h3],by trivial⟩
   ·exact aa (by simp[h3]) ⟨by simp[h3],by trivial⟩
  ·rw[aF h2]
   refine aa (by simp[h2]) ⟨_,vh p.aL k.a an,_,Lb p k.a an,?_⟩;unfold aan D4
   cases h3:qX p.av k.a with
   |false=>exact ai rfl ⟨by simp,by trivial⟩
   |true=>
    refine aa rfl ?_
    by_cases h4:(eJ p.aL k.a).length=1
    ·obtain⟨x,hx⟩:=mz (l:=eJ p.aL k.a) (i:=0) an an
     have hpos:=ajo hA x (D2 hx)
     have hne: ¬x=0:=by omega
     refine aa (by simp[h4]) ?_;simp only[wQ,hx,aY,dA];refine⟨(vB (!(wX p.t k.b x).2),[]),?_,?_,⟨by simp[h4,hne],by trivial⟩⟩
     ·exact⟨_,_,_,_,_,_,vi p.t k.b x an,by trivial⟩
     ·exact⟨_,_,_,_,_,_,vi p.t k.b x an,by trivial⟩
    ·exact ai fj ⟨by simp[h4],by trivial⟩
theorem NG (p:Pool) (hS:aN p≤4194304):au C bH [dQ p] (tII (dj p)) []:=by
 have hP:=cJ hS;have htl:=fz p.t;refine(SY _ _ _ _ _ _ _ ⟨_,gY p hS,?_⟩).run
 cases hok:dg p with
 |false=>exact ai rfl ⟨by unfold dj;rw[hok];rfl,by trivial⟩
 |true=>
 refine aa rfl ⟨_,kk p.t an,?_⟩
 have hstep: ∀j:Int,1≤j∧j≤3→(0≤mY p j→dj p=(j,mY p j))→(mY p j<0→ah C bH ay 4 0 (o5 (j+1) (p.t.aD.map bS) (p.t.nodes.map aR) (p.aL.map bW) (p.cells.map bQ) (p.av.map cu) p.next ((aC p.t).map bP)) (fun u st=>ax C bH ay u st fun r fs=>r=tII (dj p)∧fs=[]))→ah C bH ay 4 0 (o5 j (p.t.aD.map bS) (p.t.nodes.map aR) (p.aL.map bW) (p.cells.map bQ) (p.av.map cu) p.next ((aC p.t).map bP)) (fun u st=>ax C bH ay u st fun r fs=>r=tII (dj p)∧fs=[]):=by
  intro j hj h1 h2;refine CW _ _ _ _ _ _ _ _ _ (ai fj ?_)
  have keyI:fe (sj p j) ((aC p.t).drop 0) ((0:Nat):Int)=mY p j→ah C bH iH 3 2 (o6 j ((0:Nat):Int) (p.t.aD.map bS) (p.t.nodes.map aR) (p.aL.map bW) (p.cells.map bQ) (p.av.map cu) p.next ((aC p.t).map bP)) (fun u st=>qF C bH ay 4 0 y7 u st (fun u st=>ax C bH ay u st fun r fs=>r=tII (dj p)∧fs=[])):=by
   refine bh (aC p.t) (fun i=>fe (sj p j) ((aC p.t).drop i) (i:Int)=mY p j→ah C bH iH 3 2 (o6 j i (p.t.aD.map bS) (p.t.nodes.map aR) (p.aL.map bW) (p.cells.map bQ) (p.av.map cu) p.next ((aC p.t).map bP)) (fun u st=>qF C bH ay 4 0 y7 u st (fun u st=>ax C bH ay u st fun r fs=>r=tII (dj p)∧fs=[]))) ?_ ?_
   ·intro h0
    rw[eK] at h0;simp only[fe] at h0;refine CX _ _ _ _ _ _ _ _ _ _ (aa dh (N9 _ _ _ _ _ _ _ _ _ _ _ ?_));rw[aG an];exact h2 an
   ·intro i x hi hx hd uD hn h0
    rw[hd] at h0;simp only[fe] at h0;refine CX _ _ _ _ _ _ _ _ _ _ (ai fj ?_);simp only[lT,aI,hx,aY,dA];refine⟨_,R9 p hS j x,?_⟩;rw[aG an]
    cases h4:sj p j x with
    |true=>
     rw[aJ h4] at h0;exact ai rfl (N8 _ _ _ _ _ _ _ _ _ _ (Oa _ _ _ _ _ _ _ _ _ _ ⟨by rw[h1 an,←h0],by trivial⟩))
    |false=>rw[aF (by simp[h4])] at h0;exact aa rfl (hn h0)
  exact keyI rfl
 refine hstep 1 an (fun h=>by unfold dj;rw[aJ hok,aJ h]) (fun h1=> ?_);refine hstep 2 an (fun h=>by unfold dj;rw[aJ hok,aF an,aJ h]) (fun h2=> ?_);refine hstep 3 an (fun h=>by unfold dj;rw[aJ hok,aF an,aF an,aJ h]) (fun h3=> ?_);refine CW _ _ _ _ _ _ _ _ _ (aa dh (N7 _ _ _ _ _ _ _ _ _ ?_))
 have key5:fe (ve p) (p.aL.drop 0) ((0:Nat):Int)=LK p→ah C bH bN 4 4 (o7 ((0:Nat):Int) (p.t.aD.map bS) (p.t.nodes.map aR) (p.aL.map bW) (p.cells.map bQ) (p.av.map cu) p.next) (fun u st=>ax C bH bN u st fun r fs=>r=tII (dj p)∧fs=[]):=by
  refine bh p.aL (fun i=>fe (ve p) (p.aL.drop i) (i:Int)=LK p→ah C bH bN 4 4 (o7 i (p.t.aD.map bS) (p.t.nodes.map aR) (p.aL.map bW) (p.cells.map bQ) (p.av.map cu) p.next) (fun u st=>ax C bH bN u st fun r fs=>r=tII (dj p)∧fs=[])) ?_ ?_
  ·intro h0
   rw[eK] at h0;simp only[fe] at h0;exact CY _ _ _ _ _ _ _ _ (aa dh (Oc _ _ _ _ _ _ _ _ _ ⟨by unfold dj;rw[aJ hok,aF an,aF an,aF an,aF an],by trivial⟩))
  ·intro i x hi hx hd uD hn h0
   rw[hd] at h0;simp only[fe] at h0;refine CY _ _ _ _ _ _ _ _ (ai fj ?_);simp only[wR,aI,hx,aY,dA];rw[aG an];refine⟨_,Sa p hS x.id,?_⟩;have e:((aC p.t).all (Jh x.id)&&(qX p.av x.id&&decide ((eJ p.aL x.id).length≤1)))=ve p x:=rfl;rw[e]
   cases h4:ve p x with
   |true=>rw[aJ h4] at h0;exact ai rfl (Ob _ _ _ _ _ _ _ _ ⟨by unfold dj;rw[aJ hok,aF an,aF an,aF an,aJ an,←h0],by trivial⟩)
   |false=>rw[aF (by simp[h4])] at h0;exact aa rfl (hn h0)
 exact key5 rfl
theorem NH (p:Pool) (hS:aN p≤4194304):au C bq [dQ p] (tII (dj p)) []:=by
 have hP:=cJ hS;have htl:=fz p.t;refine(Ty _ _ _ _ _ _ _ ⟨_,fq p hS,?_⟩).run
 cases hok:dg p with
 |false=>exact ai rfl ⟨by unfold dj;rw[hok];rfl,by trivial⟩
 |true=>
 refine aa rfl ⟨_,ko p.t an,?_⟩
 have hstep: ∀i0 j:Int,0≤i0∧i0<3→rowAt [[iI 1],[iI 2],[iI 3]] i0=some [iI j]→(0≤mY p j→dj p=(j,mY p j))→(mY p j<0→ah C bq ay 4 0 (pz (i0+1) (p.t.aD.map bS) (p.t.nodes.map aR) (p.aL.map bW) (p.cells.map bQ) (p.av.map cu) p.next ((aC p.t).map bP)) (fun u st=>ax C bq ay u st fun r fs=>r=tII (dj p)∧fs=[]))→ah C bq ay 4 0 (pz i0 (p.t.aD.map bS) (p.t.nodes.map aR) (p.aL.map bW) (p.cells.map bQ) (p.av.map cu) p.next ((aC p.t).map bP)) (fun u st=>ax C bq ay u st fun r fs=>r=tII (dj p)∧fs=[]):=by
  intro i0 j hj hr h1 h2;refine C5 _ _ _ _ _ _ _ _ _ (ai fj ⟨_,hr,_,hr,?_⟩)
  have keyI:fe (sj p j) ((aC p.t).drop 0) ((0:Nat):Int)=mY p j→ah C bq rj 3 2 (pE j i0 ((aC p.t).map bP) ((0:Nat):Int) (p.t.aD.map bS) (p.t.nodes.map aR) (p.aL.map bW) (p.cells.map bQ) (p.av.map cu) p.next) (fun u st=>qF C bq ay 4 0 q9 u st (fun u st=>ax C bq ay u st fun r fs=>r=tII (dj p)∧fs=[])):=by
   refine bh (aC p.t) (fun i=>fe (sj p j) ((aC p.t).drop i) (i:Int)=mY p j→ah C bq rj 3 2 (pE j i0 ((aC p.t).map bP) i (p.t.aD.map bS) (p.t.nodes.map aR) (p.aL.map bW) (p.cells.map bQ) (p.av.map cu) p.next) (fun u st=>qF C bq ay 4 0 q9 u st (fun u st=>ax C bq ay u st fun r fs=>r=tII (dj p)∧fs=[]))) ?_ ?_
   ·intro h0
    rw[eK] at h0;simp only[fe] at h0;refine C6 _ _ _ _ _ _ _ _ _ _ _ (aa dh (On _ _ _ _ _ _ _ _ _ _ _ _ _ ?_));rw[aG an];exact h2 an
   ·intro i x hi hx hd uD hn h0
    rw[hd] at h0;simp only[fe] at h0;refine C6 _ _ _ _ _ _ _ _ _ _ _ (ai fj ?_);simp only[lT,aI,hx,aY,dA];refine⟨_,PT p hS (Rz hok) j x,?_⟩;rw[aG an]
    cases h4:sj p j x with
    |true=>
     rw[aJ h4] at h0;exact ai rfl (Om _ _ _ _ _ _ _ _ _ _ _ _ _ _ _ (Oo _ _ _ _ _ _ _ _ _ _ _ _ _ _ _ ⟨by rw[h1 an,←h0],by trivial⟩))
    |false=>rw[aF (by simp[h4])] at h0;exact aa rfl (hn h0)
  exact keyI rfl
 refine hstep 0 1 an (by unfold rowAt;rfl) (fun h=>by unfold dj;rw[aJ hok,aJ h]) (fun h1=> ?_);refine hstep 1 2 an (by unfold rowAt;rfl) (fun h=>by unfold dj;rw[aJ hok,aF an,aJ h]) (fun h2=> ?_);refine hstep 2 3 an (by unfold rowAt;rfl) (fun h=>by unfold dj;rw[aJ hok,aF an,aF an,aJ h]) (fun h3=> ?_);refine C5 _ _ _ _ _ _ _ _ _ (aa dh (Ol _ _ _ _ _ _ _ _ _ ?_))
 have key5:fe (ve p) (p.aL.drop 0) ((0:Nat):Int)=LK p→ah C bq bN 4 4 (jj (p.aL.map bW) ((0:Nat):Int) (p.t.aD.map bS) (p.t.nodes.map aR) (p.cells.map bQ) (p.av.map cu) p.next ((aC p.t).map bP)) (fun u st=>ax C bq bN u st fun r fs=>r=tII (dj p)∧fs=[]):=by
  refine bh p.aL (fun i=>fe (ve p) (p.aL.drop i) (i:Int)=LK p→ah C bq bN 4 4 (jj (p.aL.map bW) i (p.t.aD.map bS) (p.t.nodes.map aR) (p.cells.map bQ) (p.av.map cu) p.next ((aC p.t).map bP)) (fun u st=>ax C bq bN u st fun r fs=>r=tII (dj p)∧fs=[])) ?_ ?_
  ·intro h0
   rw[eK] at h0;simp only[fe] at h0;exact C7 _ _ _ _ _ _ _ _ _ (aa dh (Ot _ _ _ _ _ _ _ _ _ _ _ ⟨by unfold dj;rw[aJ hok,aF an,aF an,aF an,aF an],by trivial⟩))
  ·intro i x hi hx hd uD hn h0
   rw[hd] at h0;simp only[fe] at h0;refine C7 _ _ _ _ _ _ _ _ _ (ai fj ?_);simp only[wR,aI,hx,aY,dA];rw[aG an]
   have e:ve p x=(!((aC p.t).any (hasB x.id))&&(qX p.av x.id&&decide ((eJ p.aL x.id).length≤1))):=by unfold ve;rw[ajp]
   have hO:ve p x=true→ax C bq bN TX.ret (xm i (p.t.aD.map bS) (p.t.nodes.map aR) (p.aL.map bW) (p.cells.map bQ) (p.av.map cu) p.next x.id x.fr ((aC p.t).map bP) ((eJ p.aL x.id).map bS)) (fun r fs=>r=tII (dj p)∧fs=[]):=fun h4=>by
    rw[aJ h4] at h0;exact Oq _ _ _ _ _ _ _ _ _ _ _ _ ⟨by unfold dj;rw[aJ hok,aF an,aF an,aF an,aJ an,←h0],by trivial⟩
   have hN:ve p x=false→ah C bq bN 4 4 (jj (p.aL.map bW) ((i:Int)+1) (p.t.aD.map bS) (p.t.nodes.map aR) (p.cells.map bQ) (p.av.map cu) p.next ((aC p.t).map bP)) (fun u st=>ax C bq bN u st fun r fs=>r=tII (dj p)∧fs=[]):=fun h4=>by
    rw[aF (by simp[h4])] at h0;exact hn h0
   refine⟨_,Lb p x.id an,?_⟩
   cases h5:qX p.av x.id with
   |false=>exact aa rfl (hN (by rw[e,h5];simp))
   |true=>
    refine ai rfl ⟨_,vh p.aL x.id an,?_⟩
    by_cases h6:(eJ p.aL x.id).length≤1
    ·refine ai (by simp[gy];omega) ⟨_,PS (aC p.t) x.id an,?_⟩
     cases h7:(aC p.t).any (hasB x.id) with
     |false=>exact ai rfl (hO (by rw[e,h5,h7];simp[h6]))
     |true=>exact aa rfl (hN (by rw[e,h7];simp))
    ·exact aa (by simp[gy];omega) (hN (by rw[e];simp[h6]))
 exact key5 rfl
theorem oV (l:List Age) (hl:l.length≤1073741824):au C ga [gL l] (gL l) []:=by
 refine(TD _ _ ?_).run;rw[show bT (l.map bW)=true from zZ _,cT fj];exact c7
theorem xb (n:List (List Key)) (hl:n.length≤1073741824) (hs: ∀s∈n,s.length≤1073741824):au C bC [iu n] (iu n) []:=by
 refine(SH _ _ ?_).run
 skip
 have key:((0:Nat)=0→ah C bC ak 4 0 (sv (n.map cZ)) (fun u st=>ax C bC ak u st fun r fs=>r=(iu n)∧fs=[]))∧(0<(0:Nat)→ah C bC ak 4 0 (oX (n.map cZ) ((0:Nat):Int) ((n.take 0).map cZ)) (fun u st=>ax C bC ak u st fun r fs=>r=(iu n)∧fs=[])):=by
  refine bh n (fun i=>(i=0→ah C bC ak 4 0 (sv (n.map cZ)) (fun u st=>ax C bC ak u st fun r fs=>r=(iu n)∧fs=[]))∧(0<i→ah C bC ak 4 0 (oX (n.map cZ) i ((n.take i).map cZ)) (fun u st=>ax C bC ak u st fun r fs=>r=(iu n)∧fs=[]))) ?_ ?_
  ·refine⟨fun h=> ?_,fun h=> ?_⟩
   ·have hnil:n=[]:=List.length_eq_zero_iff.1 h
    refine CP _ _ (aa (by simp[h]) (NZ _ _ _ _ ⟨?_,by trivial⟩));simp[hnil]
   ·rw[we]
    exact CQ _ _ _ _ (aa dh (N0 _ _ _ _ _ _ c7))
  ·intro i a hi ha hd uD hn
   have hmem:=iV ha;refine⟨fun h=> ?_,fun h=> ?_⟩
   ·subst h
    have hz:fE n 0=some a:=(aI n 0).trans ha;have hn2:=hn.2 an;rw[uD] at hn2;refine CP _ _ (ai fj ?_);simp only[xR,hz,aY,dA];refine⟨_,oU a (by have:=hs a hmem;omega),ai (cT (by simp;try omega)) ?_⟩;rw[aG an];exact hn2
   ·have hn2:=hn.2 an
    rw[uD] at hn2;refine CQ _ _ _ _ (ai fj ?_);simp only[xR,aI,ha,aY,dA];refine⟨_,oU a (by have:=hs a hmem;omega),ai (cT (by simp;try omega)) ?_⟩;rw[aG an];rw[ux] at hn2;exact hn2
 exact key.1 rfl
theorem yW (n:List (List Key)) (hl:n.length≤1073741824) (hs: ∀s∈n,s.length≤1073741824):au C cm [iu n] (iu n) []:=by
 refine(Zy _ _ ?_).run
 skip
 have key:((0:Nat)=0→ah C cm ak 4 0 (vC (n.map cZ)) (fun u st=>ax C cm ak u st fun r fs=>r=(iu n)∧fs=[]))∧(0<(0:Nat)→ah C cm ak 4 0 (rH ((0:Nat):Int) (n.map cZ) ((n.take 0).map cZ)) (fun u st=>ax C cm ak u st fun r fs=>r=(iu n)∧fs=[])):=by
  refine bh n (fun i=>(i=0→ah C cm ak 4 0 (vC (n.map cZ)) (fun u st=>ax C cm ak u st fun r fs=>r=(iu n)∧fs=[]))∧(0<i→ah C cm ak 4 0 (rH i (n.map cZ) ((n.take i).map cZ)) (fun u st=>ax C cm ak u st fun r fs=>r=(iu n)∧fs=[]))) ?_ ?_
  ·refine⟨fun h=> ?_,fun h=> ?_⟩
   ·have hnil:n=[]:=List.length_eq_zero_iff.1 h
    refine Is _ _ (aa (by simp[h]) (Uj _ _ _ ⟨?_,by trivial⟩));simp[hnil]
   ·rw[we]
    exact Iu _ _ _ _ (aa dh (Uk _ _ _ _ _ c7))
  ·intro i a hi ha hd uD hn
   have hmem:=iV ha;refine⟨fun h=> ?_,fun h=> ?_⟩
   ·subst h
    have hz:fE n 0=some a:=(aI n 0).trans ha;have hn2:=hn.2 an;rw[uD] at hn2;refine Is _ _ (ai fj ?_);simp only[xR,hz,aY,dA];have hsa:=hs a hmem;refine ai (by rw[show bT (a.map bP)=true from ni _,cT fj];rfl) (ai (cT (by simp;try omega)) ?_);rw[aG an];exact hn2
   ·have hn2:=hn.2 an
    rw[uD] at hn2;refine Iu _ _ _ _ (ai fj ?_);simp only[xR,aI,ha,aY,dA];have hsa:=hs a hmem;refine ai (by rw[show bT (a.map bP)=true from ni _,cT fj];rfl) (ai (cT (by simp;try omega)) ?_);rw[aG an];rw[ux] at hn2;exact hn2
 exact key.1 rfl
theorem xd (t:Tree) (hl:t.aD.length≤1073741824∧t.nodes.length≤1073741824) (hs: ∀n∈t.nodes,n.length≤1073741824∧ ∀s∈n,s.length≤1073741824):au C bX [ef t] (ef t) []:=by
 refine(S7 _ _ _ ?_).run;refine⟨_,Ca t.aD hl.1,?_⟩
 have key:((0:Nat)=0→ah C bX ak 4 0 (sD (t.nodes.map aR) (t.aD.map bS)) (fun u st=>ax C bX ak u st fun r fs=>r=(ef t)∧fs=[]))∧(0<(0:Nat)→ah C bX ak 4 0 (o8 (t.nodes.map aR) ((0:Nat):Int) (t.aD.map bS) ((t.nodes.take 0).map aR)) (fun u st=>ax C bX ak u st fun r fs=>r=(ef t)∧fs=[])):=by
  refine bh t.nodes (fun i=>(i=0→ah C bX ak 4 0 (sD (t.nodes.map aR) (t.aD.map bS)) (fun u st=>ax C bX ak u st fun r fs=>r=(ef t)∧fs=[]))∧(0<i→ah C bX ak 4 0 (o8 (t.nodes.map aR) i (t.aD.map bS) ((t.nodes.take i).map aR)) (fun u st=>ax C bX ak u st fun r fs=>r=(ef t)∧fs=[]))) ?_ ?_
  ·refine⟨fun h=> ?_,fun h=> ?_⟩
   ·have hnil:t.nodes=[]:=List.length_eq_zero_iff.1 h
    refine C0 _ _ _ (aa (by simp[h]) (Oe _ _ _ _ _ ⟨?_,by trivial⟩));simp[hnil]
   ·rw[we]
    exact C1 _ _ _ _ _ (aa dh (Of _ _ _ _ _ _ _ c7))
  ·intro i a hi ha hd uD hn
   have hmem:=iV ha;refine⟨fun h=> ?_,fun h=> ?_⟩
   ·subst h
    have hz:fE t.nodes 0=some a:=(aI t.nodes 0).trans ha;have hn2:=hn.2 an;rw[uD] at hn2;refine C0 _ _ _ (ai fj ?_);simp only[tP,hz,aY,dA];refine⟨_,xb a (hs a hmem).1 (hs a hmem).2,ai (cT (by simp;try omega)) ?_⟩;rw[aG an];exact hn2
   ·have hn2:=hn.2 an
    rw[uD] at hn2;refine C1 _ _ _ _ _ (ai fj ?_);simp only[tP,aI,ha,aY,dA];refine⟨_,xb a (hs a hmem).1 (hs a hmem).2,ai (cT (by simp;try omega)) ?_⟩;rw[aG an];rw[ux] at hn2;exact hn2
 exact key.1 rfl
theorem yX (t:Tree) (hl:t.aD.length≤1073741824∧t.nodes.length≤1073741824) (hs: ∀n∈t.nodes,n.length≤1073741824∧ ∀s∈n,s.length≤1073741824):au C dH [ef t] (ef t) []:=by
 refine(Zm _ _ _ ?_).run;refine ai (by rw[show bT (t.aD.map bS)=true from nY _,cT fj];rfl) ?_
 have key:((0:Nat)=0→ah C dH ak 4 0 (vA (t.aD.map bS) (t.nodes.map aR)) (fun u st=>ax C dH ak u st fun r fs=>r=(ef t)∧fs=[]))∧(0<(0:Nat)→ah C dH ak 4 0 (rG ((0:Nat):Int) (t.aD.map bS) (t.nodes.map aR) ((t.nodes.take 0).map aR)) (fun u st=>ax C dH ak u st fun r fs=>r=(ef t)∧fs=[])):=by
  refine bh t.nodes (fun i=>(i=0→ah C dH ak 4 0 (vA (t.aD.map bS) (t.nodes.map aR)) (fun u st=>ax C dH ak u st fun r fs=>r=(ef t)∧fs=[]))∧(0<i→ah C dH ak 4 0 (rG i (t.aD.map bS) (t.nodes.map aR) ((t.nodes.take i).map aR)) (fun u st=>ax C dH ak u st fun r fs=>r=(ef t)∧fs=[]))) ?_ ?_
  ·refine⟨fun h=> ?_,fun h=> ?_⟩
   ·have hnil:t.nodes=[]:=List.length_eq_zero_iff.1 h
    refine Ik _ _ _ (aa (by simp[h]) (T4 _ _ _ _ ⟨?_,by trivial⟩));simp[hnil]
   ·rw[we]
    exact Il _ _ _ _ _ (aa dh (T6 _ _ _ _ _ _ c7))
  ·intro i a hi ha hd uD hn
   have hmem:=iV ha;refine⟨fun h=> ?_,fun h=> ?_⟩
   ·subst h
    have hz:fE t.nodes 0=some a:=(aI t.nodes 0).trans ha;have hn2:=hn.2 an;rw[uD] at hn2;refine Ik _ _ _ (ai fj ?_);simp only[tP,hz,aY,dA];refine⟨_,yW a (hs a hmem).1 (hs a hmem).2,ai (cT (by simp;try omega)) ?_⟩;rw[aG an];exact hn2
   ·have hn2:=hn.2 an
    rw[uD] at hn2;refine Il _ _ _ _ _ (ai fj ?_);simp only[tP,aI,ha,aY,dA];refine⟨_,yW a (hs a hmem).1 (hs a hmem).2,ai (cT (by simp;try omega)) ?_⟩;rw[aG an];rw[ux] at hn2;exact hn2
 exact key.1 rfl
theorem wC {t:Tree} (h:cN t≤4194304):(t.aD.length≤1073741824∧t.nodes.length≤1073741824)∧ ∀n∈t.nodes,n.length≤1073741824∧ ∀s∈n,s.length≤1073741824:=by
 have e2:cN t=t.aD.length+(t.nodes.length+tot aO t.nodes):=rfl;refine⟨⟨by omega,by omega⟩,fun n hn=> ?_⟩;have h1:aO n≤tot aO t.nodes:=pX (w:=aO) hn;have h2:aO n=n.length+tot cg n:=rfl;refine⟨by omega,fun s hs=> ?_⟩;have h3:cg s≤tot cg n:=pX (w:=cg) hs;have h4:cg s=s.length:=rfl;omega
theorem cG (p:Pool) (hS:aN p≤4194304):au C bA [dQ p] (dQ p) []:=by
 have hP:=cJ hS;have hN:=wC hP.1;have hT:=yX p.t hN.1 hN.2
 have hA:(bT (p.aL.map bW)&&fits (Nat.add 0 (p.aL.map bW).length) 16)=true:=by rw[zZ,cT fj];rfl
 have hC:=yU p.cells an
 have hV:(bT (p.av.map cu)&&fits (Nat.add 0 (p.av.map cu).length) 40)=true:=by rw[wm,cT fj];rfl
 refine(Wk _ _ _ _ _ _ _ ?_).run
 repeat' first
  |exact rfl
  |refine⟨(dQ p,[]),?_,?_,c7⟩
  |refine⟨(dQ p,[]),?_,?_,by trivial⟩
  |refine⟨_,_,hT,?_⟩
  |refine ai hA ?_
  |refine⟨_,hC,?_⟩
  |refine ai hV ?_
theorem bR (p:Pool) (hS:aN p≤4194304):au C aP [dQ p] (dQ p) []:=by
 have hP:=cJ hS;have hN:=wC hP.1;have hT:=xd p.t hN.1 hN.2;have hA:=oV p.aL an;have hC:=vW p.cells an
 have hV:(bT (p.av.map cu)&&fits (Nat.add 0 (p.av.map cu).length) 40)=true:=by rw[wm,cT fj];rfl
 refine(Tq _ _ _ _ _ _ _ ?_).run
 repeat' first
  |exact rfl
  |refine⟨(dQ p,[]),?_,?_,c7⟩
  |refine⟨(dQ p,[]),?_,?_,by trivial⟩
  |refine⟨_,_,hT,?_⟩
  |refine⟨_,hA,?_⟩
  |refine⟨_,hC,?_⟩
  |refine ai hV ?_
theorem PU (l:List Key) (hl:l.length≤1073741824):au C aW [dP l] (iu (newNode l)) []:=by
 refine(J1 _ _ ?_).run;unfold newNode
 by_cases h:l.length=0
 ·exact ai (by simp[h]) ⟨by rw[aJ h];rfl,by trivial⟩
 ·refine aa (by rw[ct,pO,bF];exact fO an) ?_
  rw[show bT (l.map bP)=true from ni _,cT fj];exact⟨by rw[aF h];rfl,by trivial⟩
theorem NI (n:List (List Key)) (hb:n.length≤1073741824) (hl:tot cg n≤1073741824):au C DB [iu n] (iu (wY n)) []:=by
 have h1:=dy n;exact(Tk _ _ ⟨_,(gu n hb hl _).2 rfl,_,PU (aU n) an,c7⟩).run
theorem NJ (t:Tree) (i:Int) (hl:cN t≤4194304):au C Dz [ef t,vI i] (ef (Au t i)) []:=by
 have hN:=wC hl;have e2:cN t=t.aD.length+(t.nodes.length+tot aO t.nodes):=rfl;refine(Ul _ _ _ _ ⟨_,_,yX t hN.1 hN.2,_,tE _ _ _,?_⟩).run;unfold Au;rw[ct,show cV (Int.ofNat t.nodes.length) 1=(t.nodes.length:Int)-1 from dx fj]
 by_cases h1:0≤i∧i<t.nodes.length
 ·obtain⟨n,hn⟩:=mz h1.1 h1.2
  have hz:aO n≤tot aO t.nodes:=pX (w:=aO) (D2 hn);have e1:aO n=n.length+tot cg n:=rfl;refine ai (by simp[iM];omega) ?_;simp only[tP,hn,aY,dA];refine⟨_,NI n an an,?_⟩;simp only[abf]
  first|exact c7|exact⟨trivial,trivial⟩|trivial|simp
 ·rw[gR h1]
  exact aa (by simp[iM];omega) c7
theorem NK (p:Pool) (i:Int) (hS:aN p≤4194304):au C Dx [dQ p,vI i] (tPB (qf p i)) []:=by
 have hP:=cJ hS;have e2:cN p.t=p.t.aD.length+(p.t.nodes.length+tot aO p.t.nodes):=rfl;refine(TB _ _ _ _ _ _ _ _ ⟨_,_,_,_,_,_,cG p hS,_,gY p hS,?_⟩).run;unfold qf
 cases h0:dg p with
 |false=>exact ai rfl ⟨by simp,by trivial⟩
 |true=>
  refine aa rfl ⟨_,tE _ _ _,?_⟩
  (try dsimp only)
  rw[ct,show cV (Int.ofNat p.t.nodes.length) 1=(p.t.nodes.length:Int)-1 from dx fj]
  by_cases h1:0≤i∧i<p.t.nodes.length
  ·refine aa (by simp[iM];omega) ⟨_,_,NJ p.t i hP.1,?_⟩
   exact⟨by rw[aJ ⟨rfl,h1⟩],by trivial⟩
  ·exact ai (by simp[iM];omega) ⟨by rw[aF (fun h=>h1 h.2)],by trivial⟩
theorem PV (l:List Key) (hl:l.length≤1073741824):au C ee [dP l] (iu (newNode l)) []:=by
 refine(J5 _ _ ?_).run;unfold newNode
 by_cases h:l.length=0
 ·exact ai (by simp[h]) ⟨by rw[aJ h];rfl,by trivial⟩
 ·refine aa (by rw[ct,pO,bF];exact fO an) ?_
  exact⟨_,oU l an,⟨by rw[aF h];rfl,by trivial⟩⟩
theorem NL (n:List (List Key)) (hb:n.length≤1073741824) (hl:tot cg n≤1073741824):au C DA [iu n] (iu (wY n)) []:=by
 have h1:=dy n;exact(SI _ _ ⟨_,(kN n hb hl _).2 rfl,_,PV (aU n) an,c7⟩).run
theorem NM (t:Tree) (i:Int) (hl:cN t≤4194304):au C Dy [ef t,vI i] (ef (Au t i)) []:=by
 have hN:=wC hl;have e2:cN t=t.aD.length+(t.nodes.length+tot aO t.nodes):=rfl;refine(Ug _ _ _ _ ⟨_,_,xd t hN.1 hN.2,_,nM _ _ _,?_⟩).run;unfold Au;rw[ct,show cV (Int.ofNat t.nodes.length) 1=(t.nodes.length:Int)-1 from dx fj]
 by_cases h1:0≤i∧i<t.nodes.length
 ·obtain⟨n,hn⟩:=mz h1.1 h1.2
  have hz:aO n≤tot aO t.nodes:=pX (w:=aO) (D2 hn);have e1:aO n=n.length+tot cg n:=rfl;refine ai (by simp[iM];omega) ?_;simp only[tP,hn,aY,dA];refine⟨_,NL n an an,?_⟩;simp only[abf]
  first|exact c7|exact⟨trivial,trivial⟩|trivial|simp
 ·rw[gR h1]
  exact aa (by simp[iM];omega) c7
theorem NN (p:Pool) (i:Int) (hS:aN p≤4194304):au C Dw [dQ p,vI i] (tPB (qf p i)) []:=by
 have hP:=cJ hS;have e2:cN p.t=p.t.aD.length+(p.t.nodes.length+tot aO p.t.nodes):=rfl;refine(Tr _ _ _ _ _ _ _ _ ⟨_,_,_,_,_,_,bR p hS,_,fq p hS,?_⟩).run;unfold qf
 cases h0:dg p with
 |false=>exact ai rfl ⟨by simp,by trivial⟩
 |true=>
  refine aa rfl ⟨_,nM _ _ _,?_⟩
  (try dsimp only)
  rw[ct,show cV (Int.ofNat p.t.nodes.length) 1=(p.t.nodes.length:Int)-1 from dx fj]
  by_cases h1:0≤i∧i<p.t.nodes.length
  ·refine aa (by simp[iM];omega) ⟨_,_,NM p.t i hP.1,?_⟩
   exact⟨by rw[aJ ⟨rfl,h1⟩],by trivial⟩
  ·exact ai (by simp[iM];omega) ⟨by rw[aF (fun h=>h1 h.2)],by trivial⟩
theorem Gf (p x:Pool) (hS:aN p≤4194304) (hX:aN x≤4194304):au C gP [dQ p,dQ x,vB true] (Pf (abh p x)) []:=by
 refine(Lm _ _ _ _ _ _ _ _ _ _ _ _ _ _ ?_).run;refine aa rfl ⟨_,gY x hX,?_⟩;unfold abh
 cases h1:dg x with
 |false=>exact ai rfl ⟨_,_,_,_,_,_,cG p hS,c7⟩
 |true=>exact aa rfl c7
theorem Ea (p x:Pool) (hS:aN p≤4194304) (hX:aN x≤4194304):au C jx [dQ p,dQ x,vB true] (Pf (abh p x)) []:=by
 refine(J6 _ _ _ _ _ _ _ _ _ _ _ _ _ _ ?_).run;refine aa rfl ⟨_,fq x hX,?_⟩;unfold abh
 cases h1:dg x with
 |false=>exact ai rfl ⟨_,_,_,_,_,_,bR p hS,c7⟩
 |true=>exact aa rfl c7
theorem FR {l:List Vol} {s:ByteArray} (h: ¬cj l s<0): ∃v,fE l (cj l s)=some v:=by
 obtain⟨m,h1,_⟩:=wU _ l h;exact⟨m,h1⟩
theorem xV (p:Pool) (s:ByteArray) (hS:aN p≤4194304) (hz:s.size≤140737488355328):au C w5 [dQ p,vS s] (vI (if uA p s=true then 0 else 1)) []:=by
 refine(WT _ _ _ _ _ _ _ _ ⟨_,gY p hS,?_⟩).run;unfold uA
 cases h1:dg p with
 |false=>exact ai rfl c7
 |true=>
  refine aa rfl ⟨_,(uX s hz (j5 s)).2 rfl,?_⟩
  cases h2:j5 s with
  |false=>exact ai rfl c7
  |true=>exact aa rfl c7
end Go.T.R
