/- What the functions answer. -/
import Derived.Test.YtiinnfilgnhjfaaGreatTP0
set_option linter.unusedVariables false
set_option linter.unusedSimpArgs false
set_option maxRecDepth 100000
set_option maxHeartbeats 4000000
namespace Go.T.R
open Go Go.T
theorem DT (p:Pool) (i:Int) (hS:cY p≤1048576):aa C cg [fZ p,vI i] (YA (gi p i)) []:=by
 have hS2:cY p≤4194304:=by omega
 have hP:=jS hS2
 have htl:=lD p.t
 have hcp:=uf p hS2
 have hok:=yt p hS2
 have hin:=sx i 0 23
 have hfr:=yu p.cells (by omega)
 refine(Hu _ _ _ _ _ _ _ _ ?_).run
 cases hg:ig p with
 |false=>
  rw[hg] at hok
  rw[DS hg]
  repeat' first
   |refine⟨_,_,_,_,_,_,hcp,?_⟩
   |refine⟨_,hok,?_⟩
   |refine⟨_,hin,?_⟩
   |refine⟨_,hfr,?_⟩
   |exact rfl
   |exact⟨rfl,by first|rfl|trivial⟩
   |refine ai (by first|rfl|(rw[aT];rfl)) ?_
   |refine an (by first|rfl|(rw[aT];rfl)) ?_
 |true=>
 rw[hg] at hok
 have h24:=SG hg
 cases hc:fE p.cells i with
 |none=>
  have h1:iQ i 0 23=false:=by
   unfold iQ;refine decide_eq_false fun h=> ?_
   obtain⟨a,ha⟩:=qm (l:=p.cells) h.1 (by omega)
   rw[hc] at ha;cases ha
  rw[h1] at hin
  rw[DR hc]
  repeat' first
   |refine⟨_,_,_,_,_,_,hcp,?_⟩
   |refine⟨_,hok,?_⟩
   |refine⟨_,hin,?_⟩
   |refine⟨_,hfr,?_⟩
   |exact rfl
   |exact⟨rfl,by first|rfl|trivial⟩
   |refine ai (by first|rfl|(rw[aT];rfl)) ?_
   |refine an (by first|rfl|(rw[aT];rfl)) ?_
 |some c=>
  have hi:0≤i∧i<p.cells.length:=Classical.byContradiction fun hn=>by rw[nD hn] at hc;cases hc
  have h1:iQ i 0 23=true:=by unfold iQ;exact decide_eq_true (by omega)
  rw[h1] at hin
  have hrc:rowAt (p.cells.map bJ) i=some [iI c.g,iB c.u,iI c.n]:=by rw[bF,hc];rfl
  cases hu:c.u with
  |false=>
   rw[hu] at hrc
   rw[pE hc fun h=>by rw[hu] at h;cases h.1]
   repeat' first
    |refine⟨_,_,_,_,_,_,hcp,?_⟩
    |refine⟨_,hok,?_⟩
    |refine⟨_,hin,?_⟩
    |refine⟨_,hfr,?_⟩
    |refine⟨_,_,_,hrc,?_⟩
    |exact rfl
    |exact⟨rfl,by first|rfl|trivial⟩
    |refine ai (by first|rfl|(rw[aT];rfl)) ?_
    |refine an (by first|rfl|(rw[aT];rfl)) ?_
  |true=>
  rw[hu] at hrc
  by_cases hf:0≤cX p.cells
  ·have cf:bI (cX p.cells) 0=false:=by rw[dh];exact decide_eq_false (by omega)
   by_cases hle:cX p.cells≤i
   ·have cl:bI i (cX p.cells)=false:=by rw[dh];exact decide_eq_false (by omega)
    have tk:=DL p.cells c.n (by omega)
    have htk:=pO ⟨pR hg,Ka hg hc,hf⟩
    obtain⟨cs,hcs⟩: ∃cs,cs=p.cells.modify (cX p.cells).toNat (fun d=>⟨d.g,true,c.n⟩):=⟨_,rfl⟩
    rw[←hcs] at htk
    have hcl:cs.length=p.cells.length:=by rw[hcs,List.length_modify]
    obtain⟨d,hd,hgen⟩:=DO htk
    have hrd:rowAt (cs.map bJ) (cX p.cells)=some [iI d.g,iB d.u,iI d.n]:=by rw[bF,hd];rfl
    clear hcs
    rw[htk] at tk
    obtain⟨Z,hZ⟩: ∃Z,Z=gi p i:=⟨_,rfl⟩
    rw[←hZ]
    rw[DQ hg hc ⟨hu,hf,hle⟩] at hZ
    have hmk:mJ p i c.n=⟨(fW p i).b,(fW p i).a,(fW p i).k,cX p.cells,d.g⟩:=by unfold mJ;rw[htk];simp only[];rw[hgen]
    have hX:yp p i c.n=(⟨(bh p.t (mJ p i c.n)).1,p.ages,jr cs i,p.vols,p.next⟩,(bh p.t (mJ p i c.n)).2):=by unfold yp;rw[htk]
    have tp:=Fi p.t (mJ p i c.n) (by omega)
    have fc:=DK cs i (by omega)
    have hsz:=JV p.t (mJ p i c.n)
    have hXs:cY (yp p i c.n).1≤4194304:=by
     have h1:=DA cs i
     rw[hX];unfold cY at hS ⊢;simp only[];omega
    have pk2:=yt (yp p i c.n).1 hXs
    rw[hmk] at tp hX
    obtain⟨Tn,bn,hT⟩: ∃T b,bh p.t ⟨(fW p i).b,(fW p i).a,(fW p i).k,cX p.cells,d.g⟩=(T,b):=⟨_,_,rfl⟩
    rw[hT] at tp hX
    obtain⟨m,hm,hmo,hmu⟩:=Q1 (QY hg) hc hu
    obtain⟨hml,_⟩:=List.getElem?_eq_some_iff.1 hm
    have fin:bn=true→ ∀T:Tree,T=Tn→ax C cg jg (TX.ex 0) (pW i (cX p.cells) (Int.ofNat (List.length ((aK p.t).map bD))) ((aK p.t).length:Int) (bI ((aK p.t).length:Int) (Int.ofNat (List.length ((aK p.t).map bD)))) (p.t.lows.map bG) (p.t.nodes.map aI) (p.ages.map di) (p.cells.map bJ) (p.vols.map dJ) p.next p.next (cs.map bJ) ((aK p.t).map bD) (T.lows.map bG) (T.nodes.map aI) (p.ages.map di) (p.cells.map bJ) (p.vols.map dJ)) fun r fs=>r=YA Z∧fs=[]:=by
     intro hb T hTe
     subst hTe hb
     refine D2 _ _ _ _ _ _ _ _ _ _ _ _ _ _ _ _ _ _ _ _ ⟨_,fc,?_⟩
     cases hgx:ig (yp p i c.n).1 with
     |false=>
      rw[M4 hgx] at hZ
      rw[hgx,hX] at pk2
      exact⟨_,pk2,ai rfl ⟨_,_,_,_,_,_,hcp,by rw[hZ],rfl⟩⟩
     |true=>
      rw[M5 (by rw[hX]) hgx,hX] at hZ
      rw[hgx,hX] at pk2
      exact⟨_,pk2,an rfl ⟨by rw[hZ],rfl⟩⟩
    have key: ∀T:Tree,(0≤m→T=p.t)→(m<0→T=Tn∧bn=true)→ah C cg jg 4 0 (gr i (cX p.cells) ((aK p.t).map bD) ((0:Nat):Int) (p.t.lows.map bG) (p.t.nodes.map aI) (p.ages.map di) (p.cells.map bJ) (p.vols.map dJ) p.next p.next (cs.map bJ) (T.lows.map bG) (T.nodes.map aI) (p.ages.map di) (p.cells.map bJ) (p.vols.map dJ)) (fun x st=>ax C cg jg x st fun r fs=>r=YA Z∧fs=[]):=by
     refine bk (aK p.t) (fun j=> ∀T:Tree,(j≤m→T=p.t)→(m<j→T=Tn∧bn=true)→ah C cg jg 4 0 (gr i (cX p.cells) ((aK p.t).map bD) (j:Int) (p.t.lows.map bG) (p.t.nodes.map aI) (p.ages.map di) (p.cells.map bJ) (p.vols.map dJ) p.next p.next (cs.map bJ) (T.lows.map bG) (T.nodes.map aI) (p.ages.map di) (p.cells.map bJ) (p.vols.map dJ)) (fun x st=>ax C cg jg x st fun r fs=>r=YA Z∧fs=[])) ?_ ?_
     ·intro T h1 h2
      have h2:=h2 hml
      exact uT _ _ _ _ _ _ _ _ _ _ _ _ _ _ _ _ _ _ (an (by simp) (fin h2.2 T h2.1))
     ·intro j a hj ha hd2 ht hn T h1 h2
      have hr:rowAt ((aK p.t).map bD) (j:Int)=some [iI a.b,iI a.a,iI a.k,iI a.c,iI a.g]:=by rw[bF,aC,ha];rfl
      have hadd:av (j:Int) 1=(j:Int)+1:=aB (by omega)
      refine uT _ _ _ _ _ _ _ _ _ _ _ _ _ _ _ _ _ _ (ai (by simp<;>omega) ⟨_,_,_,_,_,hr,_,_,_,_,_,hr,?_⟩)
      rw[hadd]
      by_cases hjm:j=m
      ·have hak:a=fW p i:=by rw[hjm,hm] at ha;exact(Option.some.inj ha).symm
       subst hak
       unfold ku at hmo
       simp only[Bool.and_eq_true,decide_eq_true_eq] at hmo
       refine ai (by rw[aT];exact decide_eq_true hmo.1) (ai (by rw[aT];exact decide_eq_true hmo.2) ⟨_,_,_,hrd,_,_,_,hrd,_,_,_,tp,?_⟩)
       cases hb:bn with
       |false=>
        rw[PK (by rw[hX,hb])] at hZ
        exact ai rfl ⟨_,_,_,_,_,_,hcp,D1 _ _ _ _ _ _ _ _ _ _ _ _ _ _ _ _ _ _ _ _ _ _ _ _ _ _ _ _ ⟨by rw[hZ],rfl⟩⟩
       |true=>exact an rfl (hn Tn (fun h=>by omega) (fun _=>⟨rfl,hb⟩))
      ·have hno:ku i a=false:=by
        cases ho:ku i a with
        |false=>rfl
        |true=>exact absurd (hmu j a ha ho) hjm
       have hgo:=hn T (fun h=>h1 (by omega)) (fun h=>h2 (by omega))
       unfold ku at hno
       by_cases ha1:a.k=1
       ·have ha2: ¬a.c=i:=fun e=>by simp[ha1,e] at hno
        exact ai (by rw[aT];exact decide_eq_true ha1) (an (by rw[aT];exact decide_eq_false ha2) hgo)
       ·exact an (by rw[aT];exact decide_eq_false ha1) hgo
    have k0:=key p.t (fun _=>rfl) (fun h=>by omega)
    have hkk:=ua p.t (by omega)
    repeat' first
     |exact k0
     |refine⟨_,_,_,_,_,_,hcp,?_⟩
     |refine⟨_,hok,?_⟩
     |refine⟨_,hin,?_⟩
     |refine⟨_,hfr,?_⟩
     |refine⟨_,_,_,hrc,?_⟩
     |refine an cf ?_
     |refine an cl ?_
     |refine⟨_,_,_,tk,?_⟩
     |refine⟨_,hkk,?_⟩
     |exact rfl
     |exact⟨rfl,by first|rfl|trivial⟩
     |refine ai (by first|rfl|(rw[aT];rfl)) ?_
     |refine an (by first|rfl|(rw[aT];rfl)) ?_
   ·have cl:bI i (cX p.cells)=true:=by rw[dh];exact decide_eq_true (by omega)
    rw[pE hc fun h=>hle h.2.2]
    repeat' first
     |refine⟨_,_,_,_,_,_,hcp,?_⟩
     |refine⟨_,hok,?_⟩
     |refine⟨_,hin,?_⟩
     |refine⟨_,hfr,?_⟩
     |refine⟨_,_,_,hrc,?_⟩
     |refine an cf ?_
     |refine ai cl ?_
     |exact rfl
     |exact⟨rfl,by first|rfl|trivial⟩
     |refine ai (by first|rfl|(rw[aT];rfl)) ?_
     |refine an (by first|rfl|(rw[aT];rfl)) ?_
  ·have cf:bI (cX p.cells) 0=true:=by rw[dh];exact decide_eq_true (by omega)
   rw[pE hc fun h=>hf h.2.1]
   repeat' first
    |refine⟨_,_,_,_,_,_,hcp,?_⟩
    |refine⟨_,hok,?_⟩
    |refine⟨_,hin,?_⟩
    |refine⟨_,hfr,?_⟩
    |refine⟨_,_,_,hrc,?_⟩
    |refine ai cf ?_
    |exact rfl
    |exact⟨rfl,by first|rfl|trivial⟩
    |refine ai (by first|rfl|(rw[aT];rfl)) ?_
    |refine an (by first|rfl|(rw[aT];rfl)) ?_
theorem Fk (p:Pool) (hS:cY p≤1048576):aa C cL [fZ p] (fZ (xZ p)) []:=by
 unfold xZ
 obtain⟨Z,hZe⟩: ∃Z,Z=ry 24 p:=⟨_,rfl⟩
 rw[←hZe]
 have key: ∀(n:Nat),n≤24→ ∀(z:Int) (X:Pool),z=24-(n:Int)→cY X≤1048576→ry n X=Z→ah C cL aj 4 0 (jk z (X.t.lows.map bG) (X.t.nodes.map aI) (X.ages.map di) (X.cells.map bJ) (X.vols.map dJ) X.next) (fun x st=>ax C cL aj x st fun r fs=>r=fZ Z∧fs=[]):=by
  intro n
  induction n with
  |zero=>
   intro hn24 z X hz hX hZ
   exact xk _ _ _ _ _ _ _ _ (an (by rw[dh];exact decide_eq_false (by omega)) (FY _ _ _ _ _ _ _ _ ⟨by rw[←hZ];rfl,rfl⟩))
  |succ n ih=>
   intro hn24 z X hz hX hZ
   ·have hnx: ∀X:Pool,cY X≤1048576→ry n X=Z→ah C cL aj 4 0 (jk (av z 1) (X.t.lows.map bG) (X.t.nodes.map aI) (X.ages.map di) (X.cells.map bJ) (X.vols.map dJ) X.next) (fun x st=>ax C cL aj x st fun r fs=>r=fZ Z∧fs=[]):=fun X h1 h2=>by
     rw[aB (by omega)];exact ih (by omega) (z+1) X (by omega) h1 h2
    have la:=wg X (by omega)
    have ms:=uh X (eR X.cells X.cells.length) (by omega)
    have msz:=tT X (eR X.cells X.cells.length)
    unfold ry at hZ
    generalize gi X (eR X.cells X.cells.length)=Y at*
    obtain⟨Y,b⟩:=Y
    refine xk _ _ _ _ _ _ _ _ (ai (by rw[dh];exact decide_eq_true (by omega)) ?_)
    cases b with
    |false=>
     rw[if_neg (by simp)] at hZ
     repeat' first
      |refine⟨_,la,?_⟩
      |refine⟨_,_,_,_,_,_,_,ms,?_⟩
      |exact xj _ _ _ _ _ _ _ _ _ _ _ _ _ _ _ _ _ _ _ ⟨by rw[hZ],rfl⟩
      |refine⟨?_,?_⟩
      |exact rfl
      |exact⟨rfl,by first|rfl|trivial⟩
      |refine ai (by first|rfl|(rw[aT];rfl)) ?_
      |refine an (by first|rfl|(rw[aT];rfl)) ?_
    |true=>
     rw[if_pos rfl] at hZ
     repeat' first
      |exact hnx Y (by simp only[] at msz;omega) hZ
      |refine⟨_,la,?_⟩
      |refine⟨_,_,_,_,_,_,_,ms,?_⟩
      |refine⟨?_,?_⟩
      |exact rfl
      |exact⟨rfl,by first|rfl|trivial⟩
      |refine ai (by first|rfl|(rw[aT];rfl)) ?_
      |refine an (by first|rfl|(rw[aT];rfl)) ?_
 have k0: ∀X:Pool,cY X≤1048576→ry 24 X=Z→ah C cL aj 4 0 (qp (X.t.lows.map bG) (X.t.nodes.map aI) (X.ages.map di) (X.cells.map bJ) X.next (X.vols.map dJ)) (fun x st=>ax C cL aj x st fun r fs=>r=fZ Z∧fs=[]):=by
  intro X hX hZ
  · · ·have hnx: ∀X:Pool,cY X≤1048576→ry 23 X=Z→ah C cL aj 4 0 (jk (av 0 1) (X.t.lows.map bG) (X.t.nodes.map aI) (X.ages.map di) (X.cells.map bJ) (X.vols.map dJ) X.next) (fun x st=>ax C cL aj x st fun r fs=>r=fZ Z∧fs=[]):=fun X h1 h2=>by
        rw[show av 0 1=1 from by rw[aB (by omega)];rfl]
        exact key 23 (by omega) 1 X rfl h1 h2
       have la:=wg X (by omega)
       have ms:=uh X (eR X.cells X.cells.length) (by omega)
       have msz:=tT X (eR X.cells X.cells.length)
       unfold ry at hZ
       generalize gi X (eR X.cells X.cells.length)=Y at*
       obtain⟨Y,b⟩:=Y
       refine FX _ _ _ _ _ _ _ (ai (by first|rfl|(rw[dh];rfl)) ?_)
       cases b with
       |false=>
        rw[if_neg (by simp)] at hZ
        repeat' first
         |refine⟨_,la,?_⟩
         |refine⟨_,_,_,_,_,_,_,ms,?_⟩
         |exact xj _ _ _ _ _ _ _ _ _ _ _ _ _ _ _ _ _ _ _ ⟨by rw[hZ],rfl⟩
         |refine⟨?_,?_⟩
         |exact rfl
         |exact⟨rfl,by first|rfl|trivial⟩
         |refine ai (by first|rfl|(rw[aT];rfl)) ?_
         |refine an (by first|rfl|(rw[aT];rfl)) ?_
       |true=>
        rw[if_pos rfl] at hZ
        repeat' first
         |exact hnx Y (by simp only[] at msz;omega) hZ
         |refine⟨_,la,?_⟩
         |refine⟨_,_,_,_,_,_,_,ms,?_⟩
         |refine⟨?_,?_⟩
         |exact rfl
         |exact⟨rfl,by first|rfl|trivial⟩
         |refine ai (by first|rfl|(rw[aT];rfl)) ?_
         |refine an (by first|rfl|(rw[aT];rfl)) ?_
 exact(KC _ _ _ _ _ _ _ ⟨_,_,_,_,_,_,we p (by omega),k0 p hS hZe.symm⟩).run
theorem wh (p:Pool) (hS:cY p≤1048576):aa C eo [fZ p] (fZ (xZ p)) []:=by
 unfold xZ
 obtain⟨Z,hZe⟩: ∃Z,Z=ry 24 p:=⟨_,rfl⟩
 rw[←hZe]
 have key: ∀(n:Nat),n≤24→ ∀(z:Int) (X:Pool),z=24-(n:Int)→cY X≤1048576→ry n X=Z→ah C eo aj 4 0 (kY z X.next (X.t.lows.map bG) (X.t.nodes.map aI) (X.ages.map di) (X.cells.map bJ) (X.vols.map dJ)) (fun x st=>ax C eo aj x st fun r fs=>r=fZ Z∧fs=[]):=by
  intro n
  induction n with
  |zero=>
   intro hn24 z X hz hX hZ
   exact xq _ _ _ _ _ _ _ _ (an (by rw[dh];exact decide_eq_false (by omega)) (F9 _ _ _ _ _ _ _ _ ⟨by rw[←hZ];rfl,rfl⟩))
  |succ n ih=>
   intro hn24 z X hz hX hZ
   ·have hnx: ∀X:Pool,cY X≤1048576→ry n X=Z→ah C eo aj 4 0 (kY (av z 1) X.next (X.t.lows.map bG) (X.t.nodes.map aI) (X.ages.map di) (X.cells.map bJ) (X.vols.map dJ)) (fun x st=>ax C eo aj x st fun r fs=>r=fZ Z∧fs=[]):=fun X h1 h2=>by
     rw[aB (by omega)];exact ih (by omega) (z+1) X (by omega) h1 h2
    have la:=DP X.cells (by have:=jS (p:=X) (by omega);omega)
    have ms:=DT X (eR X.cells X.cells.length) (by omega)
    have msz:=tT X (eR X.cells X.cells.length)
    unfold ry at hZ
    generalize gi X (eR X.cells X.cells.length)=Y at*
    obtain⟨Y,b⟩:=Y
    refine xq _ _ _ _ _ _ _ _ (ai (by rw[dh];exact decide_eq_true (by omega)) ?_)
    cases b with
    |false=>
     rw[if_neg (by simp)] at hZ
     repeat' first
      |refine⟨_,la,?_⟩
      |refine⟨_,_,_,_,_,_,_,ms,?_⟩
      |exact F8 _ _ _ _ _ _ _ _ _ _ _ _ _ _ _ ⟨by rw[hZ],rfl⟩
      |refine⟨?_,?_⟩
      |exact rfl
      |exact⟨rfl,by first|rfl|trivial⟩
      |refine ai (by first|rfl|(rw[aT];rfl)) ?_
      |refine an (by first|rfl|(rw[aT];rfl)) ?_
    |true=>
     rw[if_pos rfl] at hZ
     repeat' first
      |exact hnx Y (by simp only[] at msz;omega) hZ
      |refine⟨_,la,?_⟩
      |refine⟨_,_,_,_,_,_,_,ms,?_⟩
      |refine⟨?_,?_⟩
      |exact rfl
      |exact⟨rfl,by first|rfl|trivial⟩
      |refine ai (by first|rfl|(rw[aT];rfl)) ?_
      |refine an (by first|rfl|(rw[aT];rfl)) ?_
 exact(KP _ _ _ _ _ _ _ ⟨_,_,_,_,_,_,uf p (by omega),key 24 (by omega) 0 p rfl hS hZe.symm⟩).run
attribute [local semireducible] KW in
theorem YW (l:List Uu):ay (l.map NN) 0 (KW (Int.ofNat (List.length (l.map NN))) 200)=(l.take 200).map NN∧ew 0 (KW (Int.ofNat (List.length (l.map NN))) 200) (Int.ofNat (List.length (l.map NN)))=true:=by
 rw[List.length_map]
 have hm:KW (Int.ofNat l.length) 200=((min l.length 200:Nat):Int):=by
  unfold KW
  rw[Int.ofNat_eq_natCast]
  split<;>omega
 rw[hm,cA,AK]
 refine⟨?_,decide_eq_true (by simp only[Int.ofNat_eq_natCast];omega)⟩
 rw[Int.toNat_natCast,show(0:Int).toNat=0 from rfl,List.drop_zero]
 by_cases h:l.length≤200
 ·rw[List.take_of_length_le (by omega),List.take_of_length_le h]
 ·rw[show min l.length 200=200 from by omega]
theorem B6:ee 3 0=false:=by simp
theorem UT:ee 10 0=false:=by simp
def CI:Nat→Int→ByteArray→ByteArray
 |0,_,out=>out
 |n+1,k,out=>if k≤0 then out else CI n (e7 .i64 k 10) (KX (Am [q7 .u8 (48+vl k 10)]) out)
def RY (k:Int):ByteArray:=if k≤0 then⟨#[109,48]⟩ else KX ⟨#[109]⟩ (CI 19 k Yt)
attribute [local semireducible] pG Am KX in
theorem SH (n:Int):pG [[TC.sc (.int .u8 n)]]=some [n]:=rfl
attribute [local semireducible] Am in
theorem UU (n:Int):(Am [n]).size=1:=rfl
attribute [local semireducible] KX in
theorem SI (a b:ByteArray):(KX a b).size=a.size+b.size:=by show(a++b).size=_;simp
attribute [local semireducible] e7 in
theorem RZ {a b:Int} (h0:0≤a) (h1:a≤9223372036854775807):e7 .i64 a 10=a/10:=by
 show IntKind.i64.wrap (a.tdiv 10)=_
 rw[Int.tdiv_eq_ediv_of_nonneg h0]
 exact IntWalk.i64_in _ (by omega)
theorem Q6 (n:Nat) (k:Int) (out:ByteArray) (h:k≤0):CI n k out=out:=by cases n<;>simp[CI,h]
theorem N1 (k:Int) (hk:k≤2305843009213693952):aa C eH [vI k] (vS (RY k)) []:=by
 refine(G8 _ _ ?_).run
 unfold RY
 simp only[fX,bK]
 by_cases h:k≤0
 ·rw[if_pos h,if_pos h];exact⟨rfl,by first|rfl|trivial⟩
 ·rw[if_neg h,if_neg h]
  have key: ∀(F:ByteArray) (n:Nat) (k':Int) (out:ByteArray),k'<10 ^ n→k'≤2305843009213693952→out.size+n≤100→CI n k' out=F→ah C eH CO 4 0 (mM k' out) (fun u st=>ax C eH CO u st fun r fs=>r=vS (KX ⟨#[109]⟩ F)∧fs=[]):=by
   intro F n
   induction n with
   |zero=>
    intro k' out h1 h2 h3 h4
    refine pY _ _ _ (an (by simp at h1 ⊢;omega) (uP _ _ _ _ ?_))
    simp only[CI] at h4
    subst h4
    refine ai (cW (by simp only[natAdd,ER];omega)) ⟨rfl,by first|rfl|trivial⟩
   |succ n ih=>
    intro k' out h1 h2 h3 h4
    by_cases h0:k'≤0
    ·rw[Q6 _ _ _ h0] at h4
     subst h4
     exact pY _ _ _ (an (by simp;omega) (uP _ _ _ _ (ai (cW (by simp only[natAdd,ER];omega)) ⟨rfl,by first|rfl|trivial⟩)))
    ·simp only[CI,if_neg h0] at h4
     have hr:0≤vl k' 10∧vl k' 10≤9:=by rw[VP,Int.tmod_eq_emod_of_nonneg (by omega)];omega
     refine pY _ _ _ (ai (by simp;omega) (an UT ⟨_,SH _,ai (cW (by simp only[natAdd,ER,UU];omega)) (an UT ?_)⟩))
     rw[aB (by omega)]
     refine ih _ _ ?_ ?_ ?_ h4
     ·rw[RZ (b:=0) (by omega) (by omega)]
      have:(10:Int) ^ (n+1)=10 ^ n*10:=Int.pow_succ ..
      omega
     ·rw[RZ (b:=0) (by omega) (by omega)];omega
     ·rw[SI,UU];omega
  exact key _ 19 k Yt (by rw[show(10:Int) ^ 19=10000000000000000000 from by decide];omega) hk (by decide) rfl
theorem Kb (k:Int) (hk:k≤2305843009213693952) (q:ByteArray):aa C eH [vI k] (vS q) []↔q=RY k:=Zc (N1 k hk)
def mkInt (_:Int) (k:Int):Int:=k
def DU (_:Int):Nat:=1
theorem UW (l:List (Int)) (k:Int) (h0:0≤k) (hk:k+tot DU l≤2305843009213693952) (hl:l.length≤1099511627776):aa C g9 [p7 l,vI k] (vI (k+tot DU l)) [p7 (fD mkInt DU l k)]:=by
 refine(Iq _ _ _ ?_).run
 refine rU (e:=bG) mkInt DU (fun k i rows=>ah C g9 ak 4 0 (mY k i rows) _) 2305843009213693952 ?_ l [] k h0 hk (by simpa using hl) ?_
 ·intro d a r k h0 hk hd hn
  have hw:DU a=1:=rfl
  rw[hw] at hk hn
  refine vj _ _ _ _ (ai (by simp;omega) ?_)
  simp (disch:=omega) only[aB]
  simp only[vv,Xu,lP,gy,jQ,Option.some.injEq,exists_eq_left',exists_eq_left,mod_mod,B6,lO,bL]
  rw[xW]
  rw[show(k+1:Int)=k+((1:Nat):Int) by omega]
  exact hn
 ·refine vj _ _ _ _ (an (by simp[kO]) (Em _ _ _ _ _ ⟨rfl,by first|rfl|trivial⟩))
theorem UX (l:List (Int)) (k:Int) (h0:0≤k) (hk:k+tot DU l≤2305843009213693952) (hl:l.length≤1099511627776):aa C hD [p7 (fD mkInt DU l k),vI k] (vI (k+tot DU l)) []:=by
 refine(HF _ _ _ ?_).run
 refine rV (e:=bG) mkInt DU (fun k i rows=>ah C hD ak 4 0 (mT rows k i) _) 2305843009213693952 ?_ l [] k h0 hk (by simpa using hl) ?_
 ·intro d a r k h0 hk hd hn
  have hw:DU a=1:=rfl
  rw[hw] at hk hn
  refine uY _ _ _ _ (ai (by simp;omega) ?_)
  simp (disch:=omega) only[aB]
  simp only[vv,lP,gy,jQ,Option.some.injEq,exists_eq_left',exists_eq_left,mod_mod,B6,lO,bL,mkInt,aT,JK,JJ,bK,if_true,decide_true,Bool.not_true]
  rw[show(k+1:Int)=k+((1:Nat):Int) by omega]
  exact hn
 ·refine uY _ _ _ _ (an (by simp[kO]) (D8 _ _ _ _ _ ⟨rfl,by first|rfl|trivial⟩))
def mkKey (_:Key) (k:Int):Key:=⟨k,k+1,k+1+1,k+1+1+1,k+1+1+1+1⟩
def CJ (_:Key):Nat:=5
theorem UY (l:List (Key)) (k:Int) (h0:0≤k) (hk:k+tot CJ l≤2305843009213693952) (hl:l.length≤1099511627776):aa C h9 [cJ l,vI k] (vI (k+tot CJ l)) [cJ (fD mkKey CJ l k)]:=by
 refine(II _ _ _ ?_).run
 refine rU (e:=bD) mkKey CJ (fun k i rows=>ah C h9 ak 4 0 (mZ k i rows) _) 2305843009213693952 ?_ l [] k h0 hk (by simpa using hl) ?_
 ·intro d a r k h0 hk hd hn
  have hw:CJ a=5:=rfl
  rw[hw] at hk hn
  refine vk _ _ _ _ (ai (by simp;omega) ?_)
  simp (disch:=omega) only[aB]
  simp only[mF,Ux,Uy,Uz,UA,UB,Xn,lP,gy,jQ,Option.some.injEq,exists_eq_left',exists_eq_left,mod_mod,B6,lO,bL]
  rw[xW]
  rw[show(k+1+1+1+1+1:Int)=k+((5:Nat):Int) by omega]
  exact hn
 ·refine vk _ _ _ _ (an (by simp[kO]) (En _ _ _ _ _ ⟨rfl,by first|rfl|trivial⟩))
theorem UZ (l:List (Key)) (k:Int) (h0:0≤k) (hk:k+tot CJ l≤2305843009213693952) (hl:l.length≤1099511627776):aa C ia [cJ (fD mkKey CJ l k),vI k] (vI (k+tot CJ l)) []:=by
 refine(Hs _ _ _ ?_).run
 refine rV (e:=bD) mkKey CJ (fun k i rows=>ah C ia ak 4 0 (mO rows k i) _) 2305843009213693952 ?_ l [] k h0 hk (by simpa using hl) ?_
 ·intro d a r k h0 hk hd hn
  have hw:CJ a=5:=rfl
  rw[hw] at hk hn
  refine uS _ _ _ _ (ai (by simp;omega) ?_)
  simp (disch:=omega) only[aB]
  simp only[mF,lP,gy,jQ,Option.some.injEq,exists_eq_left',exists_eq_left,mod_mod,B6,lO,bL,mkKey,aT,JK,JJ,bK,if_true,decide_true,Bool.not_true]
  rw[show(k+1+1+1+1+1:Int)=k+((5:Nat):Int) by omega]
  exact hn
 ·refine uS _ _ _ _ (an (by simp[kO]) (D0 _ _ _ _ _ ⟨rfl,by first|rfl|trivial⟩))
def M6 (_:Age) (k:Int):Age:=⟨k,k+1⟩
def CK (_:Age):Nat:=2
theorem U0 (l:List (Age)) (k:Int) (h0:0≤k) (hk:k+tot CK l≤2305843009213693952) (hl:l.length≤1099511627776):aa C gZ [jP l,vI k] (vI (k+tot CK l)) [jP (fD M6 CK l k)]:=by
 refine(Ih _ _ _ ?_).run
 refine rU (e:=di) M6 CK (fun k i rows=>ah C gZ ak 4 0 (mW k i rows) _) 2305843009213693952 ?_ l [] k h0 hk (by simpa using hl) ?_
 ·intro d a r k h0 hk hd hn
  have hw:CK a=2:=rfl
  rw[hw] at hk hn
  refine vf _ _ _ _ (ai (by simp;omega) ?_)
  simp (disch:=omega) only[aB]
  simp only[vw,Sq,Ss,Xo,lP,gy,jQ,Option.some.injEq,exists_eq_left',exists_eq_left,mod_mod,B6,lO,bL]
  rw[xW]
  rw[show(k+1+1:Int)=k+((2:Nat):Int) by omega]
  exact hn
 ·refine vf _ _ _ _ (an (by simp[kO]) (Ei _ _ _ _ _ ⟨rfl,by first|rfl|trivial⟩))
theorem U1 (l:List (Age)) (k:Int) (h0:0≤k) (hk:k+tot CK l≤2305843009213693952) (hl:l.length≤1099511627776):aa C g7 [jP (fD M6 CK l k),vI k] (vI (k+tot CK l)) []:=by
 refine(Ii _ _ _ ?_).run
 refine rV (e:=di) M6 CK (fun k i rows=>ah C g7 ak 4 0 (mX rows k i) _) 2305843009213693952 ?_ l [] k h0 hk (by simpa using hl) ?_
 ·intro d a r k h0 hk hd hn
  have hw:CK a=2:=rfl
  rw[hw] at hk hn
  refine vg _ _ _ _ (ai (by simp;omega) ?_)
  simp (disch:=omega) only[aB]
  simp only[vw,lP,gy,jQ,Option.some.injEq,exists_eq_left',exists_eq_left,mod_mod,B6,lO,bL,M6,aT,JK,JJ,bK,if_true,decide_true,Bool.not_true]
  rw[show(k+1+1:Int)=k+((2:Nat):Int) by omega]
  exact hn
 ·refine vg _ _ _ _ (an (by simp[kO]) (Ej _ _ _ _ _ ⟨rfl,by first|rfl|trivial⟩))
def CL (_:Cell) (k:Int):Cell:=⟨k,ee (vl (k+1) 3) 0,k+1+1⟩
def uj (_:Cell):Nat:=3
theorem SJ (l:List (Cell)) (k:Int) (h0:0≤k) (hk:k+tot uj l≤2305843009213693952) (hl:l.length≤1099511627776):aa C gj [e9 l,vI k] (vI (k+tot uj l)) [e9 (fD CL uj l k)]:=by
 refine(Fv _ _ _ ?_).run
 refine rU (e:=bJ) CL uj (fun k i rows=>ah C gj ak 4 0 (lF k i rows) _) 2305843009213693952 ?_ l [] k h0 hk (by simpa using hl) ?_
 ·intro d a r k h0 hk hd hn
  have hw:uj a=3:=rfl
  rw[hw] at hk hn
  refine sR _ _ _ _ (ai (by simp;omega) ?_)
  simp (disch:=omega) only[aB]
  simp only[kH,St,EV,EW,NO,lP,gy,jQ,Option.some.injEq,exists_eq_left',exists_eq_left,mod_mod,B6,lO,bL]
  rw[xW]
  rw[show(k+1+1+1:Int)=k+((3:Nat):Int) by omega]
  exact hn
 ·refine sR _ _ _ _ (an (by simp[kO]) (CR _ _ _ _ _ ⟨rfl,by first|rfl|trivial⟩))
theorem SK (l:List (Cell)) (k:Int) (h0:0≤k) (hk:k+tot uj l≤2305843009213693952) (hl:l.length≤1099511627776):aa C gl [e9 (fD CL uj l k),vI k] (vI (k+tot uj l)) []:=by
 refine(Fw _ _ _ ?_).run
 refine rV (e:=bJ) CL uj (fun k i rows=>ah C gl ak 4 0 (lG rows k i) _) 2305843009213693952 ?_ l [] k h0 hk (by simpa using hl) ?_
 ·intro d a r k h0 hk hd hn
  have hw:uj a=3:=rfl
  rw[hw] at hk hn
  refine sU _ _ _ _ (ai (by simp;omega) ?_)
  simp (disch:=omega) only[aB]
  simp only[kH,lP,gy,jQ,Option.some.injEq,exists_eq_left',exists_eq_left,mod_mod,B6,lO,bL,CL,aT,JK,JJ,bK,if_true,decide_true,Bool.not_true]
  rw[show(k+1+1+1:Int)=k+((3:Nat):Int) by omega]
  simpa [CL] using hn
 ·refine sU _ _ _ _ (an (by simp[kO]) (CS _ _ _ _ _ ⟨rfl,by first|rfl|trivial⟩))
def Kd (_:Vol) (k:Int):Vol:=⟨RY (k),k+1,k+1+1,ee (vl (k+1+1+1) 3) 0⟩
def Fl (_:Vol):Nat:=4
theorem U2 (l:List (Vol)) (k:Int) (h0:0≤k) (hk:k+tot Fl l≤2305843009213693952) (hl:l.length≤1099511627776):aa C g6 [AM l,vI k] (vI (k+tot Fl l)) [AM (fD Kd Fl l k)]:=by
 refine(Hw _ _ _ ?_).run
 refine rU (e:=dJ) Kd Fl (fun k i rows=>ah C g6 ak 4 0 (mP k i rows) _) 2305843009213693952 ?_ l [] k h0 hk (by simpa using hl) ?_
 ·intro d a r k h0 hk hd hn
  have hw:Fl a=4:=rfl
  rw[hw] at hk hn
  refine uU _ _ _ _ (ai (by simp;omega) ?_)
  simp (disch:=omega) only[aB]
  simp only[ET,Ph,QJ,Pj,Su,Xp,Kb (k) (by omega),lP,gy,jQ,Option.some.injEq,exists_eq_left',exists_eq_left,mod_mod,B6,lO,bL]
  rw[xW]
  rw[show(k+1+1+1+1:Int)=k+((4:Nat):Int) by omega]
  exact hn
 ·refine uU _ _ _ _ (an (by simp[kO]) (D3 _ _ _ _ _ ⟨rfl,by first|rfl|trivial⟩))
theorem U3 (l:List (Vol)) (k:Int) (h0:0≤k) (hk:k+tot Fl l≤2305843009213693952) (hl:l.length≤1099511627776):aa C g8 [AM (fD Kd Fl l k),vI k] (vI (k+tot Fl l)) []:=by
 refine(Hy _ _ _ ?_).run
 refine rV (e:=dJ) Kd Fl (fun k i rows=>ah C g8 ak 4 0 (mQ rows k i) _) 2305843009213693952 ?_ l [] k h0 hk (by simpa using hl) ?_
 ·intro d a r k h0 hk hd hn
  have hw:Fl a=4:=rfl
  rw[hw] at hk hn
  refine uV _ _ _ _ (ai (by simp;omega) ?_)
  simp (disch:=omega) only[aB]
  simp only[ET,Kb (k) (by omega),lP,gy,jQ,Option.some.injEq,exists_eq_left',exists_eq_left,mod_mod,B6,lO,bL,Kd,aT,JK,JJ,bK,if_true,decide_true,Bool.not_true]
  rw[show(k+1+1+1+1:Int)=k+((4:Nat):Int) by omega]
  simpa [Kd] using hn
 ·refine uV _ _ _ _ (an (by simp[kO]) (D4 _ _ _ _ _ ⟨rfl,by first|rfl|trivial⟩))
def yh (s:List Key) (k:Int):List Key:=fD mkKey CJ s k
def jv (s:List Key):Nat:=tot CJ s
theorem SL: ∀(l:List (List Key)) (k:Int) (h0:0≤k) (hk:k+tot jv l≤2305843009213693952) (hl:l.length≤1099511627776) (hs: ∀s∈l,s.length≤1099511627776),aa C fj [Dv l,vI k] (vI (k+tot jv l)) [Dv (fD yh jv l k)]:=by
 intro l k h0 hk hl hs
 refine(F3 _ _ _ ?_).run
 have key: ∀(r d:List (List Key)) (k:Int),0≤k→k+tot jv r≤2305843009213693952→d.length+r.length≤1099511627776→(∀s∈r,s.length≤1099511627776)→ ∀(R:TV) (F:List TV),vI (k+tot jv r)=R→[Dv (d++fD yh jv r k)]=F→ah C fj ak 4 0 (lJ k (d.length:Int) ((d++r).map bS)) (fun u st=>ax C fj ak u st fun r fs=>r=R∧fs=F):=by
  intro r
  induction r with
  |nil=>
   intro d k h0 hk hl hs R F hR hF
   subst hR hF
   refine sY _ _ _ _ (an (by simp) (CW _ _ _ _ _ ⟨by simp[tot],by simp[fD]⟩))
  |cons a r ih=>
   intro d k h0 hk hl hs R F hR hF
   simp only[tot,List.length_cons] at hk hl
   have hca:=hs a (.head _)
   have hu:tot CJ a=jv a:=rfl
   refine sY _ _ _ _ (ai (by simp;omega) ?_)
   simp only[sr,jQ,Option.some.injEq,exists_eq_left']
   refine⟨_,_,UY a k h0 (by omega) hca,?_⟩
   simp only[Xv]
   rw[xW,aB (by omega)]
   have:=ih (d++[yh a k]) (k+jv a) (by omega) (by omega) (by simp;omega) (fun s h=>hs s (.tail _ h)) R F (by rw[←hR];simp only[tot];rw[show k+(jv a:Int)+(tot jv r:Int)=k+((jv a+tot jv r:Nat):Int) by omega]) (by rw[←hF];simp[fD])
   rw[←hu] at this
   simpa [yh] using this
 exact key l [] k h0 hk (by simpa using hl) hs _ _ rfl (by simp)
theorem SM: ∀(l:List (List Key)) (k:Int) (h0:0≤k) (hk:k+tot jv l≤2305843009213693952) (hl:l.length≤1099511627776) (hs: ∀s∈l,s.length≤1099511627776),aa C fk [Dv (fD yh jv l k),vI k] (vI (k+tot jv l)) []:=by
 intro l k h0 hk hl hs
 refine(Gf _ _ _ ?_).run
 have key: ∀(r d:List (List Key)) (k:Int),0≤k→k+tot jv r≤2305843009213693952→d.length+r.length≤1099511627776→(∀s∈r,s.length≤1099511627776)→ ∀(R:TV),vI (k+tot jv r)=R→ah C fk ak 4 0 (lK ((d++fD yh jv r k).map bS) k (d.length:Int)) (fun u st=>ax C fk ak u st fun r fs=>r=R∧fs=[]):=by
  intro r
  induction r with
  |nil=>
   intro d k h0 hk hl hs R hR
   subst hR
   refine tf _ _ _ _ (an (by simp[fD]) (C0 _ _ _ _ _ ⟨by simp[tot],rfl⟩))
  |cons a r ih=>
   intro d k h0 hk hl hs R hR
   simp only[tot,List.length_cons] at hk hl
   have hca:=hs a (.head _)
   have hu:tot CJ a=jv a:=rfl
   simp only[fD]
   refine tf _ _ _ _ (ai (by simp;omega) ?_)
   simp only[sr,jQ,Option.some.injEq,exists_eq_left']
   refine⟨_,UZ a k h0 (by omega) hca,an (by simp;omega) ?_⟩
   rw[aB (by omega)]
   have:=ih (d++[yh a k]) (k+jv a) (by omega) (by omega) (by simp;omega) (fun s h=>hs s (.tail _ h)) R (by rw[←hR];simp only[tot];rw[show k+(jv a:Int)+(tot jv r:Int)=k+((jv a+tot jv r:Nat):Int) by omega])
   rw[hu]
   simpa [yh] using this
 exact key l [] k h0 hk (by simpa using hl) hs _ rfl
def mkNode (s:List (List Key)) (k:Int):List (List Key):=fD yh jv s k
def kG (s:List (List Key)):Nat:=tot jv s
theorem SN: ∀(l:List (List (List Key))) (k:Int) (h0:0≤k) (hk:k+tot kG l≤2305843009213693952) (hl:l.length≤1099511627776) (hs: ∀s∈l,DE s),aa C ff [sq l,vI k] (vI (k+tot kG l)) [sq (fD mkNode kG l k)]:=by
 intro l k h0 hk hl hs
 refine(Fz _ _ _ ?_).run
 have key: ∀(r d:List (List (List Key))) (k:Int),0≤k→k+tot kG r≤2305843009213693952→d.length+r.length≤1099511627776→(∀s∈r,DE s)→ ∀(R:TV) (F:List TV),vI (k+tot kG r)=R→[sq (d++fD mkNode kG r k)]=F→ah C ff ak 4 0 (lH k (d.length:Int) ((d++r).map aI)) (fun u st=>ax C ff ak u st fun r fs=>r=R∧fs=F):=by
  intro r
  induction r with
  |nil=>
   intro d k h0 hk hl hs R F hR hF
   subst hR hF
   refine sV _ _ _ _ (an (by simp) (CT _ _ _ _ _ ⟨by simp[tot],by simp[fD]⟩))
  |cons a r ih=>
   intro d k h0 hk hl hs R F hR hF
   simp only[tot,List.length_cons] at hk hl
   have hca:=hs a (.head _)
   have hu:tot jv a=kG a:=rfl
   refine sV _ _ _ _ (ai (by simp;omega) ?_)
   simp only[rK,jQ,Option.some.injEq,exists_eq_left']
   refine⟨_,_,SL a k h0 (by omega) hca.1 hca.2,?_⟩
   simp only[VW]
   rw[xW,aB (by omega)]
   have:=ih (d++[mkNode a k]) (k+kG a) (by omega) (by omega) (by simp;omega) (fun s h=>hs s (.tail _ h)) R F (by rw[←hR];simp only[tot];rw[show k+(kG a:Int)+(tot kG r:Int)=k+((kG a+tot kG r:Nat):Int) by omega]) (by rw[←hF];simp[fD])
   rw[←hu] at this
   simpa [mkNode] using this
 exact key l [] k h0 hk (by simpa using hl) hs _ _ rfl (by simp)
theorem SO: ∀(l:List (List (List Key))) (k:Int) (h0:0≤k) (hk:k+tot kG l≤2305843009213693952) (hl:l.length≤1099511627776) (hs: ∀s∈l,DE s),aa C fh [sq (fD mkNode kG l k),vI k] (vI (k+tot kG l)) []:=by
 intro l k h0 hk hl hs
 refine(F0 _ _ _ ?_).run
 have key: ∀(r d:List (List (List Key))) (k:Int),0≤k→k+tot kG r≤2305843009213693952→d.length+r.length≤1099511627776→(∀s∈r,DE s)→ ∀(R:TV),vI (k+tot kG r)=R→ah C fh ak 4 0 (lI ((d++fD mkNode kG r k).map aI) k (d.length:Int)) (fun u st=>ax C fh ak u st fun r fs=>r=R∧fs=[]):=by
  intro r
  induction r with
  |nil=>
   intro d k h0 hk hl hs R hR
   subst hR
   refine sX _ _ _ _ (an (by simp[fD]) (CV _ _ _ _ _ ⟨by simp[tot],rfl⟩))
  |cons a r ih=>
   intro d k h0 hk hl hs R hR
   simp only[tot,List.length_cons] at hk hl
   have hca:=hs a (.head _)
   have hu:tot jv a=kG a:=rfl
   simp only[fD]
   refine sX _ _ _ _ (ai (by simp;omega) ?_)
   simp only[rK,jQ,Option.some.injEq,exists_eq_left']
   refine⟨_,SM a k h0 (by omega) hca.1 hca.2,an (by simp;omega) ?_⟩
   rw[aB (by omega)]
   have:=ih (d++[mkNode a k]) (k+kG a) (by omega) (by omega) (by simp;omega) (fun s h=>hs s (.tail _ h)) R (by rw[←hR];simp only[tot];rw[show k+(kG a:Int)+(tot kG r:Int)=k+((kG a+tot kG r:Nat):Int) by omega])
   rw[hu]
   simpa [mkNode] using this
 exact key l [] k h0 hk (by simpa using hl) hs _ rfl
def yy (t:Tree):Nat:=tot DU t.lows+tot kG t.nodes
def Q7 (t:Tree) (k:Int):Tree:=⟨fD mkInt DU t.lows k,fD mkNode kG t.nodes (k+tot DU t.lows)⟩
theorem U4 (t:Tree) (k:Int) (h0:0≤k) (hk:k+yy t≤2305843009213693952) (h:M0 t):aa C vz [dG t,vI k] (vI (k+yy t)) [dG (Q7 t k)]:=by
 unfold yy at*
 refine(HP _ _ _ _ ⟨_,_,UW t.lows k h0 (by omega) h.1,_,_,SN t.nodes _ (by omega) (by omega) h.2.1 h.2.2,?_⟩).run
 exact⟨by congr 2;omega,rfl⟩
theorem U5 (t:Tree) (k:Int) (h0:0≤k) (hk:k+yy t≤2305843009213693952) (h:M0 t):aa C vA [dG (Q7 t k),vI k] (vI (k+yy t)) []:=by
 unfold yy at*
 refine(HQ _ _ _ _ ⟨_,UX t.lows k h0 (by omega) h.1,an (by simp;omega) ⟨_,SO t.nodes _ (by omega) (by omega) h.2.1 h.2.2,an (by simp;omega) ?_⟩⟩).run
 exact⟨by congr 2;omega,rfl⟩
def GD (p:Pool):Nat:=yy p.t+tot CK p.ages+tot uj p.cells+tot Fl p.vols
def U6 (p:Pool) (k:Int):Pool:=⟨Q7 p.t k,fD M6 CK p.ages (k+yy p.t),fD CL uj p.cells (k+yy p.t+tot CK p.ages),fD Kd Fl p.vols (k+yy p.t+tot CK p.ages+tot uj p.cells),p.next⟩
theorem PL (p:Pool) (k:Int) (h0:0≤k) (hk:k+GD p≤2305843009213693952) (h:PJ p):aa C qy [fZ p,vI k] (vI (k+GD p)) [fZ (U6 p k)]:=by
 unfold GD at*
 refine(G5 _ _ _ _ _ _ _ _ ⟨_,_,_,U4 p.t k h0 (by omega) h.t,_,_,U0 p.ages _ (by omega) (by omega) h.ages,_,_,SJ p.cells _ (by omega) (by omega) h.cells,_,_,U2 p.vols _ (by omega) (by omega) h.vols,?_⟩).run
 exact⟨by congr 2;omega,rfl⟩
theorem PM (p:Pool) (k:Int) (h0:0≤k) (hk:k+GD p≤2305843009213693952) (h:PJ p):aa C qz [fZ (U6 p k),vI k] (vI (k+GD p)) []:=by
 unfold GD at*
 refine(Ht _ _ _ _ _ _ _ _ ⟨_,U5 p.t k h0 (by omega) h.t,an (by simp;omega) ⟨_,U1 p.ages _ (by omega) (by omega) h.ages,an (by simp;omega) ⟨_,SK p.cells _ (by omega) (by omega) h.cells,an (by simp;omega) ⟨_,U3 p.vols _ (by omega) (by omega) h.vols,an (by simp;omega) ?_⟩⟩⟩⟩).run
 exact⟨by congr 2;omega,rfl⟩
theorem CM {n z:Nat} (h:n*z≤reachBytes) (hz:1≤z):n≤140737488355328:=by
 have:reachBytes≤140737488355328:=by decide
 have h2:n*1≤n*z:=Nat.mul_le_mul_left n hz
 omega
theorem XU {n:Int} (h:(Lit.int .i64 n).wf=true):n≤9223372036854775807:=by
 have:=(Xl h).2
 omega
theorem U7 {r:List TC} (h:rT C.tt WL r): ∃n:Int,r=bG n∧True:=by
 obtain⟨n,rfl,_⟩:=h.oC (k:= .i64) (by kernel_rfl)
 exact⟨n,rfl,trivial⟩
theorem XV {r:List TC} (h:rT C.tt J0 r): ∃x:Key,r=bD x∧True:=by
 obtain⟨q0,r0,rfl,h0,k0⟩:=(h.oY (fs:=[(0,3),(1,3),(2,3),(3,3),(4,3)]) (by kernel_rfl)).cons_inv
 obtain⟨q1,r1,rfl,h1,k1⟩:=k0.cons_inv
 obtain⟨q2,r2,rfl,h2,k2⟩:=k1.cons_inv
 obtain⟨q3,r3,rfl,h3,k3⟩:=k2.cons_inv
 obtain⟨q4,r4,rfl,h4,k4⟩:=k3.cons_inv
 have e:=k4.xV
 subst e
 obtain⟨v0,rfl,u0⟩:=h0.oC (k:= .i64) (by kernel_rfl)
 obtain⟨v1,rfl,u1⟩:=h1.oC (k:= .i64) (by kernel_rfl)
 obtain⟨v2,rfl,u2⟩:=h2.oC (k:= .i64) (by kernel_rfl)
 obtain⟨v3,rfl,u3⟩:=h3.oC (k:= .i64) (by kernel_rfl)
 obtain⟨v4,rfl,u4⟩:=h4.oC (k:= .i64) (by kernel_rfl)
 exact⟨⟨v0,v1,v2,v3,v4⟩,rfl,trivial⟩
theorem XW {r:List TC} (h:rT C.tt JZ r): ∃x:Age,r=di x∧True:=by
 obtain⟨q0,r0,rfl,h0,k0⟩:=(h.oY (fs:=[(0,3),(1,3)]) (by kernel_rfl)).cons_inv
 obtain⟨q1,r1,rfl,h1,k1⟩:=k0.cons_inv
 have e:=k1.xV
 subst e
 obtain⟨v0,rfl,u0⟩:=h0.oC (k:= .i64) (by kernel_rfl)
 obtain⟨v1,rfl,u1⟩:=h1.oC (k:= .i64) (by kernel_rfl)
 exact⟨⟨v0,v1⟩,rfl,trivial⟩
theorem Wg {r:List TC} (h:rT C.tt GA r): ∃x:Cell,r=bJ x∧True:=by
 obtain⟨q0,r0,rfl,h0,k0⟩:=(h.oY (fs:=[(0,3),(1,4),(2,3)]) (by kernel_rfl)).cons_inv
 obtain⟨q1,r1,rfl,h1,k1⟩:=k0.cons_inv
 obtain⟨q2,r2,rfl,h2,k2⟩:=k1.cons_inv
 have e:=k2.xV
 subst e
 obtain⟨v0,rfl,u0⟩:=h0.oC (k:= .i64) (by kernel_rfl)
 obtain⟨v1,rfl⟩:=h1.Pc (by kernel_rfl)
 obtain⟨v2,rfl,u2⟩:=h2.oC (k:= .i64) (by kernel_rfl)
 exact⟨⟨v0,v1,v2⟩,rfl,trivial⟩
theorem XX {r:List TC} (h:rT C.tt J1 r): ∃x:Vol,r=dJ x∧x.name.size≤140737488355328∧x.size≤9223372036854775807:=by
 obtain⟨q0,r0,rfl,h0,k0⟩:=(h.oY (fs:=[(0,9),(1,3),(2,3),(3,4)]) (by kernel_rfl)).cons_inv
 obtain⟨q1,r1,rfl,h1,k1⟩:=k0.cons_inv
 obtain⟨q2,r2,rfl,h2,k2⟩:=k1.cons_inv
 obtain⟨q3,r3,rfl,h3,k3⟩:=k2.cons_inv
 have e:=k3.xV
 subst e
 obtain⟨v0,rfl,z0⟩:=h0.VQ (by kernel_rfl)
 obtain⟨v1,rfl,u1⟩:=h1.oC (k:= .i64) (by kernel_rfl)
 obtain⟨v2,rfl,u2⟩:=h2.oC (k:= .i64) (by kernel_rfl)
 obtain⟨v3,rfl⟩:=h3.Pc (by kernel_rfl)
 exact⟨⟨v0,v1,v2,v3⟩,rfl,⟨Nat.le_trans z0 (by decide),XU u2⟩⟩
theorem SP {r:List TC} (h:rT C.tt V5 r): ∃l:List (Int),r=[.sub 1 (l.map bG)]∧l.length≤140737488355328∧ ∀x∈l,True:=by
 obtain⟨w,rfl,y,z⟩:=h.ql (e:=WL) (by kernel_rfl)
 obtain⟨l,rfl,hl⟩:=ni fun r hr=>U7 (y r hr)
 rw[List.length_map] at z
 exact⟨l,rfl,CM z (by decide+kernel),hl⟩
theorem SQ {r:List TC} (h:rT C.tt ye r): ∃l:List (Key),r=[.sub 5 (l.map bD)]∧l.length≤140737488355328∧ ∀x∈l,True:=by
 obtain⟨w,rfl,y,z⟩:=h.ql (e:=J0) (by kernel_rfl)
 obtain⟨l,rfl,hl⟩:=ni fun r hr=>XV (y r hr)
 rw[List.length_map] at z
 exact⟨l,rfl,CM z (by decide+kernel),hl⟩
theorem SR {r:List TC} (h:rT C.tt NU r): ∃l:List (Age),r=[.sub 2 (l.map di)]∧l.length≤140737488355328∧ ∀x∈l,True:=by
 obtain⟨w,rfl,y,z⟩:=h.ql (e:=JZ) (by kernel_rfl)
 obtain⟨l,rfl,hl⟩:=ni fun r hr=>XW (y r hr)
 rw[List.length_map] at z
 exact⟨l,rfl,CM z (by decide+kernel),hl⟩
theorem Q8 {r:List TC} (h:rT C.tt K7 r): ∃l:List (Cell),r=[.sub 3 (l.map bJ)]∧l.length≤140737488355328∧ ∀x∈l,True:=by
 obtain⟨w,rfl,y,z⟩:=h.ql (e:=GA) (by kernel_rfl)
 obtain⟨l,rfl,hl⟩:=ni fun r hr=>Wg (y r hr)
 rw[List.length_map] at z
 exact⟨l,rfl,CM z (by decide+kernel),hl⟩
theorem SS {r:List TC} (h:rT C.tt NV r): ∃l:List (Vol),r=[.sub 4 (l.map dJ)]∧l.length≤140737488355328∧ ∀x∈l,x.name.size≤140737488355328∧x.size≤9223372036854775807:=by
 obtain⟨w,rfl,y,z⟩:=h.ql (e:=J1) (by kernel_rfl)
 obtain⟨l,rfl,hl⟩:=ni fun r hr=>XX (y r hr)
 rw[List.length_map] at z
 exact⟨l,rfl,CM z (by decide+kernel),hl⟩
theorem XY {r:List TC} (h:rT C.tt ye r): ∃s:List Key,r=bS s∧s.length≤140737488355328:=by
 obtain⟨l,rfl,hl,_⟩:=SQ h
 exact⟨l,rfl,hl⟩
theorem SU {r:List TC} (h:rT C.tt K6 r): ∃l:List (List Key),r=[.sub 1 (l.map bS)]∧l.length≤140737488355328∧ ∀x∈l,x.length≤140737488355328:=by
 obtain⟨w,rfl,y,z⟩:=h.ql (e:=ye) (by kernel_rfl)
 obtain⟨l,rfl,hl⟩:=ni fun r hr=>XY (y r hr)
 rw[List.length_map] at z
 exact⟨l,rfl,CM z (by decide+kernel),hl⟩
theorem Wh {r:List TC} (h:rT C.tt GB r): ∃n:List (List Key),r=aI n∧(n.length≤140737488355328∧ ∀s∈n,s.length≤140737488355328):=by
 obtain⟨q0,r0,rfl,h0,k0⟩:=(h.oY (fs:=[(0,178)]) (by kernel_rfl)).cons_inv
 have e:=k0.xV
 subst e
 obtain⟨l,rfl,hl,hs⟩:=SU h0
 exact⟨l,rfl,hl,hs⟩
theorem Q9 {r:List TC} (h:rT C.tt K8 r): ∃l:List (List (List Key)),r=[.sub 1 (l.map aI)]∧l.length≤140737488355328∧ ∀x∈l,x.length≤140737488355328∧ ∀s∈x,s.length≤140737488355328:=by
 obtain⟨w,rfl,y,z⟩:=h.ql (e:=GB) (by kernel_rfl)
 obtain⟨l,rfl,hl⟩:=ni fun r hr=>Wh (y r hr)
 rw[List.length_map] at z
 exact⟨l,rfl,CM z (by decide+kernel),hl⟩
theorem Wi {r:List TC} (h:rT C.tt PI r): ∃t:Tree,r=RN t∧UR t:=by
 obtain⟨q0,r0,rfl,h0,k0⟩:=(h.oY (fs:=[(0,22),(1,23)]) (by kernel_rfl)).cons_inv
 obtain⟨q1,r1,rfl,h1,k1⟩:=k0.cons_inv
 have e:=k1.xV
 subst e
 obtain⟨l,rfl,hl,_⟩:=SP h0
 obtain⟨n,rfl,hn,hs⟩:=Q9 h1
 exact⟨⟨l,n⟩,rfl,⟨hl,hn,hs⟩⟩
theorem Wj {r:List TC} (h:rT C.tt qK r): ∃p:Pool,r=WG p∧RX p:=by
 obtain⟨q0,r0,rfl,h0,k0⟩:=(h.oY (fs:=[(0,25),(2,26),(3,27),(4,28),(5,3)]) (by kernel_rfl)).cons_inv
 obtain⟨q1,r1,rfl,h1,k1⟩:=k0.cons_inv
 obtain⟨q2,r2,rfl,h2,k2⟩:=k1.cons_inv
 obtain⟨q3,r3,rfl,h3,k3⟩:=k2.cons_inv
 obtain⟨q4,r4,rfl,h4,k4⟩:=k3.cons_inv
 have e:=k4.xV
 subst e
 obtain⟨t,rfl,ht⟩:=Wi h0
 obtain⟨a,rfl,ha,_⟩:=SR h1
 obtain⟨c,rfl,hc,_⟩:=Q8 h2
 obtain⟨v,rfl,hv,hw⟩:=SS h3
 obtain⟨n,rfl,_⟩:=U7 h4
 exact⟨⟨t,a,c,v,n⟩,rfl,⟨ht,ha,hc,hv,fun v h=>(hw v h).1,fun v h=>(hw v h).2⟩⟩
theorem XZ {v:TV} (h:WD C.tt qK v): ∃x:Pool,v=fZ x∧RX x:=by
 have ht:(C.tt qK).ti= .struct [(0,25),(2,26),(3,27),(4,28),(5,3)]:=by kernel_rfl
 cases h with
 |c hs hw=>exact absurd ht (hs _)
 |ag _ hw=>
  obtain⟨x,rfl,hx⟩:=Wj hw
  exact⟨x,rfl,hx⟩
theorem X0 {a:Int} {n:Nat} (h:bI (lC a n) 0=false) (h0:0≤a∧a≤1048576):(n:Int)≤a∧(0≤lC a n∧lC a n≤1048576)∧lC a n=a-n:=by
 rw[dh] at h
 have h: ¬lC a n<0:=of_decide_eq_false h
 unfold lC at*
 split at h<;>simp_all<;>omega
theorem U8 {t:Tree} (h:dO t≤4194304):M0 t:=by
 unfold dO pN at h
 refine⟨by omega,by omega,fun n hn=> ?_⟩
 have h1:=qw (w:=aH) hn
 have e:aH n=n.length+tot bB n:=rfl
 exact⟨by omega,fun s hs=>by
  have h2:=qw (w:=bB) hs
  have e2:bB s=s.length:=rfl
  omega⟩
theorem U9 (l:List Key):tot CJ l=5*l.length:=rW 5 l
theorem Va (n:List (List Key)):tot jv n≤5*tot bB n:=by
 induction n with
 |nil=>simp[tot]
 |cons s r ih=>
  simp only[tot]
  have:jv s=5*s.length:=U9 s
  have e:bB s=s.length:=rfl
  omega
theorem SV (l:List (List (List Key))):tot kG l≤5*tot aH l:=by
 induction l with
 |nil=>simp[tot]
 |cons n r ih=>
  simp only[tot]
  have h1:=Va n
  have h2:aH n=n.length+tot bB n:=rfl
  have h3:kG n=tot jv n:=rfl
  omega
theorem Vb (t:Tree):yy t≤5*dO t:=by
 have h1:=SV t.nodes
 have h2:tot DU t.lows=1*t.lows.length:=rW 1 t.lows
 unfold yy dO pN
 omega
theorem PN {p:Pool} (h:cY p≤4194304):PJ p:=by
 unfold cY EX at h
 exact⟨U8 (by omega),by omega,by omega,by omega⟩
theorem PO (p:Pool):GD p≤5*cY p:=by
 have h1:=Vb p.t
 have h2:tot CK p.ages=2*p.ages.length:=rW 2 p.ages
 have h3:tot uj p.cells=3*p.cells.length:=rW 3 p.cells
 have h4:tot Fl p.vols=4*p.vols.length:=rW 4 p.vols
 unfold GD cY EX
 omega
theorem PR (p:Pool) (w_p:RX p):aa C oc [fZ p] (vB true) []:=by
 refine(Ak _ _ _ _ _ _ _ ?_).run
 refine⟨_,Q4 _ _ (by first|omega|assumption) (by assumption),?_⟩
 refine pM (fun _=>⟨rfl,by first|rfl|trivial⟩) fun hz0=> ?_
 obtain⟨hz0a,hz0b,hz0c⟩:=X0 hz0 (by first|omega|assumption)
 have hB:=PN (p:=p) (by omega)
 have hS:cY p≤4194304:=by omega
 have hP:=jS hS
 have hsz:cY (xZ p)≤4194304:=Nat.le_trans (PB 24 p) (by omega)
 have hB2:=PN (p:=(xZ p)) hsz
 have hw:=PO p
 have hw2:=PO (xZ p)
 refine⟨_,_,_,_,_,_,NW _ (by assumption),?_⟩
 refine⟨_,_,_,_,_,_,Fk p (by omega),?_⟩
 refine⟨_,_,_,_,_,_,NW _ (by assumption),?_⟩
 refine⟨_,_,_,_,_,_,wh p (by omega),?_⟩
 refine⟨_,NX _ (by assumption),?_⟩
 refine an (by first|rfl|(simp;done)|(simp;omega)) ?_
 refine⟨_,_,_,_,_,_,NW _ (by assumption),?_⟩
 refine⟨_,NX _ (by assumption),?_⟩
 refine an (by first|rfl|(simp;done)|(simp;omega)) ?_
 refine⟨_,_,_,_,_,_,_,PL _ 1 (by omega) (by omega) (by assumption),?_⟩
 refine an (by first|rfl|(simp;done)|(simp;omega)) ?_
 refine⟨_,NX _ (by assumption),?_⟩
 refine an (by first|rfl|(simp;done)|(simp;omega)) ?_
 refine⟨_,_,_,_,_,_,_,PL _ 1 (by omega) (by omega) (by assumption),?_⟩
 refine⟨_,PM _ 1 (by omega) (by omega) (by assumption),?_⟩
 refine an (by first|rfl|(simp;done)|(simp;omega)) ?_
 refine an (by first|rfl|(simp;done)|(simp;omega)) ?_
 refine⟨_,_,_,_,_,_,NW _ (by assumption),?_⟩
 refine⟨_,_,_,_,_,_,wh p (by omega),?_⟩
 refine⟨_,NX _ (by assumption),?_⟩
 refine an (by first|rfl|(simp;done)|(simp;omega)) ?_
 refine⟨_,PM _ 1 (by omega) (by omega) (by assumption),?_⟩
 refine an (by first|rfl|(simp;done)|(simp;omega)) ?_
 refine an (by first|rfl|(simp;done)|(simp;omega)) ?_
 exact⟨rfl,by first|rfl|trivial⟩
theorem PS (vs:List TV) (h:O8 C.tt [qK] vs): ∃k,ic C k oc vs (vB true) []:=by
 cases h with
 |cons h0 h=>
  cases h
  obtain⟨p,rfl,wp⟩:=XZ h0
  exact PR p wp
end Go.T.R
