/- What the functions answer. -/
import Derived.Test.YtiinnfilgnhjfaaGreatTP0
set_option linter.unusedVariables false
set_option linter.unusedSimpArgs false
set_option maxRecDepth 100000
set_option maxHeartbeats 4000000
namespace Go.T.R
open Go Go.T
theorem tO (p:Pool) (i:Int) (hS:eF p≤1048576):aa C cU [ki p,vI i] (WT (iK p i)) []:=by
 have hS2:eF p≤4194304:=by omega
 have hP:=lE hS2
 have htl:=kY p.t
 have hcp:=C8 p hS2
 have hok:=xI p hS2
 have hin:=r6 i 0 23
 have hfr:=xJ p.cells (by omega)
 refine(Gs _ _ _ _ _ _ _ _ ?_).run
 cases hg:g8 p with
 |false=>
  rw[hg] at hok
  rw[Dc hg]
  repeat' first
   |refine⟨_,_,_,_,_,_,hcp,?_⟩
   |refine⟨_,hok,?_⟩
   |refine⟨_,hin,?_⟩
   |refine⟨_,hfr,?_⟩
   |exact rfl
   |exact⟨rfl,by first|rfl|trivial⟩
   |refine ai (by first|rfl|(rw[bw];rfl)) ?_
   |refine ay (by first|rfl|(rw[bw];rfl)) ?_
 |true=>
 rw[hg] at hok
 have h24:=Rz hg
 cases hc:fu p.cells i with
 |none=>
  have h1:iJ i 0 23=false:=by
   unfold iJ;refine decide_eq_false fun h=> ?_
   obtain⟨a,ha⟩:=qa (l:=p.cells) h.1 (by omega)
   rw[hc] at ha;cases ha
  rw[h1] at hin
  rw[Db hc]
  repeat' first
   |refine⟨_,_,_,_,_,_,hcp,?_⟩
   |refine⟨_,hok,?_⟩
   |refine⟨_,hin,?_⟩
   |refine⟨_,hfr,?_⟩
   |exact rfl
   |exact⟨rfl,by first|rfl|trivial⟩
   |refine ai (by first|rfl|(rw[bw];rfl)) ?_
   |refine ay (by first|rfl|(rw[bw];rfl)) ?_
 |some c=>
  have hi:0≤i∧i<p.cells.length:=Classical.byContradiction fun hn=>by rw[nj hn] at hc;cases hc
  have h1:iJ i 0 23=true:=by unfold iJ;exact decide_eq_true (by omega)
  rw[h1] at hin
  have hrc:rowAt (p.cells.map bX) i=some [iI c.g,iB c.u,iI c.n]:=by rw[bN,hc];rfl
  cases hu:c.u with
  |false=>
   rw[hu] at hrc
   rw[oV hc fun h=>by rw[hu] at h;cases h.1]
   repeat' first
    |refine⟨_,_,_,_,_,_,hcp,?_⟩
    |refine⟨_,hok,?_⟩
    |refine⟨_,hin,?_⟩
    |refine⟨_,hfr,?_⟩
    |refine⟨_,_,_,hrc,?_⟩
    |exact rfl
    |exact⟨rfl,by first|rfl|trivial⟩
    |refine ai (by first|rfl|(rw[bw];rfl)) ?_
    |refine ay (by first|rfl|(rw[bw];rfl)) ?_
  |true=>
  rw[hu] at hrc
  by_cases hf:0≤cY p.cells
  ·have cf:bH (cY p.cells) 0=false:=by rw[dS];exact decide_eq_false (by omega)
   by_cases hle:cY p.cells≤i
   ·have cl:bH i (cY p.cells)=false:=by rw[dS];exact decide_eq_false (by omega)
    have tk:=C5 p.cells c.n (by omega)
    have htk:=pg ⟨pz hg,Jf hg hc,hf⟩
    obtain⟨cs,hcs⟩: ∃cs,cs=p.cells.modify (cY p.cells).toNat (fun d=>⟨d.g,true,c.n⟩):=⟨_,rfl⟩
    rw[←hcs] at htk
    have hcl:cs.length=p.cells.length:=by rw[hcs,List.length_modify]
    obtain⟨d,hd,hgen⟩:=C9 htk
    have hrd:rowAt (cs.map bX) (cY p.cells)=some [iI d.g,iB d.u,iI d.n]:=by rw[bN,hd];rfl
    clear hcs
    rw[htk] at tk
    obtain⟨Z,hZ⟩: ∃Z,Z=iK p i:=⟨_,rfl⟩
    rw[←hZ]
    rw[Da hg hc ⟨hu,hf,hle⟩] at hZ
    have hmk:mz p i c.n=⟨(fO p i).b,(fO p i).a,(fO p i).k,cY p.cells,d.g⟩:=by unfold mz;rw[htk];simp only[];rw[hgen]
    have hX:xG p i c.n=(⟨(bC p.t (mz p i c.n)).1,p.ages,ji cs i,p.vols,p.next⟩,(bC p.t (mz p i c.n)).2):=by unfold xG;rw[htk]
    have tp:=Ey p.t (mz p i c.n) (by omega)
    have fc:=C4 cs i (by omega)
    have hsz:=IZ p.t (mz p i c.n)
    have hXs:eF (xG p i c.n).1≤4194304:=by
     have h1:=CU cs i
     rw[hX];unfold eF at hS ⊢;simp only[];omega
    have pk2:=xI (xG p i c.n).1 hXs
    rw[hmk] at tp hX
    obtain⟨Tn,bn,hT⟩: ∃T b,bC p.t ⟨(fO p i).b,(fO p i).a,(fO p i).k,cY p.cells,d.g⟩=(T,b):=⟨_,_,rfl⟩
    rw[hT] at tp hX
    obtain⟨m,hm,hmo,hmu⟩:=PM (PJ hg) hc hu
    obtain⟨hml,_⟩:=List.getElem?_eq_some_iff.1 hm
    have fin:bn=true→ ∀T:Tree,T=Tn→aG C cU iZ (TX.ex 0) (pI i (cY p.cells) (Int.ofNat (List.length ((aW p.t).map bK))) ((aW p.t).length:Int) (bH ((aW p.t).length:Int) (Int.ofNat (List.length ((aW p.t).map bK)))) (p.t.lows.map bM) (p.t.nodes.map aV) (p.ages.map dK) (p.cells.map bX) (p.vols.map ek) p.next p.next (cs.map bX) ((aW p.t).map bK) (T.lows.map bM) (T.nodes.map aV) (p.ages.map dK) (p.cells.map bX) (p.vols.map ek)) fun r fs=>r=WT Z∧fs=[]:=by
     intro hb T hTe
     subst hTe hb
     refine Dk _ _ _ _ _ _ _ _ _ _ _ _ _ _ _ _ _ _ _ _ ⟨_,fc,?_⟩
     cases hgx:g8 (xG p i c.n).1 with
     |false=>
      rw[LZ hgx] at hZ
      rw[hgx,hX] at pk2
      exact⟨_,pk2,ai rfl ⟨_,_,_,_,_,_,hcp,by rw[hZ],rfl⟩⟩
     |true=>
      rw[L0 (by rw[hX]) hgx,hX] at hZ
      rw[hgx,hX] at pk2
      exact⟨_,pk2,ay rfl ⟨by rw[hZ],rfl⟩⟩
    have key: ∀T:Tree,(0≤m→T=p.t)→(m<0→T=Tn∧bn=true)→ah C cU iZ 4 0 (ga i (cY p.cells) ((aW p.t).map bK) ((0:Nat):Int) (p.t.lows.map bM) (p.t.nodes.map aV) (p.ages.map dK) (p.cells.map bX) (p.vols.map ek) p.next p.next (cs.map bX) (T.lows.map bM) (T.nodes.map aV) (p.ages.map dK) (p.cells.map bX) (p.vols.map ek)) (fun x st=>aG C cU iZ x st fun r fs=>r=WT Z∧fs=[]):=by
     refine bE (aW p.t) (fun j=> ∀T:Tree,(j≤m→T=p.t)→(m<j→T=Tn∧bn=true)→ah C cU iZ 4 0 (ga i (cY p.cells) ((aW p.t).map bK) (j:Int) (p.t.lows.map bM) (p.t.nodes.map aV) (p.ages.map dK) (p.cells.map bX) (p.vols.map ek) p.next p.next (cs.map bX) (T.lows.map bM) (T.nodes.map aV) (p.ages.map dK) (p.cells.map bX) (p.vols.map ek)) (fun x st=>aG C cU iZ x st fun r fs=>r=WT Z∧fs=[])) ?_ ?_
     ·intro T h1 h2
      have h2:=h2 hml
      exact uB _ _ _ _ _ _ _ _ _ _ _ _ _ _ _ _ _ _ (ay (by simp) (fin h2.2 T h2.1))
     ·intro j a hj ha hd2 ht hn T h1 h2
      have hr:rowAt ((aW p.t).map bK) (j:Int)=some [iI a.b,iI a.a,iI a.k,iI a.c,iI a.g]:=by rw[bN,aK,ha];rfl
      have hadd:az (j:Int) 1=(j:Int)+1:=aJ (by omega)
      refine uB _ _ _ _ _ _ _ _ _ _ _ _ _ _ _ _ _ _ (ai (by simp<;>omega) ⟨_,_,_,_,_,hr,_,_,_,_,_,hr,?_⟩)
      rw[hadd]
      by_cases hjm:j=m
      ·have hak:a=fO p i:=by rw[hjm,hm] at ha;exact(Option.some.inj ha).symm
       subst hak
       unfold j8 at hmo
       simp only[Bool.and_eq_true,decide_eq_true_eq] at hmo
       refine ai (by rw[bw];exact decide_eq_true hmo.1) (ai (by rw[bw];exact decide_eq_true hmo.2) ⟨_,_,_,hrd,_,_,_,hrd,_,_,_,tp,?_⟩)
       cases hb:bn with
       |false=>
        rw[OC (by rw[hX,hb])] at hZ
        exact ai rfl ⟨_,_,_,_,_,_,hcp,Dj _ _ _ _ _ _ _ _ _ _ _ _ _ _ _ _ _ _ _ _ _ _ _ _ _ _ _ _ ⟨by rw[hZ],rfl⟩⟩
       |true=>exact ay rfl (hn Tn (fun h=>by omega) (fun _=>⟨rfl,hb⟩))
      ·have hno:j8 i a=false:=by
        cases ho:j8 i a with
        |false=>rfl
        |true=>exact absurd (hmu j a ha ho) hjm
       have hgo:=hn T (fun h=>h1 (by omega)) (fun h=>h2 (by omega))
       unfold j8 at hno
       by_cases ha1:a.k=1
       ·have ha2: ¬a.c=i:=fun e=>by simp[ha1,e] at hno
        exact ai (by rw[bw];exact decide_eq_true ha1) (ay (by rw[bw];exact decide_eq_false ha2) hgo)
       ·exact ay (by rw[bw];exact decide_eq_false ha1) hgo
    have k0:=key p.t (fun _=>rfl) (fun h=>by omega)
    have hkk:=tJ p.t (by omega)
    repeat' first
     |exact k0
     |refine⟨_,_,_,_,_,_,hcp,?_⟩
     |refine⟨_,hok,?_⟩
     |refine⟨_,hin,?_⟩
     |refine⟨_,hfr,?_⟩
     |refine⟨_,_,_,hrc,?_⟩
     |refine ay cf ?_
     |refine ay cl ?_
     |refine⟨_,_,_,tk,?_⟩
     |refine⟨_,hkk,?_⟩
     |exact rfl
     |exact⟨rfl,by first|rfl|trivial⟩
     |refine ai (by first|rfl|(rw[bw];rfl)) ?_
     |refine ay (by first|rfl|(rw[bw];rfl)) ?_
   ·have cl:bH i (cY p.cells)=true:=by rw[dS];exact decide_eq_true (by omega)
    rw[oV hc fun h=>hle h.2.2]
    repeat' first
     |refine⟨_,_,_,_,_,_,hcp,?_⟩
     |refine⟨_,hok,?_⟩
     |refine⟨_,hin,?_⟩
     |refine⟨_,hfr,?_⟩
     |refine⟨_,_,_,hrc,?_⟩
     |refine ay cf ?_
     |refine ai cl ?_
     |exact rfl
     |exact⟨rfl,by first|rfl|trivial⟩
     |refine ai (by first|rfl|(rw[bw];rfl)) ?_
     |refine ay (by first|rfl|(rw[bw];rfl)) ?_
  ·have cf:bH (cY p.cells) 0=true:=by rw[dS];exact decide_eq_true (by omega)
   rw[oV hc fun h=>hf h.2.1]
   repeat' first
    |refine⟨_,_,_,_,_,_,hcp,?_⟩
    |refine⟨_,hok,?_⟩
    |refine⟨_,hin,?_⟩
    |refine⟨_,hfr,?_⟩
    |refine⟨_,_,_,hrc,?_⟩
    |refine ai cf ?_
    |exact rfl
    |exact⟨rfl,by first|rfl|trivial⟩
    |refine ai (by first|rfl|(rw[bw];rfl)) ?_
    |refine ay (by first|rfl|(rw[bw];rfl)) ?_
attribute [local semireducible] JU in
theorem Xg (l:List S6):au (l.map MH) 0 (JU (Int.ofNat (List.length (l.map MH))) 200)=(l.take 200).map MH∧cF 0 (JU (Int.ofNat (List.length (l.map MH))) 200) (Int.ofNat (List.length (l.map MH)))=true:=by
 rw[List.length_map]
 have hm:JU (Int.ofNat l.length) 200=((min l.length 200:Nat):Int):=by
  unfold JU
  rw[Int.ofNat_eq_natCast]
  split<;>omega
 rw[hm,cH,zZ]
 refine⟨?_,decide_eq_true (by simp only[Int.ofNat_eq_natCast];omega)⟩
 rw[Int.toNat_natCast,show(0:Int).toNat=0 from rfl,List.drop_zero]
 by_cases h:l.length≤200
 ·rw[List.take_of_length_le (by omega),List.take_of_length_le h]
 ·rw[show min l.length 200=200 from by omega]
theorem Br:dj 3 0=false:=by simp
theorem Tw:dj 10 0=false:=by simp
def B2:Nat→Int→ByteArray→ByteArray
 |0,_,out=>out
 |n+1,k,out=>if k≤0 then out else B2 n (bq .i64 k 10) (JV (zE [qL .u8 (48+uT k 10)]) out)
def QN (k:Int):ByteArray:=if k≤0 then⟨#[109,48]⟩ else JV ⟨#[109]⟩ (B2 19 k WL)
attribute [local semireducible] oY zE JV in
theorem RA (n:Int):oY [[TC.sc (.int .u8 n)]]=some [n]:=rfl
attribute [local semireducible] zE in
theorem Tx (n:Int):(zE [n]).size=1:=rfl
attribute [local semireducible] JV in
theorem RB (a b:ByteArray):(JV a b).size=a.size+b.size:=by show(a++b).size=_;simp
attribute [local semireducible] bq in
theorem QO {a b:Int} (h0:0≤a) (h1:a≤9223372036854775807):bq .i64 a 10=a/10:=by
 show IntKind.i64.wrap (a.tdiv 10)=_
 rw[Int.tdiv_eq_ediv_of_nonneg h0]
 exact IntWalk.i64_in _ (by omega)
theorem PT (n:Nat) (k:Int) (out:ByteArray) (h:k≤0):B2 n k out=out:=by cases n<;>simp[B2,h]
theorem MV (k:Int) (hk:k≤2305843009213693952):aa C eB [vI k] (vS (QN k)) []:=by
 refine(Gc _ _ ?_).run
 unfold QN
 simp only[g7,bL]
 by_cases h:k≤0
 ·rw[if_pos h,if_pos h];exact⟨rfl,by first|rfl|trivial⟩
 ·rw[if_neg h,if_neg h]
  have key: ∀(F:ByteArray) (n:Nat) (k':Int) (out:ByteArray),k'<10 ^ n→k'≤2305843009213693952→out.size+n≤100→B2 n k' out=F→ah C eB B8 4 0 (mC k' out) (fun u st=>aG C eB B8 u st fun r fs=>r=vS (JV ⟨#[109]⟩ F)∧fs=[]):=by
   intro F n
   induction n with
   |zero=>
    intro k' out h1 h2 h3 h4
    refine pK _ _ _ (ay (by simp at h1 ⊢;omega) (ux _ _ _ _ ?_))
    simp only[B2] at h4
    subst h4
    refine ai (cX (by simp only[natAdd,D5];omega)) ⟨rfl,by first|rfl|trivial⟩
   |succ n ih=>
    intro k' out h1 h2 h3 h4
    by_cases h0:k'≤0
    ·rw[PT _ _ _ h0] at h4
     subst h4
     exact pK _ _ _ (ay (by simp;omega) (ux _ _ _ _ (ai (cX (by simp only[natAdd,D5];omega)) ⟨rfl,by first|rfl|trivial⟩)))
    ·simp only[B2,if_neg h0] at h4
     have hr:0≤uT k' 10∧uT k' 10≤9:=by rw[Ux,Int.tmod_eq_emod_of_nonneg (by omega)];omega
     refine pK _ _ _ (ai (by simp;omega) (ay Tw ⟨_,RA _,ai (cX (by simp only[natAdd,D5,Tx];omega)) (ay Tw ?_)⟩))
     rw[aJ (by omega)]
     refine ih _ _ ?_ ?_ ?_ h4
     ·rw[QO (b:=0) (by omega) (by omega)]
      have:(10:Int) ^ (n+1)=10 ^ n*10:=Int.pow_succ ..
      omega
     ·rw[QO (b:=0) (by omega) (by omega)];omega
     ·rw[RB,Tx];omega
  exact key _ 19 k WL (by rw[show(10:Int) ^ 19=10000000000000000000 from by decide];omega) hk (by decide) rfl
theorem Jg (k:Int) (hk:k≤2305843009213693952) (q:ByteArray):aa C eB [vI k] (vS q) []↔q=QN k:=Xw (MV k hk)
def mkInt (_:Int) (k:Int):Int:=k
def De (_:Int):Nat:=1
theorem Ty (l:List (Int)) (k:Int) (h0:0≤k) (hk:k+tot De l≤2305843009213693952) (hl:l.length≤1099511627776):aa C gV [pQ l,vI k] (vI (k+tot De l)) [pQ (fq mkInt De l k)]:=by
 refine(Hj _ _ _ ?_).run
 refine rF (e:=bM) mkInt De (fun k i rows=>ah C gV an 4 0 (mN k i rows) _) 2305843009213693952 ?_ l [] k h0 hk (by simpa using hl) ?_
 ·intro d a r k h0 hk hd hn
  have hw:De a=1:=rfl
  rw[hw] at hk hn
  refine uR _ _ _ _ (ai (by simp;omega) ?_)
  simp (disch:=omega) only[aJ]
  simp only[u7,VU,lD,gj,jH,Option.some.injEq,exists_eq_left',exists_eq_left,mod_mod,Br,lC,bO]
  rw[xm]
  rw[show(k+1:Int)=k+((1:Nat):Int) by omega]
  exact hn
 ·refine uR _ _ _ _ (ay (by simp[kD]) (DD _ _ _ _ _ ⟨rfl,by first|rfl|trivial⟩))
theorem Tz (l:List (Int)) (k:Int) (h0:0≤k) (hk:k+tot De l≤2305843009213693952) (hl:l.length≤1099511627776):aa C gW [pQ (fq mkInt De l k),vI k] (vI (k+tot De l)) []:=by
 refine(GB _ _ _ ?_).run
 refine rG (e:=bM) mkInt De (fun k i rows=>ah C gW an 4 0 (mI rows k i) _) 2305843009213693952 ?_ l [] k h0 hk (by simpa using hl) ?_
 ·intro d a r k h0 hk hd hn
  have hw:De a=1:=rfl
  rw[hw] at hk hn
  refine uF _ _ _ _ (ai (by simp;omega) ?_)
  simp (disch:=omega) only[aJ]
  simp only[u7,lD,gj,jH,Option.some.injEq,exists_eq_left',exists_eq_left,mod_mod,Br,lC,bO,mkInt,bw,IM,IL,bL,if_true,decide_true,Bool.not_true]
  rw[show(k+1:Int)=k+((1:Nat):Int) by omega]
  exact hn
 ·refine uF _ _ _ _ (ay (by simp[kD]) (Dp _ _ _ _ _ ⟨rfl,by first|rfl|trivial⟩))
def mkKey (_:Key) (k:Int):Key:=⟨k,k+1,k+1+1,k+1+1+1,k+1+1+1+1⟩
def B3 (_:Key):Nat:=5
theorem TA (l:List (Key)) (k:Int) (h0:0≤k) (hk:k+tot B3 l≤2305843009213693952) (hl:l.length≤1099511627776):aa C gX [cO l,vI k] (vI (k+tot B3 l)) [cO (fq mkKey B3 l k)]:=by
 refine(HD _ _ _ ?_).run
 refine rF (e:=bK) mkKey B3 (fun k i rows=>ah C gX an 4 0 (mO k i rows) _) 2305843009213693952 ?_ l [] k h0 hk (by simpa using hl) ?_
 ·intro d a r k h0 hk hd hn
  have hw:B3 a=5:=rfl
  rw[hw] at hk hn
  refine uS _ _ _ _ (ai (by simp;omega) ?_)
  simp (disch:=omega) only[aJ]
  simp only[mo,S9,Ta,Tb,Tc,Td,VP,lD,gj,jH,Option.some.injEq,exists_eq_left',exists_eq_left,mod_mod,Br,lC,bO]
  rw[xm]
  rw[show(k+1+1+1+1+1:Int)=k+((5:Nat):Int) by omega]
  exact hn
 ·refine uS _ _ _ _ (ay (by simp[kD]) (DE _ _ _ _ _ ⟨rfl,by first|rfl|trivial⟩))
theorem TB (l:List (Key)) (k:Int) (h0:0≤k) (hk:k+tot B3 l≤2305843009213693952) (hl:l.length≤1099511627776):aa C gY [cO (fq mkKey B3 l k),vI k] (vI (k+tot B3 l)) []:=by
 refine(Gq _ _ _ ?_).run
 refine rG (e:=bK) mkKey B3 (fun k i rows=>ah C gY an 4 0 (mE rows k i) _) 2305843009213693952 ?_ l [] k h0 hk (by simpa using hl) ?_
 ·intro d a r k h0 hk hd hn
  have hw:B3 a=5:=rfl
  rw[hw] at hk hn
  refine uA _ _ _ _ (ai (by simp;omega) ?_)
  simp (disch:=omega) only[aJ]
  simp only[mo,lD,gj,jH,Option.some.injEq,exists_eq_left',exists_eq_left,mod_mod,Br,lC,bO,mkKey,bw,IM,IL,bL,if_true,decide_true,Bool.not_true]
  rw[show(k+1+1+1+1+1:Int)=k+((5:Nat):Int) by omega]
  exact hn
 ·refine uA _ _ _ _ (ay (by simp[kD]) (Di _ _ _ _ _ ⟨rfl,by first|rfl|trivial⟩))
def L3 (_:Age) (k:Int):Age:=⟨k,k+1⟩
def B4 (_:Age):Nat:=2
theorem TD (l:List (Age)) (k:Int) (h0:0≤k) (hk:k+tot B4 l≤2305843009213693952) (hl:l.length≤1099511627776):aa C gQ [jG l,vI k] (vI (k+tot B4 l)) [jG (fq L3 B4 l k)]:=by
 refine(G7 _ _ _ ?_).run
 refine rF (e:=dK) L3 B4 (fun k i rows=>ah C gQ an 4 0 (mL k i rows) _) 2305843009213693952 ?_ l [] k h0 hk (by simpa using hl) ?_
 ·intro d a r k h0 hk hd hn
  have hw:B4 a=2:=rfl
  rw[hw] at hk hn
  refine uN _ _ _ _ (ai (by simp;omega) ?_)
  simp (disch:=omega) only[aJ]
  simp only[u9,Rj,Rk,VQ,lD,gj,jH,Option.some.injEq,exists_eq_left',exists_eq_left,mod_mod,Br,lC,bO]
  rw[xm]
  rw[show(k+1+1:Int)=k+((2:Nat):Int) by omega]
  exact hn
 ·refine uN _ _ _ _ (ay (by simp[kD]) (Dz _ _ _ _ _ ⟨rfl,by first|rfl|trivial⟩))
theorem TF (l:List (Age)) (k:Int) (h0:0≤k) (hk:k+tot B4 l≤2305843009213693952) (hl:l.length≤1099511627776):aa C gT [jG (fq L3 B4 l k),vI k] (vI (k+tot B4 l)) []:=by
 refine(G8 _ _ _ ?_).run
 refine rG (e:=dK) L3 B4 (fun k i rows=>ah C gT an 4 0 (mM rows k i) _) 2305843009213693952 ?_ l [] k h0 hk (by simpa using hl) ?_
 ·intro d a r k h0 hk hd hn
  have hw:B4 a=2:=rfl
  rw[hw] at hk hn
  refine uO _ _ _ _ (ai (by simp;omega) ?_)
  simp (disch:=omega) only[aJ]
  simp only[u9,lD,gj,jH,Option.some.injEq,exists_eq_left',exists_eq_left,mod_mod,Br,lC,bO,L3,bw,IM,IL,bL,if_true,decide_true,Bool.not_true]
  rw[show(k+1+1:Int)=k+((2:Nat):Int) by omega]
  exact hn
 ·refine uO _ _ _ _ (ay (by simp[kD]) (DA _ _ _ _ _ ⟨rfl,by first|rfl|trivial⟩))
def B5 (_:Cell) (k:Int):Cell:=⟨k,dj (uT (k+1) 3) 0,k+1+1⟩
def tP (_:Cell):Nat:=3
theorem RC (l:List (Cell)) (k:Int) (h0:0≤k) (hk:k+tot tP l≤2305843009213693952) (hl:l.length≤1099511627776):aa C fW [fy l,vI k] (vI (k+tot tP l)) [fy (fq B5 tP l k)]:=by
 refine(EF _ _ _ ?_).run
 refine rF (e:=bX) B5 tP (fun k i rows=>ah C fW an 4 0 (k9 k i rows) _) 2305843009213693952 ?_ l [] k h0 hk (by simpa using hl) ?_
 ·intro d a r k h0 hk hd hn
  have hw:tP a=3:=rfl
  rw[hw] at hk hn
  refine sA _ _ _ _ (ai (by simp;omega) ?_)
  simp (disch:=omega) only[aJ]
  simp only[kk,Rl,D9,Ea,MI,lD,gj,jH,Option.some.injEq,exists_eq_left',exists_eq_left,mod_mod,Br,lC,bO]
  rw[xm]
  rw[show(k+1+1+1:Int)=k+((3:Nat):Int) by omega]
  exact hn
 ·refine sA _ _ _ _ (ay (by simp[kD]) (Cb _ _ _ _ _ ⟨rfl,by first|rfl|trivial⟩))
theorem RD (l:List (Cell)) (k:Int) (h0:0≤k) (hk:k+tot tP l≤2305843009213693952) (hl:l.length≤1099511627776):aa C fX [fy (fq B5 tP l k),vI k] (vI (k+tot tP l)) []:=by
 refine(EG _ _ _ ?_).run
 refine rG (e:=bX) B5 tP (fun k i rows=>ah C fX an 4 0 (ld rows k i) _) 2305843009213693952 ?_ l [] k h0 hk (by simpa using hl) ?_
 ·intro d a r k h0 hk hd hn
  have hw:tP a=3:=rfl
  rw[hw] at hk hn
  refine sC _ _ _ _ (ai (by simp;omega) ?_)
  simp (disch:=omega) only[aJ]
  simp only[kk,lD,gj,jH,Option.some.injEq,exists_eq_left',exists_eq_left,mod_mod,Br,lC,bO,B5,bw,IM,IL,bL,if_true,decide_true,Bool.not_true]
  rw[show(k+1+1+1:Int)=k+((3:Nat):Int) by omega]
  simpa [B5] using hn
 ·refine sC _ _ _ _ (ay (by simp[kD]) (Cc _ _ _ _ _ ⟨rfl,by first|rfl|trivial⟩))
def Jh (_:Vol) (k:Int):Vol:=⟨QN (k),k+1,k+1+1,dj (uT (k+1+1+1) 3) 0⟩
def EA (_:Vol):Nat:=4
theorem TG (l:List (Vol)) (k:Int) (h0:0≤k) (hk:k+tot EA l≤2305843009213693952) (hl:l.length≤1099511627776):aa C gR [z6 l,vI k] (vI (k+tot EA l)) [z6 (fq Jh EA l k)]:=by
 refine(Gu _ _ _ ?_).run
 refine rF (e:=ek) Jh EA (fun k i rows=>ah C gR an 4 0 (mF k i rows) _) 2305843009213693952 ?_ l [] k h0 hk (by simpa using hl) ?_
 ·intro d a r k h0 hk hd hn
  have hw:EA a=4:=rfl
  rw[hw] at hk hn
  refine uC _ _ _ _ (ai (by simp;omega) ?_)
  simp (disch:=omega) only[aJ]
  simp only[D7,Oa,Pz,Ob,Rm,VR,Jg (k) (by omega),lD,gj,jH,Option.some.injEq,exists_eq_left',exists_eq_left,mod_mod,Br,lC,bO]
  rw[xm]
  rw[show(k+1+1+1+1:Int)=k+((4:Nat):Int) by omega]
  exact hn
 ·refine uC _ _ _ _ (ay (by simp[kD]) (Dl _ _ _ _ _ ⟨rfl,by first|rfl|trivial⟩))
theorem TH (l:List (Vol)) (k:Int) (h0:0≤k) (hk:k+tot EA l≤2305843009213693952) (hl:l.length≤1099511627776):aa C gU [z6 (fq Jh EA l k),vI k] (vI (k+tot EA l)) []:=by
 refine(Gv _ _ _ ?_).run
 refine rG (e:=ek) Jh EA (fun k i rows=>ah C gU an 4 0 (mG rows k i) _) 2305843009213693952 ?_ l [] k h0 hk (by simpa using hl) ?_
 ·intro d a r k h0 hk hd hn
  have hw:EA a=4:=rfl
  rw[hw] at hk hn
  refine uD _ _ _ _ (ai (by simp;omega) ?_)
  simp (disch:=omega) only[aJ]
  simp only[D7,Jg (k) (by omega),lD,gj,jH,Option.some.injEq,exists_eq_left',exists_eq_left,mod_mod,Br,lC,bO,Jh,bw,IM,IL,bL,if_true,decide_true,Bool.not_true]
  rw[show(k+1+1+1+1:Int)=k+((4:Nat):Int) by omega]
  simpa [Jh] using hn
 ·refine uD _ _ _ _ (ay (by simp[kD]) (Dm _ _ _ _ _ ⟨rfl,by first|rfl|trivial⟩))
def xA (s:List Key) (k:Int):List Key:=fq mkKey B3 s k
def jk (s:List Key):Nat:=tot B3 s
theorem RE: ∀(l:List (List Key)) (k:Int) (h0:0≤k) (hk:k+tot jk l≤2305843009213693952) (hl:l.length≤1099511627776) (hs: ∀s∈l,s.length≤1099511627776),aa C e7 [CP l,vI k] (vI (k+tot jk l)) [CP (fq xA jk l k)]:=by
 intro l k h0 hk hl hs
 refine(E9 _ _ _ ?_).run
 have key: ∀(r d:List (List Key)) (k:Int),0≤k→k+tot jk r≤2305843009213693952→d.length+r.length≤1099511627776→(∀s∈r,s.length≤1099511627776)→ ∀(R:TV) (F:List TV),vI (k+tot jk r)=R→[CP (d++fq xA jk r k)]=F→ah C e7 an 4 0 (lu k (d.length:Int) ((d++r).map bZ)) (fun u st=>aG C e7 an u st fun r fs=>r=R∧fs=F):=by
  intro r
  induction r with
  |nil=>
   intro d k h0 hk hl hs R F hR hF
   subst hR hF
   refine sG _ _ _ _ (ay (by simp) (Ch _ _ _ _ _ ⟨by simp[tot],by simp[fq]⟩))
  |cons a r ih=>
   intro d k h0 hk hl hs R F hR hF
   simp only[tot,List.length_cons] at hk hl
   have hca:=hs a (.head _)
   have hu:tot B3 a=jk a:=rfl
   refine sG _ _ _ _ (ai (by simp;omega) ?_)
   simp only[rX,jH,Option.some.injEq,exists_eq_left']
   refine⟨_,_,TA a k h0 (by omega) hca,?_⟩
   simp only[VV]
   rw[xm,aJ (by omega)]
   have:=ih (d++[xA a k]) (k+jk a) (by omega) (by omega) (by simp;omega) (fun s h=>hs s (.tail _ h)) R F (by rw[←hR];simp only[tot];rw[show k+(jk a:Int)+(tot jk r:Int)=k+((jk a+tot jk r:Nat):Int) by omega]) (by rw[←hF];simp[fq])
   rw[←hu] at this
   simpa [xA] using this
 exact key l [] k h0 hk (by simpa using hl) hs _ _ rfl (by simp)
theorem RF: ∀(l:List (List Key)) (k:Int) (h0:0≤k) (hk:k+tot jk l≤2305843009213693952) (hl:l.length≤1099511627776) (hs: ∀s∈l,s.length≤1099511627776),aa C e8 [CP (fq xA jk l k),vI k] (vI (k+tot jk l)) []:=by
 intro l k h0 hk hl hs
 refine(Fk _ _ _ ?_).run
 have key: ∀(r d:List (List Key)) (k:Int),0≤k→k+tot jk r≤2305843009213693952→d.length+r.length≤1099511627776→(∀s∈r,s.length≤1099511627776)→ ∀(R:TV),vI (k+tot jk r)=R→ah C e8 an 4 0 (lz ((d++fq xA jk r k).map bZ) k (d.length:Int)) (fun u st=>aG C e8 an u st fun r fs=>r=R∧fs=[]):=by
  intro r
  induction r with
  |nil=>
   intro d k h0 hk hl hs R hR
   subst hR
   refine sL _ _ _ _ (ay (by simp[fq]) (Cl _ _ _ _ _ ⟨by simp[tot],rfl⟩))
  |cons a r ih=>
   intro d k h0 hk hl hs R hR
   simp only[tot,List.length_cons] at hk hl
   have hca:=hs a (.head _)
   have hu:tot B3 a=jk a:=rfl
   simp only[fq]
   refine sL _ _ _ _ (ai (by simp;omega) ?_)
   simp only[rX,jH,Option.some.injEq,exists_eq_left']
   refine⟨_,TB a k h0 (by omega) hca,ay (by simp;omega) ?_⟩
   rw[aJ (by omega)]
   have:=ih (d++[xA a k]) (k+jk a) (by omega) (by omega) (by simp;omega) (fun s h=>hs s (.tail _ h)) R (by rw[←hR];simp only[tot];rw[show k+(jk a:Int)+(tot jk r:Int)=k+((jk a+tot jk r:Nat):Int) by omega])
   rw[hu]
   simpa [xA] using this
 exact key l [] k h0 hk (by simpa using hl) hs _ rfl
def mkNode (s:List (List Key)) (k:Int):List (List Key):=fq xA jk s k
def kj (s:List (List Key)):Nat:=tot jk s
theorem RG: ∀(l:List (List (List Key))) (k:Int) (h0:0≤k) (hk:k+tot kj l≤2305843009213693952) (hl:l.length≤1099511627776) (hs: ∀s∈l,CY s),aa C eY [rW l,vI k] (vI (k+tot kj l)) [rW (fq mkNode kj l k)]:=by
 intro l k h0 hk hl hs
 refine(EH _ _ _ ?_).run
 have key: ∀(r d:List (List (List Key))) (k:Int),0≤k→k+tot kj r≤2305843009213693952→d.length+r.length≤1099511627776→(∀s∈r,CY s)→ ∀(R:TV) (F:List TV),vI (k+tot kj r)=R→[rW (d++fq mkNode kj r k)]=F→ah C eY an 4 0 (lg k (d.length:Int) ((d++r).map aV)) (fun u st=>aG C eY an u st fun r fs=>r=R∧fs=F):=by
  intro r
  induction r with
  |nil=>
   intro d k h0 hk hl hs R F hR hF
   subst hR hF
   refine sD _ _ _ _ (ay (by simp) (Cd _ _ _ _ _ ⟨by simp[tot],by simp[fq]⟩))
  |cons a r ih=>
   intro d k h0 hk hl hs R F hR hF
   simp only[tot,List.length_cons] at hk hl
   have hca:=hs a (.head _)
   have hu:tot jk a=kj a:=rfl
   refine sD _ _ _ _ (ai (by simp;omega) ?_)
   simp only[q9,jH,Option.some.injEq,exists_eq_left']
   refine⟨_,_,RE a k h0 (by omega) hca.1 hca.2,?_⟩
   simp only[UE]
   rw[xm,aJ (by omega)]
   have:=ih (d++[mkNode a k]) (k+kj a) (by omega) (by omega) (by simp;omega) (fun s h=>hs s (.tail _ h)) R F (by rw[←hR];simp only[tot];rw[show k+(kj a:Int)+(tot kj r:Int)=k+((kj a+tot kj r:Nat):Int) by omega]) (by rw[←hF];simp[fq])
   rw[←hu] at this
   simpa [mkNode] using this
 exact key l [] k h0 hk (by simpa using hl) hs _ _ rfl (by simp)
theorem RH: ∀(l:List (List (List Key))) (k:Int) (h0:0≤k) (hk:k+tot kj l≤2305843009213693952) (hl:l.length≤1099511627776) (hs: ∀s∈l,CY s),aa C eZ [rW (fq mkNode kj l k),vI k] (vI (k+tot kj l)) []:=by
 intro l k h0 hk hl hs
 refine(E6 _ _ _ ?_).run
 have key: ∀(r d:List (List (List Key))) (k:Int),0≤k→k+tot kj r≤2305843009213693952→d.length+r.length≤1099511627776→(∀s∈r,CY s)→ ∀(R:TV),vI (k+tot kj r)=R→ah C eZ an 4 0 (lq ((d++fq mkNode kj r k).map aV) k (d.length:Int)) (fun u st=>aG C eZ an u st fun r fs=>r=R∧fs=[]):=by
  intro r
  induction r with
  |nil=>
   intro d k h0 hk hl hs R hR
   subst hR
   refine sF _ _ _ _ (ay (by simp[fq]) (Cg _ _ _ _ _ ⟨by simp[tot],rfl⟩))
  |cons a r ih=>
   intro d k h0 hk hl hs R hR
   simp only[tot,List.length_cons] at hk hl
   have hca:=hs a (.head _)
   have hu:tot jk a=kj a:=rfl
   simp only[fq]
   refine sF _ _ _ _ (ai (by simp;omega) ?_)
   simp only[q9,jH,Option.some.injEq,exists_eq_left']
   refine⟨_,RF a k h0 (by omega) hca.1 hca.2,ay (by simp;omega) ?_⟩
   rw[aJ (by omega)]
   have:=ih (d++[mkNode a k]) (k+kj a) (by omega) (by omega) (by simp;omega) (fun s h=>hs s (.tail _ h)) R (by rw[←hR];simp only[tot];rw[show k+(kj a:Int)+(tot kj r:Int)=k+((kj a+tot kj r:Nat):Int) by omega])
   rw[hu]
   simpa [mkNode] using this
 exact key l [] k h0 hk (by simpa using hl) hs _ rfl
def xM (t:Tree):Nat:=tot De t.lows+tot kj t.nodes
def PU (t:Tree) (k:Int):Tree:=⟨fq mkInt De t.lows k,fq mkNode kj t.nodes (k+tot De t.lows)⟩
theorem TJ (t:Tree) (k:Int) (h0:0≤k) (hk:k+xM t≤2305843009213693952) (h:LX t):aa C ve [dH t,vI k] (vI (k+xM t)) [dH (PU t k)]:=by
 unfold xM at*
 refine(GM _ _ _ _ ⟨_,_,Ty t.lows k h0 (by omega) h.1,_,_,RG t.nodes _ (by omega) (by omega) h.2.1 h.2.2,?_⟩).run
 exact⟨by congr 2;omega,rfl⟩
theorem TK (t:Tree) (k:Int) (h0:0≤k) (hk:k+xM t≤2305843009213693952) (h:LX t):aa C vf [dH (PU t k),vI k] (vI (k+xM t)) []:=by
 unfold xM at*
 refine(GN _ _ _ _ ⟨_,Tz t.lows k h0 (by omega) h.1,ay (by simp;omega) ⟨_,RH t.nodes _ (by omega) (by omega) h.2.1 h.2.2,ay (by simp;omega) ?_⟩⟩).run
 exact⟨by congr 2;omega,rfl⟩
def FK (p:Pool):Nat:=xM p.t+tot B4 p.ages+tot tP p.cells+tot EA p.vols
def TL (p:Pool) (k:Int):Pool:=⟨PU p.t k,fq L3 B4 p.ages (k+xM p.t),fq B5 tP p.cells (k+xM p.t+tot B4 p.ages),fq Jh EA p.vols (k+xM p.t+tot B4 p.ages+tot tP p.cells),p.next⟩
theorem OD (p:Pool) (k:Int) (h0:0≤k) (hk:k+FK p≤2305843009213693952) (h:OA p):aa C qi [ki p,vI k] (vI (k+FK p)) [ki (TL p k)]:=by
 unfold FK at*
 refine(F9 _ _ _ _ _ _ _ _ ⟨_,_,_,TJ p.t k h0 (by omega) h.t,_,_,TD p.ages _ (by omega) (by omega) h.ages,_,_,RC p.cells _ (by omega) (by omega) h.cells,_,_,TG p.vols _ (by omega) (by omega) h.vols,?_⟩).run
 exact⟨by congr 2;omega,rfl⟩
theorem OE (p:Pool) (k:Int) (h0:0≤k) (hk:k+FK p≤2305843009213693952) (h:OA p):aa C qj [ki (TL p k),vI k] (vI (k+FK p)) []:=by
 unfold FK at*
 refine(Gr _ _ _ _ _ _ _ _ ⟨_,TK p.t k h0 (by omega) h.t,ay (by simp;omega) ⟨_,TF p.ages _ (by omega) (by omega) h.ages,ay (by simp;omega) ⟨_,RD p.cells _ (by omega) (by omega) h.cells,ay (by simp;omega) ⟨_,TH p.vols _ (by omega) (by omega) h.vols,ay (by simp;omega) ?_⟩⟩⟩⟩).run
 exact⟨by congr 2;omega,rfl⟩
theorem B6 {n z:Nat} (h:n*z≤reachBytes) (hz:1≤z):n≤140737488355328:=by
 have:reachBytes≤140737488355328:=by decide
 have h2:n*1≤n*z:=Nat.mul_le_mul_left n hz
 omega
theorem Wj {n:Int} (h:(Lit.int .i64 n).wf=true):n≤9223372036854775807:=by
 have:=(VN h).2
 omega
theorem PV {r:List TC} (h:rE C.tt LW r): ∃n:Int,r=bM n∧True:=by
 obtain⟨n,rfl,_⟩:=h.nZ (k:= .i64) (by kernel_rfl)
 exact⟨n,rfl,trivial⟩
theorem Wk {r:List TC} (h:rE C.tt I5 r): ∃x:Key,r=bK x∧True:=by
 obtain⟨q0,r0,rfl,h0,k0⟩:=(h.oJ (fs:=[(0,3),(1,3),(2,3),(3,3),(4,3)]) (by kernel_rfl)).cons_inv
 obtain⟨q1,r1,rfl,h1,k1⟩:=k0.cons_inv
 obtain⟨q2,r2,rfl,h2,k2⟩:=k1.cons_inv
 obtain⟨q3,r3,rfl,h3,k3⟩:=k2.cons_inv
 obtain⟨q4,r4,rfl,h4,k4⟩:=k3.cons_inv
 have e:=k4.xk
 subst e
 obtain⟨v0,rfl,u0⟩:=h0.nZ (k:= .i64) (by kernel_rfl)
 obtain⟨v1,rfl,u1⟩:=h1.nZ (k:= .i64) (by kernel_rfl)
 obtain⟨v2,rfl,u2⟩:=h2.nZ (k:= .i64) (by kernel_rfl)
 obtain⟨v3,rfl,u3⟩:=h3.nZ (k:= .i64) (by kernel_rfl)
 obtain⟨v4,rfl,u4⟩:=h4.nZ (k:= .i64) (by kernel_rfl)
 exact⟨⟨v0,v1,v2,v3,v4⟩,rfl,trivial⟩
theorem Wl {r:List TC} (h:rE C.tt I3 r): ∃x:Age,r=dK x∧True:=by
 obtain⟨q0,r0,rfl,h0,k0⟩:=(h.oJ (fs:=[(0,3),(1,3)]) (by kernel_rfl)).cons_inv
 obtain⟨q1,r1,rfl,h1,k1⟩:=k0.cons_inv
 have e:=k1.xk
 subst e
 obtain⟨v0,rfl,u0⟩:=h0.nZ (k:= .i64) (by kernel_rfl)
 obtain⟨v1,rfl,u1⟩:=h1.nZ (k:= .i64) (by kernel_rfl)
 exact⟨⟨v0,v1⟩,rfl,trivial⟩
theorem UY {r:List TC} (h:rE C.tt FH r): ∃x:Cell,r=bX x∧True:=by
 obtain⟨q0,r0,rfl,h0,k0⟩:=(h.oJ (fs:=[(0,3),(1,4),(2,3)]) (by kernel_rfl)).cons_inv
 obtain⟨q1,r1,rfl,h1,k1⟩:=k0.cons_inv
 obtain⟨q2,r2,rfl,h2,k2⟩:=k1.cons_inv
 have e:=k2.xk
 subst e
 obtain⟨v0,rfl,u0⟩:=h0.nZ (k:= .i64) (by kernel_rfl)
 obtain⟨v1,rfl⟩:=h1.N6 (by kernel_rfl)
 obtain⟨v2,rfl,u2⟩:=h2.nZ (k:= .i64) (by kernel_rfl)
 exact⟨⟨v0,v1,v2⟩,rfl,trivial⟩
theorem Wm {r:List TC} (h:rE C.tt I6 r): ∃x:Vol,r=ek x∧x.name.size≤140737488355328∧x.size≤9223372036854775807:=by
 obtain⟨q0,r0,rfl,h0,k0⟩:=(h.oJ (fs:=[(0,9),(1,3),(2,3),(3,4)]) (by kernel_rfl)).cons_inv
 obtain⟨q1,r1,rfl,h1,k1⟩:=k0.cons_inv
 obtain⟨q2,r2,rfl,h2,k2⟩:=k1.cons_inv
 obtain⟨q3,r3,rfl,h3,k3⟩:=k2.cons_inv
 have e:=k3.xk
 subst e
 obtain⟨v0,rfl,z0⟩:=h0.Uy (by kernel_rfl)
 obtain⟨v1,rfl,u1⟩:=h1.nZ (k:= .i64) (by kernel_rfl)
 obtain⟨v2,rfl,u2⟩:=h2.nZ (k:= .i64) (by kernel_rfl)
 obtain⟨v3,rfl⟩:=h3.N6 (by kernel_rfl)
 exact⟨⟨v0,v1,v2,v3⟩,rfl,⟨Nat.le_trans z0 (by decide),Wj u2⟩⟩
theorem RI {r:List TC} (h:rE C.tt UM r): ∃l:List (Int),r=[.sub 1 (l.map bM)]∧l.length≤140737488355328∧ ∀x∈l,True:=by
 obtain⟨w,rfl,y,z⟩:=h.p9 (e:=LW) (by kernel_rfl)
 obtain⟨l,rfl,hl⟩:=mZ fun r hr=>PV (y r hr)
 rw[List.length_map] at z
 exact⟨l,rfl,B6 z (by decide+kernel),hl⟩
theorem RJ {r:List TC} (h:rE C.tt xx r): ∃l:List (Key),r=[.sub 5 (l.map bK)]∧l.length≤140737488355328∧ ∀x∈l,True:=by
 obtain⟨w,rfl,y,z⟩:=h.p9 (e:=I5) (by kernel_rfl)
 obtain⟨l,rfl,hl⟩:=mZ fun r hr=>Wk (y r hr)
 rw[List.length_map] at z
 exact⟨l,rfl,B6 z (by decide+kernel),hl⟩
theorem RK {r:List TC} (h:rE C.tt MO r): ∃l:List (Age),r=[.sub 2 (l.map dK)]∧l.length≤140737488355328∧ ∀x∈l,True:=by
 obtain⟨w,rfl,y,z⟩:=h.p9 (e:=I3) (by kernel_rfl)
 obtain⟨l,rfl,hl⟩:=mZ fun r hr=>Wl (y r hr)
 rw[List.length_map] at z
 exact⟨l,rfl,B6 z (by decide+kernel),hl⟩
theorem PW {r:List TC} (h:rE C.tt J6 r): ∃l:List (Cell),r=[.sub 3 (l.map bX)]∧l.length≤140737488355328∧ ∀x∈l,True:=by
 obtain⟨w,rfl,y,z⟩:=h.p9 (e:=FH) (by kernel_rfl)
 obtain⟨l,rfl,hl⟩:=mZ fun r hr=>UY (y r hr)
 rw[List.length_map] at z
 exact⟨l,rfl,B6 z (by decide+kernel),hl⟩
theorem RL {r:List TC} (h:rE C.tt MP r): ∃l:List (Vol),r=[.sub 4 (l.map ek)]∧l.length≤140737488355328∧ ∀x∈l,x.name.size≤140737488355328∧x.size≤9223372036854775807:=by
 obtain⟨w,rfl,y,z⟩:=h.p9 (e:=I6) (by kernel_rfl)
 obtain⟨l,rfl,hl⟩:=mZ fun r hr=>Wm (y r hr)
 rw[List.length_map] at z
 exact⟨l,rfl,B6 z (by decide+kernel),hl⟩
theorem Wn {r:List TC} (h:rE C.tt xx r): ∃s:List Key,r=bZ s∧s.length≤140737488355328:=by
 obtain⟨l,rfl,hl,_⟩:=RJ h
 exact⟨l,rfl,hl⟩
theorem RM {r:List TC} (h:rE C.tt J5 r): ∃l:List (List Key),r=[.sub 1 (l.map bZ)]∧l.length≤140737488355328∧ ∀x∈l,x.length≤140737488355328:=by
 obtain⟨w,rfl,y,z⟩:=h.p9 (e:=xx) (by kernel_rfl)
 obtain⟨l,rfl,hl⟩:=mZ fun r hr=>Wn (y r hr)
 rw[List.length_map] at z
 exact⟨l,rfl,B6 z (by decide+kernel),hl⟩
theorem UZ {r:List TC} (h:rE C.tt FI r): ∃n:List (List Key),r=aV n∧(n.length≤140737488355328∧ ∀s∈n,s.length≤140737488355328):=by
 obtain⟨q0,r0,rfl,h0,k0⟩:=(h.oJ (fs:=[(0,178)]) (by kernel_rfl)).cons_inv
 have e:=k0.xk
 subst e
 obtain⟨l,rfl,hl,hs⟩:=RM h0
 exact⟨l,rfl,hl,hs⟩
theorem PX {r:List TC} (h:rE C.tt J7 r): ∃l:List (List (List Key)),r=[.sub 1 (l.map aV)]∧l.length≤140737488355328∧ ∀x∈l,x.length≤140737488355328∧ ∀s∈x,s.length≤140737488355328:=by
 obtain⟨w,rfl,y,z⟩:=h.p9 (e:=FI) (by kernel_rfl)
 obtain⟨l,rfl,hl⟩:=mZ fun r hr=>UZ (y r hr)
 rw[List.length_map] at z
 exact⟨l,rfl,B6 z (by decide+kernel),hl⟩
theorem U0 {r:List TC} (h:rE C.tt Oz r): ∃t:Tree,r=QC t∧Tu t:=by
 obtain⟨q0,r0,rfl,h0,k0⟩:=(h.oJ (fs:=[(0,22),(1,23)]) (by kernel_rfl)).cons_inv
 obtain⟨q1,r1,rfl,h1,k1⟩:=k0.cons_inv
 have e:=k1.xk
 subst e
 obtain⟨l,rfl,hl,_⟩:=RI h0
 obtain⟨n,rfl,hn,hs⟩:=PX h1
 exact⟨⟨l,n⟩,rfl,⟨hl,hn,hs⟩⟩
theorem U1 {r:List TC} (h:rE C.tt qv r): ∃p:Pool,r=Vd p∧QM p:=by
 obtain⟨q0,r0,rfl,h0,k0⟩:=(h.oJ (fs:=[(0,25),(2,26),(3,27),(4,28),(5,3)]) (by kernel_rfl)).cons_inv
 obtain⟨q1,r1,rfl,h1,k1⟩:=k0.cons_inv
 obtain⟨q2,r2,rfl,h2,k2⟩:=k1.cons_inv
 obtain⟨q3,r3,rfl,h3,k3⟩:=k2.cons_inv
 obtain⟨q4,r4,rfl,h4,k4⟩:=k3.cons_inv
 have e:=k4.xk
 subst e
 obtain⟨t,rfl,ht⟩:=U0 h0
 obtain⟨a,rfl,ha,_⟩:=RK h1
 obtain⟨c,rfl,hc,_⟩:=PW h2
 obtain⟨v,rfl,hv,hw⟩:=RL h3
 obtain⟨n,rfl,_⟩:=PV h4
 exact⟨⟨t,a,c,v,n⟩,rfl,⟨ht,ha,hc,hv,fun v h=>(hw v h).1,fun v h=>(hw v h).2⟩⟩
theorem W3 {v:TV} (h:Ur C.tt LW v): ∃n:Int,v=vI n:=by
 have ht:(C.tt LW).ti= .int .i64:=by kernel_rfl
 cases h with
 |c _ hw=>
  obtain⟨n,h1,_⟩:=PV hw
  unfold bM at h1
  cases h1
  exact⟨n,rfl⟩
 |ag h1 _=>rw[ht] at h1;cases h1
theorem Wo {v:TV} (h:Ur C.tt qv v): ∃x:Pool,v=ki x∧QM x:=by
 have ht:(C.tt qv).ti= .struct [(0,25),(2,26),(3,27),(4,28),(5,3)]:=by kernel_rfl
 cases h with
 |c hs hw=>exact absurd ht (hs _)
 |ag _ hw=>
  obtain⟨x,rfl,hx⟩:=U1 hw
  exact⟨x,rfl,hx⟩
theorem Wp {a:Int} {n:Nat} (h:bH (kX a n) 0=false) (h0:0≤a∧a≤1048576):(n:Int)≤a∧(0≤kX a n∧kX a n≤1048576)∧kX a n=a-n:=by
 rw[dS] at h
 have h: ¬kX a n<0:=of_decide_eq_false h
 unfold kX at*
 split at h<;>simp_all<;>omega
theorem TM {t:Tree} (h:dO t≤4194304):LX t:=by
 unfold dO o9 at h
 refine⟨by omega,by omega,fun n hn=> ?_⟩
 have h1:=qg (w:=aR) hn
 have e:aR n=n.length+tot bJ n:=rfl
 exact⟨by omega,fun s hs=>by
  have h2:=qg (w:=bJ) hs
  have e2:bJ s=s.length:=rfl
  omega⟩
theorem TN (l:List Key):tot B3 l=5*l.length:=rH 5 l
theorem TO (n:List (List Key)):tot jk n≤5*tot bJ n:=by
 induction n with
 |nil=>simp[tot]
 |cons s r ih=>
  simp only[tot]
  have:jk s=5*s.length:=TN s
  have e:bJ s=s.length:=rfl
  omega
theorem RN (l:List (List (List Key))):tot kj l≤5*tot aR l:=by
 induction l with
 |nil=>simp[tot]
 |cons n r ih=>
  simp only[tot]
  have h1:=TO n
  have h2:aR n=n.length+tot bJ n:=rfl
  have h3:kj n=tot jk n:=rfl
  omega
theorem TP (t:Tree):xM t≤5*dO t:=by
 have h1:=RN t.nodes
 have h2:tot De t.lows=1*t.lows.length:=rH 1 t.lows
 unfold xM dO o9
 omega
theorem OF {p:Pool} (h:eF p≤4194304):OA p:=by
 unfold eF Eb at h
 exact⟨TM (by omega),by omega,by omega,by omega⟩
theorem OG (p:Pool):FK p≤5*eF p:=by
 have h1:=TP p.t
 have h2:tot B4 p.ages=2*p.ages.length:=rH 2 p.ages
 have h3:tot tP p.cells=3*p.cells.length:=rH 3 p.cells
 have h4:tot EA p.vols=4*p.vols.length:=rH 4 p.vols
 unfold FK eF Eb
 omega
theorem MW (p:Pool) (w_p:QM p) (i:Int):aa C m6 [ki p,vI i] (vB true) []:=by
 refine(xB _ _ _ _ _ _ _ _ ?_).run
 refine⟨_,PR _ _ (by first|omega|assumption) (by assumption),?_⟩
 refine o8 (fun _=>⟨rfl,by first|rfl|trivial⟩) fun hz0=> ?_
 obtain⟨hz0a,hz0b,hz0c⟩:=Wp hz0 (by first|omega|assumption)
 have hB:=OF (p:=p) (by omega)
 have hS:eF p≤4194304:=by omega
 have hP:=lE hS
 have hsz:eF (iK p i).1≤4194304:=Nat.le_trans (Ot p i) (by omega)
 have hB2:=OF (p:=(iK p i).1) hsz
 have hw:=OG p
 have hw2:=OG (iK p i).1
 refine⟨_,_,_,_,_,_,MQ _ (by assumption),?_⟩
 refine⟨_,_,_,_,_,_,_,Dd p i (by omega),?_⟩
 refine⟨_,_,_,_,_,_,MQ _ (by assumption),?_⟩
 refine⟨_,_,_,_,_,_,_,tO p i (by omega),?_⟩
 refine⟨_,MR _ (by assumption),?_⟩
 refine ay (by first|rfl|(simp;done)|(simp;omega)) ?_
 refine ay (by first|rfl|(simp;done)|(simp;omega)) ?_
 refine⟨_,_,_,_,_,_,MQ _ (by assumption),?_⟩
 refine⟨_,MR _ (by assumption),?_⟩
 refine ay (by first|rfl|(simp;done)|(simp;omega)) ?_
 refine⟨_,_,_,_,_,_,_,OD _ 1 (by omega) (by omega) (by assumption),?_⟩
 refine ay (by first|rfl|(simp;done)|(simp;omega)) ?_
 refine⟨_,MR _ (by assumption),?_⟩
 refine ay (by first|rfl|(simp;done)|(simp;omega)) ?_
 refine ay (by first|rfl|(simp;done)|(simp;omega)) ?_
 refine⟨_,_,_,_,_,_,_,OD _ 1 (by omega) (by omega) (by assumption),?_⟩
 refine⟨_,OE _ 1 (by omega) (by omega) (by assumption),?_⟩
 refine ay (by first|rfl|(simp;done)|(simp;omega)) ?_
 refine ay (by first|rfl|(simp;done)|(simp;omega)) ?_
 refine⟨_,_,_,_,_,_,MQ _ (by assumption),?_⟩
 refine⟨_,_,_,_,_,_,_,tO p i (by omega),?_⟩
 refine⟨_,MR _ (by assumption),?_⟩
 refine ay (by first|rfl|(simp;done)|(simp;omega)) ?_
 refine ay (by first|rfl|(simp;done)|(simp;omega)) ?_
 refine⟨_,OE _ 1 (by omega) (by omega) (by assumption),?_⟩
 refine ay (by first|rfl|(simp;done)|(simp;omega)) ?_
 refine ay (by first|rfl|(simp;done)|(simp;omega)) ?_
 exact⟨rfl,by first|rfl|trivial⟩
theorem MX (vs:List TV) (h:N3 C.tt [qv,LW] vs): ∃k,gZ C k m6 vs (vB true) []:=by
 cases h with
 |cons h0 h=>
  cases h with
  |cons h1 h=>
   cases h
   obtain⟨p,rfl,wp⟩:=Wo h0
   obtain⟨i,rfl⟩:=W3 h1
   exact MW p wp i
end Go.T.R
