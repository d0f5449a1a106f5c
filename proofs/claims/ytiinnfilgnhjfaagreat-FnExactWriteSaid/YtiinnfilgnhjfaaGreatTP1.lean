/- What the functions answer. -/
import Derived.Test.YtiinnfilgnhjfaaGreatTP0
set_option linter.unusedVariables false
set_option linter.unusedSimpArgs false
set_option maxRecDepth 100000
set_option maxHeartbeats 4000000
namespace Go.T.R
open Go Go.T
theorem GY (p:Pool) (hS:cL p≤4194304) (k:Key):aa C qP [.bx (pI p),Ab k] (vB (jP p k).2) [.bx (pI (jP p k).1)]:=by
 have hP:=iR hS
 have ta:=GQ p.t k.b k.a (by omega)
 have tp:=Ff p.t k (by omega)
 obtain⟨T,b,hT⟩: ∃T b,bI p.t k=(T,b):=⟨_,_,rfl⟩
 obtain⟨o,f,hO⟩: ∃o f,xV p.t k.b k.a=(o,f):=⟨_,_,rfl⟩
 have e:jP p k=if b=true then(⟨T,p.ages,if f=true∧o.k=1 then fO p.cells o.c else p.cells,p.vols,p.next⟩,true) else(p,false):=by
  unfold jP AM;rw[hT,hO]
 have hno:=Cu (t:=p.t) (k:=k)
 rw[hT] at tp hno
 rw[hO] at ta
 rw[e]
 refine(Lh _ _ _ _ _ _ _ _ _ _ _ _ ?_).run
 cases b with
 |false=>
  have hno:T=p.t:=hno rfl
  subst hno
  rw[if_neg (by simp)]
  repeat' first
   |refine⟨_,_,_,_,_,_,ta,?_⟩
   |refine⟨_,_,_,tp,?_⟩
   |refine⟨(vB false,[TV.bx (pI p)]),?_,?_,rfl⟩
   |refine⟨(vB false,[TV.bx (pI p)]),?_,?_,⟨rfl,by first|rfl|trivial⟩⟩
   |exact rfl
   |exact⟨rfl,by first|rfl|trivial⟩
   |refine ai (by first|rfl|(rw[aX];rfl)) ?_
   |refine au (by first|rfl|(rw[aX];rfl)) ?_
 |true=>
  rw[if_pos rfl]
  have dr:=Fg ⟨T,p.ages,p.cells,p.vols,p.next⟩ o f (by simp only[];omega)
  repeat' first
   |refine⟨_,_,_,_,_,_,ta,?_⟩
   |refine⟨_,_,_,tp,?_⟩
   |refine⟨_,_,_,_,_,_,dr,?_⟩
   |refine⟨(vB true,[TV.bx (pI ⟨T,p.ages,if f=true∧o.k=1 then fO p.cells o.c else p.cells,p.vols,p.next⟩)]),?_,?_,rfl⟩
   |refine⟨(vB true,[TV.bx (pI ⟨T,p.ages,if f=true∧o.k=1 then fO p.cells o.c else p.cells,p.vols,p.next⟩)]),?_,?_,⟨rfl,by first|rfl|trivial⟩⟩
   |exact rfl
   |exact⟨rfl,by first|rfl|trivial⟩
   |refine ai (by first|rfl|(rw[aX];rfl)) ?_
   |refine au (by first|rfl|(rw[aX];rfl)) ?_
theorem Af (p:Pool) (hS:cL p≤4194304) (k:Key):aa C jV [.bx (pI p),Ab k] (vB (jP p k).2) [.bx (pI (jP p k).1)]:=by
 have hP:=iR hS
 have ta:=GS p.t k.b k.a (by omega)
 have tp:=Fe p.t k (by omega)
 obtain⟨T,b,hT⟩: ∃T b,bI p.t k=(T,b):=⟨_,_,rfl⟩
 obtain⟨o,f,hO⟩: ∃o f,xV p.t k.b k.a=(o,f):=⟨_,_,rfl⟩
 have e:jP p k=if b=true then(⟨T,p.ages,if f=true∧o.k=1 then fO p.cells o.c else p.cells,p.vols,p.next⟩,true) else(p,false):=by
  unfold jP AM;rw[hT,hO]
 have hno:=Cu (t:=p.t) (k:=k)
 rw[hT] at tp hno
 rw[hO] at ta
 rw[e]
 refine(BO _ _ _ _ _ _ _ _ _ _ _ _ ?_).run
 cases b with
 |false=>
  have hno:T=p.t:=hno rfl
  subst hno
  rw[if_neg (by simp)]
  repeat' first
   |refine⟨_,_,_,_,_,_,ta,?_⟩
   |refine⟨_,_,_,tp,?_⟩
   |refine⟨(vB false,[TV.bx (pI p)]),?_,?_,rfl⟩
   |refine⟨(vB false,[TV.bx (pI p)]),?_,?_,⟨rfl,by first|rfl|trivial⟩⟩
   |exact rfl
   |exact⟨rfl,by first|rfl|trivial⟩
   |refine ai (by first|rfl|(rw[aX];rfl)) ?_
   |refine au (by first|rfl|(rw[aX];rfl)) ?_
 |true=>
  rw[if_pos rfl]
  cases f with
  |false=>
   rw[if_neg (by simp)]
   repeat' first
    |refine⟨_,_,_,_,_,_,ta,?_⟩
    |refine⟨_,_,_,tp,?_⟩
    |refine⟨(vB true,[TV.bx (pI ⟨T,p.ages,p.cells,p.vols,p.next⟩)]),?_,?_,rfl⟩
    |refine⟨(vB true,[TV.bx (pI ⟨T,p.ages,p.cells,p.vols,p.next⟩)]),?_,?_,⟨rfl,by first|rfl|trivial⟩⟩
    |exact rfl
    |exact⟨rfl,by first|rfl|trivial⟩
    |refine ai (by first|rfl|(rw[aX];rfl)) ?_
    |refine au (by first|rfl|(rw[aX];rfl)) ?_
  |true=>
   by_cases ho:o.k=1
   ·rw[if_pos ⟨rfl,ho⟩]
    have ce:cU o.k 1=true:=by rw[aX];exact decide_eq_true ho
    have fc:=DR p.cells o.c (by omega)
    repeat' first
     |refine⟨_,_,_,_,_,_,ta,?_⟩
     |refine⟨_,_,_,tp,?_⟩
     |refine ai ce ?_
     |refine⟨_,fc,?_⟩
     |refine⟨(vB true,[TV.bx (pI ⟨T,p.ages,fO p.cells o.c,p.vols,p.next⟩)]),?_,?_,rfl⟩
     |refine⟨(vB true,[TV.bx (pI ⟨T,p.ages,fO p.cells o.c,p.vols,p.next⟩)]),?_,?_,⟨rfl,by first|rfl|trivial⟩⟩
     |exact rfl
     |exact⟨rfl,by first|rfl|trivial⟩
     |refine ai (by first|rfl|(rw[aX];rfl)) ?_
     |refine au (by first|rfl|(rw[aX];rfl)) ?_
   ·rw[if_neg fun e=>ho e.2]
    have ce:cU o.k 1=false:=by rw[aX];exact decide_eq_false ho
    repeat' first
     |refine⟨_,_,_,_,_,_,ta,?_⟩
     |refine⟨_,_,_,tp,?_⟩
     |refine au ce ?_
     |refine⟨(vB true,[TV.bx (pI ⟨T,p.ages,p.cells,p.vols,p.next⟩)]),?_,?_,rfl⟩
     |refine⟨(vB true,[TV.bx (pI ⟨T,p.ages,p.cells,p.vols,p.next⟩)]),?_,?_,⟨rfl,by first|rfl|trivial⟩⟩
     |exact rfl
     |exact⟨rfl,by first|rfl|trivial⟩
     |refine ai (by first|rfl|(rw[aX];rfl)) ?_
     |refine au (by first|rfl|(rw[aX];rfl)) ?_
theorem J5 {l:List Vol} {s:ByteArray} (h:nh l s<0):gj l (nh l s)=none:=nB (by omega)
theorem DV (p:Pool) (s:ByteArray) (b:Int) (hS:cL p≤4194304) (hz:s.size≤140737488355328):aa C vJ [fK p,vS s,vI b] (vI (og p s b)) []:=by
 have hP:=iR hS
 have hva:=sM p s (by omega)
 have hvl:=GV p s hS hz
 refine(HQ _ _ _ _ _ _ _ _ _ ?_).run
 unfold og
 by_cases h1:DF p s=true
 ·rw[if_pos h1] at hvl ⊢
  by_cases h2:nh p.vols s<0
  ·rw[if_pos h2] at hvl
   rw[J5 h2]
   repeat' first
    |refine⟨_,hvl,?_⟩
    |exact rfl
    |exact⟨rfl,by first|rfl|trivial⟩
    |refine ai (by first|rfl|(rw[aX];rfl)) ?_
    |refine au (by first|rfl|(rw[aX];rfl)) ?_
  ·rw[if_neg h2] at hvl
   obtain⟨v,hv⟩:=J4 h2
   have hsz:=Gl (AH (by unfold DF at h1;simp only[Bool.and_eq_true] at h1;exact h1.1)) hv
   have hrv:rowAt (p.vols.map eg) (nh p.vols s)=some [iS v.name,iI v.age,iI v.size,iB v.fx]:=by rw[bM,hv];rfl
   have hin:=wm b 0 (v.size-1)
   have hsub:cQ v.size 1=v.size-1:=dz (by omega)
   rw[hv]
   simp only[]
   cases h3:v.fx with
   |true=>
    rw[h3] at hrv
    rw[if_pos rfl]
    repeat' first
     |refine⟨_,hvl,?_⟩
     |refine⟨_,hva,?_⟩
     |refine⟨_,_,_,_,hrv,?_⟩
     |exact rfl
     |exact⟨rfl,by first|rfl|trivial⟩
     |refine ai (by first|rfl|(rw[aX];rfl)) ?_
     |refine au (by first|rfl|(rw[aX];rfl)) ?_
   |false=>
    rw[h3] at hrv
    rw[if_neg (by simp)]
    cases h4:iQ b 0 (v.size-1) with
    |true=>
     rw[h4] at hin
     rw[if_pos rfl]
     repeat' first
      |refine⟨_,hvl,?_⟩
      |refine⟨_,hva,?_⟩
      |refine⟨_,_,_,_,hrv,?_⟩
      |refine⟨_,(by rw[hsub];exact hin),?_⟩
      |exact rfl
      |exact⟨rfl,by first|rfl|trivial⟩
      |refine ai (by first|rfl|(rw[aX];rfl)) ?_
      |refine au (by first|rfl|(rw[aX];rfl)) ?_
    |false=>
     rw[h4] at hin
     rw[if_neg (by simp)]
     repeat' first
      |refine⟨_,hvl,?_⟩
      |refine⟨_,hva,?_⟩
      |refine⟨_,_,_,_,hrv,?_⟩
      |refine⟨_,(by rw[hsub];exact hin),?_⟩
      |exact rfl
      |exact⟨rfl,by first|rfl|trivial⟩
      |refine ai (by first|rfl|(rw[aX];rfl)) ?_
      |refine au (by first|rfl|(rw[aX];rfl)) ?_
 ·rw[if_neg h1] at hvl ⊢
  repeat' first
   |refine⟨_,hvl,?_⟩
   |exact rfl
   |exact⟨rfl,by first|rfl|trivial⟩
   |refine ai (by first|rfl|(rw[aX];rfl)) ?_
   |refine au (by first|rfl|(rw[aX];rfl)) ?_
theorem CL (p:Pool) (s:ByteArray) (b:Int) (hS:cL p≤4194304) (hz:s.size≤140737488355328):aa C sG [fK p,vS s,vI b,vB true] (YJ (nh p.vols s,og p s b)) []:=by
 have hP:=iR hS
 have hva:=A7 p s (by omega)
 have hok:=yl p hS
 have hnm:=(B2 s hz (qw s)).2 rfl
 refine(FZ _ _ _ _ _ _ _ _ _ _ ?_).run
 unfold og DF
 cases h0:mD p with
 |false=>
  rw[h0] at hok
  repeat' first
   |refine⟨_,hva,?_⟩
   |refine⟨_,hok,?_⟩
   |exact rfl
   |exact⟨rfl,by first|rfl|trivial⟩
   |refine ai (by first|rfl|(rw[aX];rfl)) ?_
   |refine au (by first|rfl|(rw[aX];rfl)) ?_
 |true=>
 rw[h0] at hok
 cases h1:qw s with
 |false=>
  rw[h1] at hnm
  repeat' first
   |refine⟨_,hva,?_⟩
   |refine⟨_,hok,?_⟩
   |refine⟨_,hnm,?_⟩
   |exact rfl
   |exact⟨rfl,by first|rfl|trivial⟩
   |refine ai (by first|rfl|(rw[aX];rfl)) ?_
   |refine au (by first|rfl|(rw[aX];rfl)) ?_
 |true=>
  rw[h1] at hnm
  rw[if_pos (show(true&&true)=true from rfl)]
  by_cases h2:nh p.vols s<0
  ·have cl:bG (nh p.vols s) 0=true:=by rw[eA];exact decide_eq_true h2
   rw[J5 h2]
   repeat' first
    |refine⟨_,hva,?_⟩
    |refine⟨_,hok,?_⟩
    |refine⟨_,hnm,?_⟩
    |refine ai cl ?_
    |exact rfl
    |exact⟨rfl,by first|rfl|trivial⟩
    |refine ai (by first|rfl|(rw[aX];rfl)) ?_
    |refine au (by first|rfl|(rw[aX];rfl)) ?_
  ·have cl:bG (nh p.vols s) 0=false:=by rw[eA];exact decide_eq_false h2
   obtain⟨v,hv⟩:=J4 h2
   have hsz:=Gl (AH h0) hv
   have hrv:rowAt (p.vols.map eg) (nh p.vols s)=some [iS v.name,iI v.age,iI v.size,iB v.fx]:=by rw[bM,hv];rfl
   have hin:=qz b 0 (v.size-1)
   have hsub:cQ v.size 1=v.size-1:=dz (by omega)
   rw[hv]
   simp only[]
   cases h3:v.fx with
   |true=>
    rw[h3] at hrv
    rw[if_pos rfl]
    repeat' first
     |refine⟨_,hva,?_⟩
     |refine⟨_,hok,?_⟩
     |refine⟨_,hnm,?_⟩
     |refine au cl ?_
     |refine⟨_,_,_,_,hrv,?_⟩
     |exact rfl
     |exact⟨rfl,by first|rfl|trivial⟩
     |refine ai (by first|rfl|(rw[aX];rfl)) ?_
     |refine au (by first|rfl|(rw[aX];rfl)) ?_
   |false=>
    rw[h3] at hrv
    rw[if_neg (by simp)]
    cases h4:iQ b 0 (v.size-1) with
    |true=>
     rw[h4] at hin
     rw[if_pos rfl]
     repeat' first
      |refine⟨_,hva,?_⟩
      |refine⟨_,hok,?_⟩
      |refine⟨_,hnm,?_⟩
      |refine au cl ?_
      |refine⟨_,_,_,_,hrv,?_⟩
      |refine⟨_,(by rw[hsub];exact hin),?_⟩
      |exact rfl
      |exact⟨rfl,by first|rfl|trivial⟩
      |refine ai (by first|rfl|(rw[aX];rfl)) ?_
      |refine au (by first|rfl|(rw[aX];rfl)) ?_
    |false=>
     rw[h4] at hin
     rw[if_neg (by simp)]
     repeat' first
      |refine⟨_,hva,?_⟩
      |refine⟨_,hok,?_⟩
      |refine⟨_,hnm,?_⟩
      |refine au cl ?_
      |refine⟨_,_,_,_,hrv,?_⟩
      |refine⟨_,(by rw[hsub];exact hin),?_⟩
      |exact rfl
      |exact⟨rfl,by first|rfl|trivial⟩
      |refine ai (by first|rfl|(rw[aX];rfl)) ?_
      |refine au (by first|rfl|(rw[aX];rfl)) ?_
theorem DW {l:List Cell} {n i:Int} {cs:List Cell} (h:iT l n=(cs,i,true)): ∃c,gj cs i=some c∧Uz cs i=c.g:=by
 have h0:c6 l=true∧jw n=true∧0≤kN l:=Classical.byContradiction fun hn=>by
  rw[ni hn] at h;cases h
 rw[xU h0] at h
 obtain⟨rfl,h2⟩:=Prod.mk.inj h
 obtain⟨rfl,_⟩:=Prod.mk.inj h2
 have hl: -1≤kN l∧kN l<l.length:=VG sF l
 obtain⟨c,hc⟩:=qu (l:=l.modify (kN l).toNat fun c=>⟨c.g,true,n⟩) h0.2.2 (by rw[List.length_modify];exact hl.2)
 exact⟨c,hc,by unfold Uz;rw[hc]⟩
theorem J6 (p:Pool) (s:ByteArray) (b n:Int) (hS:cL p≤1048576) (hz:s.size≤1048576):aa C Cw [fK p,vS s,vI b,vI n] (Xz (jn p s b n)) []:=by
 have hS':cL p≤4194304:=by omega
 have hP:=iR hS'
 have hcp:=qA p hS'
 have hva:=sM p s (by omega)
 have hbl:=DV p s b hS' (by omega)
 have hwd:=(vL n (jw n)).2 rfl
 refine(N1 _ _ _ _ _ _ _ _ _ _ ?_).run
 by_cases h1:og p s b=0
 ·rw[h1] at hbl
  obtain⟨v,hv,_⟩:=Gq h1
  have hrv:rowAt (p.vols.map eg) (nh p.vols s)=some [iS v.name,iI v.age,iI v.size,iB v.fx]:=by rw[bM,hv];rfl
  cases h2:jw n with
  |false=>
   rw[h2] at hwd
   have e:jn p s b n=(p,4):=by unfold jn;rw[if_pos h1,if_neg (by rw[h2];simp)]
   rw[e]
   repeat' first
    |refine⟨_,_,_,_,_,_,hcp,?_⟩
    |refine⟨_,hbl,?_⟩
    |refine⟨_,hwd,?_⟩
    |exact rfl
    |exact⟨rfl,by first|rfl|trivial⟩
    |refine ai (by first|rfl|(rw[aX];rfl)) ?_
    |refine au (by first|rfl|(rw[aX];rfl)) ?_
  |true=>
   rw[h2] at hwd
   have tk:=DT p.cells n (by omega)
   obtain⟨cs,i,ok,htk⟩: ∃cs i ok,iT p.cells n=(cs,i,ok):=⟨_,_,_,rfl⟩
   have hcl:cs.length=p.cells.length:=by have:=DE p.cells n;rw[htk] at this;exact this
   have hX:cL ⟨p.t,p.ages,cs,p.vols,p.next⟩≤2000000:=by unfold cL at hS ⊢;simp only[];omega
   rw[htk] at tk
   cases ok with
   |false=>
    have e:jn p s b n=(p,6):=by unfold jn;rw[if_pos h1,if_pos h2,hv];simp only[];rw[htk];rfl
    have en:=uw p ⟨p.t,p.ages,cs,p.vols,p.next⟩ false hS' (by omega)
    rw[e]
    repeat' first
     |refine⟨_,_,_,_,_,_,hcp,?_⟩
     |refine⟨_,hbl,?_⟩
     |refine⟨_,hwd,?_⟩
     |refine⟨_,_,_,tk,?_⟩
     |refine⟨_,_,_,_,_,_,_,en,?_⟩
     |exact rfl
     |exact⟨rfl,by first|rfl|trivial⟩
     |refine ai (by first|rfl|(rw[aX];rfl)) ?_
     |refine au (by first|rfl|(rw[aX];rfl)) ?_
   |true=>
    obtain⟨c,hc,hgen⟩:=DW htk
    have hrc:rowAt (cs.map ct) i=some [iI c.g,iB c.u,iI c.n]:=by rw[bM,hc];rfl
    have pk:=GY ⟨p.t,p.ages,cs,p.vols,p.next⟩ (by omega) ⟨b,v.age,1,i,c.g⟩
    have hpz:=JR ⟨p.t,p.ages,cs,p.vols,p.next⟩ ⟨b,v.age,1,i,c.g⟩
    have e:jn p s b n=QJ p (jP ⟨p.t,p.ages,cs,p.vols,p.next⟩ ⟨b,v.age,1,i,c.g⟩).1 (jP ⟨p.t,p.ages,cs,p.vols,p.next⟩ ⟨b,v.age,1,i,c.g⟩).2:=by
     unfold jn;rw[if_pos h1,if_pos h2,hv];simp only[];unfold NR;rw[htk];simp only[];rw[hgen];rfl
    rw[e]
    generalize jP ⟨p.t,p.ages,cs,p.vols,p.next⟩ ⟨b,v.age,1,i,c.g⟩=X at*
    have en:=uw p X.1 X.2 hS' (by omega)
    repeat' first
     |refine⟨_,_,_,_,_,_,hcp,?_⟩
     |refine⟨_,hbl,?_⟩
     |refine⟨_,hwd,?_⟩
     |refine⟨_,_,_,tk,?_⟩
     |refine⟨_,_,_,hrc,?_⟩
     |refine⟨_,hva,?_⟩
     |refine⟨_,_,_,_,hrv,?_⟩
     |refine⟨_,_,_,_,_,_,_,pk,?_⟩
     |refine⟨_,_,_,_,_,_,_,en,?_⟩
     |exact rfl
     |exact⟨rfl,by first|rfl|trivial⟩
     |refine ai (by first|rfl|(rw[aX];rfl)) ?_
     |refine au (by first|rfl|(rw[aX];rfl)) ?_
 ·have c1:cU (og p s b) 0=false:=by rw[aX];exact decide_eq_false h1
  have c2:(!cU (og p s b) 0)=true:=by rw[c1];rfl
  have e:jn p s b n=(p,og p s b):=by unfold jn;rw[if_neg h1]
  rw[e]
  repeat' first
   |refine⟨_,_,_,_,_,_,hcp,?_⟩
   |refine⟨_,hbl,?_⟩
   |refine⟨_,hwd,?_⟩
   |refine au c1 ?_
   |refine ai c2 ?_
   |exact rfl
   |exact⟨rfl,by first|rfl|trivial⟩
   |refine ai (by first|rfl|(rw[aX];rfl)) ?_
   |refine au (by first|rfl|(rw[aX];rfl)) ?_
theorem Ba (p:Pool) (s:ByteArray) (b n:Int) (hS:cL p≤1048576) (hz:s.size≤1048576):aa C xX [fK p,vS s,vI b,vI n] (Xz (jn p s b n)) []:=by
 have hS':cL p≤4194304:=by omega
 have hP:=iR hS'
 have hcp:=p0 p hS'
 have hva:=A7 p s (by omega)
 have hbl:=CL p s b hS' (by omega)
 have hwd:=(vM n (jw n)).2 rfl
 refine(N6 _ _ _ _ _ _ _ _ _ _ ?_).run
 by_cases h1:og p s b=0
 ·rw[h1] at hbl
  obtain⟨v,hv,_⟩:=Gq h1
  have hrv:rowAt (p.vols.map eg) (nh p.vols s)=some [iS v.name,iI v.age,iI v.size,iB v.fx]:=by rw[bM,hv];rfl
  cases h2:jw n with
  |false=>
   rw[h2] at hwd
   have e:jn p s b n=(p,4):=by unfold jn;rw[if_pos h1,if_neg (by rw[h2];simp)]
   rw[e]
   repeat' first
    |refine⟨_,_,_,_,_,_,hcp,?_⟩
    |refine⟨_,_,hbl,?_⟩
    |refine⟨_,hwd,?_⟩
    |exact rfl
    |exact⟨rfl,by first|rfl|trivial⟩
    |refine ai (by first|rfl|(rw[aX];rfl)) ?_
    |refine au (by first|rfl|(rw[aX];rfl)) ?_
  |true=>
   rw[h2] at hwd
   have tk:=DS p.cells n (by omega)
   obtain⟨cs,i,ok,htk⟩: ∃cs i ok,iT p.cells n=(cs,i,ok):=⟨_,_,_,rfl⟩
   have hcl:cs.length=p.cells.length:=by have:=DE p.cells n;rw[htk] at this;exact this
   have hX:cL ⟨p.t,p.ages,cs,p.vols,p.next⟩≤2000000:=by unfold cL at hS ⊢;simp only[];omega
   rw[htk] at tk
   cases ok with
   |false=>
    have e:jn p s b n=(p,6):=by unfold jn;rw[if_pos h1,if_pos h2,hv];simp only[];rw[htk];rfl
    have en:=sN p ⟨p.t,p.ages,cs,p.vols,p.next⟩ false hS' (by omega)
    rw[e]
    repeat' first
     |refine⟨_,_,_,_,_,_,hcp,?_⟩
     |refine⟨_,_,hbl,?_⟩
     |refine⟨_,hwd,?_⟩
     |refine⟨_,_,_,tk,?_⟩
     |refine⟨_,_,_,_,_,_,_,en,?_⟩
     |exact rfl
     |exact⟨rfl,by first|rfl|trivial⟩
     |refine ai (by first|rfl|(rw[aX];rfl)) ?_
     |refine au (by first|rfl|(rw[aX];rfl)) ?_
   |true=>
    obtain⟨c,hc,hgen⟩:=DW htk
    have hrc:rowAt (cs.map ct) i=some [iI c.g,iB c.u,iI c.n]:=by rw[bM,hc];rfl
    have pk:=Af ⟨p.t,p.ages,cs,p.vols,p.next⟩ (by omega) ⟨b,v.age,1,i,c.g⟩
    have hpz:=JR ⟨p.t,p.ages,cs,p.vols,p.next⟩ ⟨b,v.age,1,i,c.g⟩
    have e:jn p s b n=QJ p (jP ⟨p.t,p.ages,cs,p.vols,p.next⟩ ⟨b,v.age,1,i,c.g⟩).1 (jP ⟨p.t,p.ages,cs,p.vols,p.next⟩ ⟨b,v.age,1,i,c.g⟩).2:=by
     unfold jn;rw[if_pos h1,if_pos h2,hv];simp only[];unfold NR;rw[htk];simp only[];rw[hgen];rfl
    rw[e]
    generalize jP ⟨p.t,p.ages,cs,p.vols,p.next⟩ ⟨b,v.age,1,i,c.g⟩=X at*
    have en:=sN p X.1 X.2 hS' (by omega)
    repeat' first
     |refine⟨_,_,_,_,_,_,hcp,?_⟩
     |refine⟨_,_,hbl,?_⟩
     |refine⟨_,hwd,?_⟩
     |refine⟨_,_,_,tk,?_⟩
     |refine⟨_,_,_,hrc,?_⟩
     |refine⟨_,hva,?_⟩
     |refine⟨_,_,_,_,hrv,?_⟩
     |refine⟨_,_,_,_,_,_,_,pk,?_⟩
     |refine⟨_,_,_,_,_,_,_,en,?_⟩
     |exact rfl
     |exact⟨rfl,by first|rfl|trivial⟩
     |refine ai (by first|rfl|(rw[aX];rfl)) ?_
     |refine au (by first|rfl|(rw[aX];rfl)) ?_
 ·have c1:cU (og p s b) 0=false:=by rw[aX];exact decide_eq_false h1
  have c2:(!cU (og p s b) 0)=true:=by rw[c1];rfl
  have e:jn p s b n=(p,og p s b):=by unfold jn;rw[if_neg h1]
  rw[e]
  repeat' first
   |refine⟨_,_,_,_,_,_,hcp,?_⟩
   |refine⟨_,_,hbl,?_⟩
   |refine⟨_,hwd,?_⟩
   |refine au c1 ?_
   |refine ai c2 ?_
   |exact rfl
   |exact⟨rfl,by first|rfl|trivial⟩
   |refine ai (by first|rfl|(rw[aX];rfl)) ?_
   |refine au (by first|rfl|(rw[aX];rfl)) ?_
theorem B5:cU 3 0=false:=by simp
theorem UD:cU 10 0=false:=by simp
def CM:Nat→Int→ByteArray→ByteArray
 |0,_,out=>out
 |n+1,k,out=>if k≤0 then out else CM n (bu .i64 k 10) (KT (Ag [rC .u8 (48+vq k 10)]) out)
def RU (k:Int):ByteArray:=if k≤0 then⟨#[109,48]⟩ else KT ⟨#[109]⟩ (CM 19 k XR)
attribute [local semireducible] pO Ag KT in
theorem SC (n:Int):pO [[TC.sc (.int .u8 n)]]=some [n]:=rfl
attribute [local semireducible] Ag in
theorem UE (n:Int):(Ag [n]).size=1:=rfl
attribute [local semireducible] KT in
theorem SD (a b:ByteArray):(KT a b).size=a.size+b.size:=by show(a++b).size=_;simp
attribute [local semireducible] bu in
theorem RV {a b:Int} (h0:0≤a) (h1:a≤9223372036854775807):bu .i64 a 10=a/10:=by
 show IntKind.i64.wrap (a.tdiv 10)=_
 rw[Int.tdiv_eq_ediv_of_nonneg h0]
 exact IntWalk.i64_in _ (by omega)
theorem Q1 (n:Nat) (k:Int) (out:ByteArray) (h:k≤0):CM n k out=out:=by cases n<;>simp[CM,h]
theorem N0 (k:Int) (hk:k≤2305843009213693952):aa C eF [vI k] (vS (RU k)) []:=by
 refine(G5 _ _ ?_).run
 unfold RU
 simp only[h9,bH]
 by_cases h:k≤0
 ·rw[if_pos h,if_pos h];exact⟨rfl,by first|rfl|trivial⟩
 ·rw[if_neg h,if_neg h]
  have key: ∀(F:ByteArray) (n:Nat) (k':Int) (out:ByteArray),k'<10 ^ n→k'≤2305843009213693952→out.size+n≤100→CM n k' out=F→ah C eF CS 4 0 (mJ k' out) (fun u st=>aG C eF CS u st fun r fs=>r=vS (KT ⟨#[109]⟩ F)∧fs=[]):=by
   intro F n
   induction n with
   |zero=>
    intro k' out h1 h2 h3 h4
    refine p7 _ _ _ (au (by simp at h1 ⊢;omega) (uW _ _ _ _ ?_))
    simp only[CM] at h4
    subst h4
    refine ai (cZ (by simp only[natAdd,EO];omega)) ⟨rfl,by first|rfl|trivial⟩
   |succ n ih=>
    intro k' out h1 h2 h3 h4
    by_cases h0:k'≤0
    ·rw[Q1 _ _ _ h0] at h4
     subst h4
     exact p7 _ _ _ (au (by simp;omega) (uW _ _ _ _ (ai (cZ (by simp only[natAdd,EO];omega)) ⟨rfl,by first|rfl|trivial⟩)))
    ·simp only[CM,if_neg h0] at h4
     have hr:0≤vq k' 10∧vq k' 10≤9:=by rw[Vy,Int.tmod_eq_emod_of_nonneg (by omega)];omega
     refine p7 _ _ _ (ai (by simp;omega) (au UD ⟨_,SC _,ai (cZ (by simp only[natAdd,EO,UE];omega)) (au UD ?_)⟩))
     rw[aJ (by omega)]
     refine ih _ _ ?_ ?_ ?_ h4
     ·rw[RV (b:=0) (by omega) (by omega)]
      have:(10:Int) ^ (n+1)=10 ^ n*10:=Int.pow_succ ..
      omega
     ·rw[RV (b:=0) (by omega) (by omega)];omega
     ·rw[SD,UE];omega
  exact key _ 19 k XR (by rw[show(10:Int) ^ 19=10000000000000000000 from by decide];omega) hk (by decide) rfl
theorem J7 (k:Int) (hk:k≤2305843009213693952) (q:ByteArray):aa C eF [vI k] (vS q) []↔q=RU k:=Yy (N0 k hk)
def mkInt (_:Int) (k:Int):Int:=k
def DX (_:Int):Nat:=1
theorem UF (l:List (Int)) (k:Int) (h0:0≤k) (hk:k+tot DX l≤2305843009213693952) (hl:l.length≤1099511627776):aa C gZ [qd l,vI k] (vI (k+tot DX l)) [qd (fD mkInt DX l k)]:=by
 refine(Io _ _ _ ?_).run
 refine r9 (e:=bO) mkInt DX (fun k i rows=>ah C gZ aj 4 0 (mU k i rows) _) 2305843009213693952 ?_ l [] k h0 hk (by simpa using hl) ?_
 ·intro d a r k h0 hk hd hn
  have hw:DX a=1:=rfl
  rw[hw] at hk hn
  refine vo _ _ _ _ (ai (by simp;omega) ?_)
  simp (disch:=omega) only[aJ]
  simp only[vD,WX,lI,gm,jL,Option.some.injEq,exists_eq_left',exists_eq_left,mod_mod,B5,lH,bL]
  rw[xS]
  rw[show(k+1:Int)=k+((1:Nat):Int) by omega]
  exact hn
 ·refine vo _ _ _ _ (au (by simp[kL]) (Ej _ _ _ _ _ ⟨rfl,by first|rfl|trivial⟩))
theorem UG (l:List (Int)) (k:Int) (h0:0≤k) (hk:k+tot DX l≤2305843009213693952) (hl:l.length≤1099511627776):aa C g6 [qd (fD mkInt DX l k),vI k] (vI (k+tot DX l)) []:=by
 refine(HA _ _ _ ?_).run
 refine sg (e:=bO) mkInt DX (fun k i rows=>ah C g6 aj 4 0 (mP rows k i) _) 2305843009213693952 ?_ l [] k h0 hk (by simpa using hl) ?_
 ·intro d a r k h0 hk hd hn
  have hw:DX a=1:=rfl
  rw[hw] at hk hn
  refine u9 _ _ _ _ (ai (by simp;omega) ?_)
  simp (disch:=omega) only[aJ]
  simp only[vD,lI,gm,jL,Option.some.injEq,exists_eq_left',exists_eq_left,mod_mod,B5,lH,bL,mkInt,aX,EM,JG,bH,if_true,decide_true,Bool.not_true]
  rw[show(k+1:Int)=k+((1:Nat):Int) by omega]
  exact hn
 ·refine u9 _ _ _ _ (au (by simp[kL]) (D5 _ _ _ _ _ ⟨rfl,by first|rfl|trivial⟩))
def mkKey (_:Key) (k:Int):Key:=⟨k,k+1,k+1+1,k+1+1+1,k+1+1+1+1⟩
def CN (_:Key):Nat:=5
theorem UH (l:List (Key)) (k:Int) (h0:0≤k) (hk:k+tot CN l≤2305843009213693952) (hl:l.length≤1099511627776):aa C g7 [cT l,vI k] (vI (k+tot CN l)) [cT (fD mkKey CN l k)]:=by
 refine(IF _ _ _ ?_).run
 refine r9 (e:=bN) mkKey CN (fun k i rows=>ah C g7 aj 4 0 (mV k i rows) _) 2305843009213693952 ?_ l [] k h0 hk (by simpa using hl) ?_
 ·intro d a r k h0 hk hd hn
  have hw:CN a=5:=rfl
  rw[hw] at hk hn
  refine vp _ _ _ _ (ai (by simp;omega) ?_)
  simp (disch:=omega) only[aJ]
  simp only[mC,Uj,Uk,Ul,Um,Un,WS,lI,gm,jL,Option.some.injEq,exists_eq_left',exists_eq_left,mod_mod,B5,lH,bL]
  rw[xS]
  rw[show(k+1+1+1+1+1:Int)=k+((5:Nat):Int) by omega]
  exact hn
 ·refine vp _ _ _ _ (au (by simp[kL]) (Ek _ _ _ _ _ ⟨rfl,by first|rfl|trivial⟩))
theorem UI (l:List (Key)) (k:Int) (h0:0≤k) (hk:k+tot CN l≤2305843009213693952) (hl:l.length≤1099511627776):aa C g8 [cT (fD mkKey CN l k),vI k] (vI (k+tot CN l)) []:=by
 refine(Hp _ _ _ ?_).run
 refine sg (e:=bN) mkKey CN (fun k i rows=>ah C g8 aj 4 0 (mL rows k i) _) 2305843009213693952 ?_ l [] k h0 hk (by simpa using hl) ?_
 ·intro d a r k h0 hk hd hn
  have hw:CN a=5:=rfl
  rw[hw] at hk hn
  refine uZ _ _ _ _ (ai (by simp;omega) ?_)
  simp (disch:=omega) only[aJ]
  simp only[mC,lI,gm,jL,Option.some.injEq,exists_eq_left',exists_eq_left,mod_mod,B5,lH,bL,mkKey,aX,EM,JG,bH,if_true,decide_true,Bool.not_true]
  rw[show(k+1+1+1+1+1:Int)=k+((5:Nat):Int) by omega]
  exact hn
 ·refine uZ _ _ _ _ (au (by simp[kL]) (D1 _ _ _ _ _ ⟨rfl,by first|rfl|trivial⟩))
def M0 (_:Age) (k:Int):Age:=⟨k,k+1⟩
def CO (_:Age):Nat:=2
theorem UJ (l:List (Age)) (k:Int) (h0:0≤k) (hk:k+tot CO l≤2305843009213693952) (hl:l.length≤1099511627776):aa C gV [jK l,vI k] (vI (k+tot CO l)) [jK (fD M0 CO l k)]:=by
 refine(Ie _ _ _ ?_).run
 refine r9 (e:=dY) M0 CO (fun k i rows=>ah C gV aj 4 0 (mS k i rows) _) 2305843009213693952 ?_ l [] k h0 hk (by simpa using hl) ?_
 ·intro d a r k h0 hk hd hn
  have hw:CO a=2:=rfl
  rw[hw] at hk hn
  refine vk _ _ _ _ (ai (by simp;omega) ?_)
  simp (disch:=omega) only[aJ]
  simp only[vE,Sl,Sm,WT,lI,gm,jL,Option.some.injEq,exists_eq_left',exists_eq_left,mod_mod,B5,lH,bL]
  rw[xS]
  rw[show(k+1+1:Int)=k+((2:Nat):Int) by omega]
  exact hn
 ·refine vk _ _ _ _ (au (by simp[kL]) (Ef _ _ _ _ _ ⟨rfl,by first|rfl|trivial⟩))
theorem UK (l:List (Age)) (k:Int) (h0:0≤k) (hk:k+tot CO l≤2305843009213693952) (hl:l.length≤1099511627776):aa C gX [jK (fD M0 CO l k),vI k] (vI (k+tot CO l)) []:=by
 refine(Ig _ _ _ ?_).run
 refine sg (e:=dY) M0 CO (fun k i rows=>ah C gX aj 4 0 (mT rows k i) _) 2305843009213693952 ?_ l [] k h0 hk (by simpa using hl) ?_
 ·intro d a r k h0 hk hd hn
  have hw:CO a=2:=rfl
  rw[hw] at hk hn
  refine vl _ _ _ _ (ai (by simp;omega) ?_)
  simp (disch:=omega) only[aJ]
  simp only[vE,lI,gm,jL,Option.some.injEq,exists_eq_left',exists_eq_left,mod_mod,B5,lH,bL,M0,aX,EM,JG,bH,if_true,decide_true,Bool.not_true]
  rw[show(k+1+1:Int)=k+((2:Nat):Int) by omega]
  exact hn
 ·refine vl _ _ _ _ (au (by simp[kL]) (Eg _ _ _ _ _ ⟨rfl,by first|rfl|trivial⟩))
def CP (_:Cell) (k:Int):Cell:=⟨k,cU (vq (k+1) 3) 0,k+1+1⟩
def uy (_:Cell):Nat:=3
theorem SE (l:List (Cell)) (k:Int) (h0:0≤k) (hk:k+tot uy l≤2305843009213693952) (hl:l.length≤1099511627776):aa C fZ [fE l,vI k] (vI (k+tot uy l)) [fE (fD CP uy l k)]:=by
 refine(Fm _ _ _ ?_).run
 refine r9 (e:=ct) CP uy (fun k i rows=>ah C fZ aj 4 0 (lz k i rows) _) 2305843009213693952 ?_ l [] k h0 hk (by simpa using hl) ?_
 ·intro d a r k h0 hk hd hn
  have hw:uy a=3:=rfl
  rw[hw] at hk hn
  refine tj _ _ _ _ (ai (by simp;omega) ?_)
  simp (disch:=omega) only[aJ]
  simp only[kC,Sn,ES,ET,NJ,lI,gm,jL,Option.some.injEq,exists_eq_left',exists_eq_left,mod_mod,B5,lH,bL]
  rw[xS]
  rw[show(k+1+1+1:Int)=k+((3:Nat):Int) by omega]
  exact hn
 ·refine tj _ _ _ _ (au (by simp[kL]) (CV _ _ _ _ _ ⟨rfl,by first|rfl|trivial⟩))
theorem SF (l:List (Cell)) (k:Int) (h0:0≤k) (hk:k+tot uy l≤2305843009213693952) (hl:l.length≤1099511627776):aa C ga [fE (fD CP uy l k),vI k] (vI (k+tot uy l)) []:=by
 refine(Fo _ _ _ ?_).run
 refine sg (e:=ct) CP uy (fun k i rows=>ah C ga aj 4 0 (lA rows k i) _) 2305843009213693952 ?_ l [] k h0 hk (by simpa using hl) ?_
 ·intro d a r k h0 hk hd hn
  have hw:uy a=3:=rfl
  rw[hw] at hk hn
  refine tq _ _ _ _ (ai (by simp;omega) ?_)
  simp (disch:=omega) only[aJ]
  simp only[kC,lI,gm,jL,Option.some.injEq,exists_eq_left',exists_eq_left,mod_mod,B5,lH,bL,CP,aX,EM,JG,bH,if_true,decide_true,Bool.not_true]
  rw[show(k+1+1+1:Int)=k+((3:Nat):Int) by omega]
  simpa [CP] using hn
 ·refine tq _ _ _ _ (au (by simp[kL]) (CW _ _ _ _ _ ⟨rfl,by first|rfl|trivial⟩))
def J8 (_:Vol) (k:Int):Vol:=⟨RU (k),k+1,k+1+1,cU (vq (k+1+1+1) 3) 0⟩
def Fh (_:Vol):Nat:=4
theorem UL (l:List (Vol)) (k:Int) (h0:0≤k) (hk:k+tot Fh l≤2305843009213693952) (hl:l.length≤1099511627776):aa C gW [yg l,vI k] (vI (k+tot Fh l)) [yg (fD J8 Fh l k)]:=by
 refine(Hs _ _ _ ?_).run
 refine r9 (e:=eg) J8 Fh (fun k i rows=>ah C gW aj 4 0 (mM k i rows) _) 2305843009213693952 ?_ l [] k h0 hk (by simpa using hl) ?_
 ·intro d a r k h0 hk hd hn
  have hw:Fh a=4:=rfl
  rw[hw] at hk hn
  refine u5 _ _ _ _ (ai (by simp;omega) ?_)
  simp (disch:=omega) only[aJ]
  simp only[AE,Pj,QE,Pk,So,WU,J7 (k) (by omega),lI,gm,jL,Option.some.injEq,exists_eq_left',exists_eq_left,mod_mod,B5,lH,bL]
  rw[xS]
  rw[show(k+1+1+1+1:Int)=k+((4:Nat):Int) by omega]
  exact hn
 ·refine u5 _ _ _ _ (au (by simp[kL]) (D2 _ _ _ _ _ ⟨rfl,by first|rfl|trivial⟩))
theorem UM (l:List (Vol)) (k:Int) (h0:0≤k) (hk:k+tot Fh l≤2305843009213693952) (hl:l.length≤1099511627776):aa C gY [yg (fD J8 Fh l k),vI k] (vI (k+tot Fh l)) []:=by
 refine(Ht _ _ _ ?_).run
 refine sg (e:=eg) J8 Fh (fun k i rows=>ah C gY aj 4 0 (mN rows k i) _) 2305843009213693952 ?_ l [] k h0 hk (by simpa using hl) ?_
 ·intro d a r k h0 hk hd hn
  have hw:Fh a=4:=rfl
  rw[hw] at hk hn
  refine u6 _ _ _ _ (ai (by simp;omega) ?_)
  simp (disch:=omega) only[aJ]
  simp only[AE,J7 (k) (by omega),lI,gm,jL,Option.some.injEq,exists_eq_left',exists_eq_left,mod_mod,B5,lH,bL,J8,aX,EM,JG,bH,if_true,decide_true,Bool.not_true]
  rw[show(k+1+1+1+1:Int)=k+((4:Nat):Int) by omega]
  simpa [J8] using hn
 ·refine u6 _ _ _ _ (au (by simp[kL]) (D3 _ _ _ _ _ ⟨rfl,by first|rfl|trivial⟩))
def yc (s:List Key) (k:Int):List Key:=fD mkKey CN s k
def jq (s:List Key):Nat:=tot CN s
theorem SG: ∀(l:List (List Key)) (k:Int) (h0:0≤k) (hk:k+tot jq l≤2305843009213693952) (hl:l.length≤1099511627776) (hs: ∀s∈l,s.length≤1099511627776),aa C fh [Dz l,vI k] (vI (k+tot jq l)) [Dz (fD yc jq l k)]:=by
 intro l k h0 hk hl hs
 refine(FT _ _ _ ?_).run
 have key: ∀(r d:List (List Key)) (k:Int),0≤k→k+tot jq r≤2305843009213693952→d.length+r.length≤1099511627776→(∀s∈r,s.length≤1099511627776)→ ∀(R:TV) (F:List TV),vI (k+tot jq r)=R→[Dz (d++fD yc jq r k)]=F→ah C fh aj 4 0 (lD k (d.length:Int) ((d++r).map bX)) (fun u st=>aG C fh aj u st fun r fs=>r=R∧fs=F):=by
  intro r
  induction r with
  |nil=>
   intro d k h0 hk hl hs R F hR hF
   subst hR hF
   refine tD _ _ _ _ (au (by simp) (C0 _ _ _ _ _ ⟨by simp[tot],by simp[fD]⟩))
  |cons a r ih=>
   intro d k h0 hk hl hs R F hR hF
   simp only[tot,List.length_cons] at hk hl
   have hca:=hs a (.head _)
   have hu:tot CN a=jq a:=rfl
   refine tD _ _ _ _ (ai (by simp;omega) ?_)
   simp only[qv,jL,Option.some.injEq,exists_eq_left']
   refine⟨_,_,UH a k h0 (by omega) hca,?_⟩
   simp only[WY]
   rw[xS,aJ (by omega)]
   have:=ih (d++[yc a k]) (k+jq a) (by omega) (by omega) (by simp;omega) (fun s h=>hs s (.tail _ h)) R F (by rw[←hR];simp only[tot];rw[show k+(jq a:Int)+(tot jq r:Int)=k+((jq a+tot jq r:Nat):Int) by omega]) (by rw[←hF];simp[fD])
   rw[←hu] at this
   simpa [yc] using this
 exact key l [] k h0 hk (by simpa using hl) hs _ _ rfl (by simp)
theorem SH: ∀(l:List (List Key)) (k:Int) (h0:0≤k) (hk:k+tot jq l≤2305843009213693952) (hl:l.length≤1099511627776) (hs: ∀s∈l,s.length≤1099511627776),aa C fj [Dz (fD yc jq l k),vI k] (vI (k+tot jq l)) []:=by
 intro l k h0 hk hl hs
 refine(F4 _ _ _ ?_).run
 have key: ∀(r d:List (List Key)) (k:Int),0≤k→k+tot jq r≤2305843009213693952→d.length+r.length≤1099511627776→(∀s∈r,s.length≤1099511627776)→ ∀(R:TV),vI (k+tot jq r)=R→ah C fj aj 4 0 (lE ((d++fD yc jq r k).map bX) k (d.length:Int)) (fun u st=>aG C fj aj u st fun r fs=>r=R∧fs=[]):=by
  intro r
  induction r with
  |nil=>
   intro d k h0 hk hl hs R hR
   subst hR
   refine tH _ _ _ _ (au (by simp[fD]) (C4 _ _ _ _ _ ⟨by simp[tot],rfl⟩))
  |cons a r ih=>
   intro d k h0 hk hl hs R hR
   simp only[tot,List.length_cons] at hk hl
   have hca:=hs a (.head _)
   have hu:tot CN a=jq a:=rfl
   simp only[fD]
   refine tH _ _ _ _ (ai (by simp;omega) ?_)
   simp only[qv,jL,Option.some.injEq,exists_eq_left']
   refine⟨_,UI a k h0 (by omega) hca,au (by simp;omega) ?_⟩
   rw[aJ (by omega)]
   have:=ih (d++[yc a k]) (k+jq a) (by omega) (by omega) (by simp;omega) (fun s h=>hs s (.tail _ h)) R (by rw[←hR];simp only[tot];rw[show k+(jq a:Int)+(tot jq r:Int)=k+((jq a+tot jq r:Nat):Int) by omega])
   rw[hu]
   simpa [yc] using this
 exact key l [] k h0 hk (by simpa using hl) hs _ rfl
def mkNode (s:List (List Key)) (k:Int):List (List Key):=fD yc jq s k
def kz (s:List (List Key)):Nat:=tot jq s
theorem SI: ∀(l:List (List (List Key))) (k:Int) (h0:0≤k) (hk:k+tot kz l≤2305843009213693952) (hl:l.length≤1099511627776) (hs: ∀s∈l,DK s),aa C fe [sE l,vI k] (vI (k+tot kz l)) [sE (fD mkNode kz l k)]:=by
 intro l k h0 hk hl hs
 refine(Fq _ _ _ ?_).run
 have key: ∀(r d:List (List (List Key))) (k:Int),0≤k→k+tot kz r≤2305843009213693952→d.length+r.length≤1099511627776→(∀s∈r,DK s)→ ∀(R:TV) (F:List TV),vI (k+tot kz r)=R→[sE (d++fD mkNode kz r k)]=F→ah C fe aj 4 0 (lB k (d.length:Int) ((d++r).map aW)) (fun u st=>aG C fe aj u st fun r fs=>r=R∧fs=F):=by
  intro r
  induction r with
  |nil=>
   intro d k h0 hk hl hs R F hR hF
   subst hR hF
   refine tr _ _ _ _ (au (by simp) (CX _ _ _ _ _ ⟨by simp[tot],by simp[fD]⟩))
  |cons a r ih=>
   intro d k h0 hk hl hs R F hR hF
   simp only[tot,List.length_cons] at hk hl
   have hca:=hs a (.head _)
   have hu:tot jq a=kz a:=rfl
   refine tr _ _ _ _ (ai (by simp;omega) ?_)
   simp only[pU,jL,Option.some.injEq,exists_eq_left']
   refine⟨_,_,SG a k h0 (by omega) hca.1 hca.2,?_⟩
   simp only[VE]
   rw[xS,aJ (by omega)]
   have:=ih (d++[mkNode a k]) (k+kz a) (by omega) (by omega) (by simp;omega) (fun s h=>hs s (.tail _ h)) R F (by rw[←hR];simp only[tot];rw[show k+(kz a:Int)+(tot kz r:Int)=k+((kz a+tot kz r:Nat):Int) by omega]) (by rw[←hF];simp[fD])
   rw[←hu] at this
   simpa [mkNode] using this
 exact key l [] k h0 hk (by simpa using hl) hs _ _ rfl (by simp)
theorem SJ: ∀(l:List (List (List Key))) (k:Int) (h0:0≤k) (hk:k+tot kz l≤2305843009213693952) (hl:l.length≤1099511627776) (hs: ∀s∈l,DK s),aa C ff [sE (fD mkNode kz l k),vI k] (vI (k+tot kz l)) []:=by
 intro l k h0 hk hl hs
 refine(FP _ _ _ ?_).run
 have key: ∀(r d:List (List (List Key))) (k:Int),0≤k→k+tot kz r≤2305843009213693952→d.length+r.length≤1099511627776→(∀s∈r,DK s)→ ∀(R:TV),vI (k+tot kz r)=R→ah C ff aj 4 0 (lC ((d++fD mkNode kz r k).map aW) k (d.length:Int)) (fun u st=>aG C ff aj u st fun r fs=>r=R∧fs=[]):=by
  intro r
  induction r with
  |nil=>
   intro d k h0 hk hl hs R hR
   subst hR
   refine tC _ _ _ _ (au (by simp[fD]) (CZ _ _ _ _ _ ⟨by simp[tot],rfl⟩))
  |cons a r ih=>
   intro d k h0 hk hl hs R hR
   simp only[tot,List.length_cons] at hk hl
   have hca:=hs a (.head _)
   have hu:tot jq a=kz a:=rfl
   simp only[fD]
   refine tC _ _ _ _ (ai (by simp;omega) ?_)
   simp only[pU,jL,Option.some.injEq,exists_eq_left']
   refine⟨_,SH a k h0 (by omega) hca.1 hca.2,au (by simp;omega) ?_⟩
   rw[aJ (by omega)]
   have:=ih (d++[mkNode a k]) (k+kz a) (by omega) (by omega) (by simp;omega) (fun s h=>hs s (.tail _ h)) R (by rw[←hR];simp only[tot];rw[show k+(kz a:Int)+(tot kz r:Int)=k+((kz a+tot kz r:Nat):Int) by omega])
   rw[hu]
   simpa [mkNode] using this
 exact key l [] k h0 hk (by simpa using hl) hs _ rfl
def yo (t:Tree):Nat:=tot DX t.lows+tot kz t.nodes
def Q2 (t:Tree) (k:Int):Tree:=⟨fD mkInt DX t.lows k,fD mkNode kz t.nodes (k+tot DX t.lows)⟩
theorem UN (t:Tree) (k:Int) (h0:0≤k) (hk:k+yo t≤2305843009213693952) (h:MY t):aa C vF [dD t,vI k] (vI (k+yo t)) [dD (Q2 t k)]:=by
 unfold yo at*
 refine(HL _ _ _ _ ⟨_,_,UF t.lows k h0 (by omega) h.1,_,_,SI t.nodes _ (by omega) (by omega) h.2.1 h.2.2,?_⟩).run
 exact⟨by congr 2;omega,rfl⟩
theorem UO (t:Tree) (k:Int) (h0:0≤k) (hk:k+yo t≤2305843009213693952) (h:MY t):aa C vG [dD (Q2 t k),vI k] (vI (k+yo t)) []:=by
 unfold yo at*
 refine(HM _ _ _ _ ⟨_,UG t.lows k h0 (by omega) h.1,au (by simp;omega) ⟨_,SJ t.nodes _ (by omega) (by omega) h.2.1 h.2.2,au (by simp;omega) ?_⟩⟩).run
 exact⟨by congr 2;omega,rfl⟩
def Gv (p:Pool):Nat:=yo p.t+tot CO p.ages+tot uy p.cells+tot Fh p.vols
def UP (p:Pool) (k:Int):Pool:=⟨Q2 p.t k,fD M0 CO p.ages (k+yo p.t),fD CP uy p.cells (k+yo p.t+tot CO p.ages),fD J8 Fh p.vols (k+yo p.t+tot CO p.ages+tot uy p.cells),p.next⟩
theorem PJ (p:Pool) (k:Int) (h0:0≤k) (hk:k+Gv p≤2305843009213693952) (h:PI p):aa C qF [fK p,vI k] (vI (k+Gv p)) [fK (UP p k)]:=by
 unfold Gv at*
 refine(G3 _ _ _ _ _ _ _ _ ⟨_,_,_,UN p.t k h0 (by omega) h.t,_,_,UJ p.ages _ (by omega) (by omega) h.ages,_,_,SE p.cells _ (by omega) (by omega) h.cells,_,_,UL p.vols _ (by omega) (by omega) h.vols,?_⟩).run
 exact⟨by congr 2;omega,rfl⟩
theorem PK (p:Pool) (k:Int) (h0:0≤k) (hk:k+Gv p≤2305843009213693952) (h:PI p):aa C qG [fK (UP p k),vI k] (vI (k+Gv p)) []:=by
 unfold Gv at*
 refine(Hq _ _ _ _ _ _ _ _ ⟨_,UO p.t k h0 (by omega) h.t,au (by simp;omega) ⟨_,UK p.ages _ (by omega) (by omega) h.ages,au (by simp;omega) ⟨_,SF p.cells _ (by omega) (by omega) h.cells,au (by simp;omega) ⟨_,UM p.vols _ (by omega) (by omega) h.vols,au (by simp;omega) ?_⟩⟩⟩⟩).run
 exact⟨by congr 2;omega,rfl⟩
theorem CQ {n z:Nat} (h:n*z≤reachBytes) (hz:1≤z):n≤140737488355328:=by
 have:reachBytes≤140737488355328:=by decide
 have h2:n*1≤n*z:=Nat.mul_le_mul_left n hz
 omega
theorem Xn {n:Int} (h:(Lit.int .i64 n).wf=true):n≤9223372036854775807:=by
 have:=(WQ h).2
 omega
theorem Q3 {r:List TC} (h:r8 C.tt Gr r): ∃n:Int,r=bO n∧True:=by
 obtain⟨n,rfl,_⟩:=h.oH (k:= .i64) (by kernel_rfl)
 exact⟨n,rfl,trivial⟩
theorem Xo {r:List TC} (h:r8 C.tt JV r): ∃x:Key,r=bN x∧True:=by
 obtain⟨q0,r0,rfl,h0,k0⟩:=(h.o9 (fs:=[(0,3),(1,3),(2,3),(3,3),(4,3)]) (by kernel_rfl)).cons_inv
 obtain⟨q1,r1,rfl,h1,k1⟩:=k0.cons_inv
 obtain⟨q2,r2,rfl,h2,k2⟩:=k1.cons_inv
 obtain⟨q3,r3,rfl,h3,k3⟩:=k2.cons_inv
 obtain⟨q4,r4,rfl,h4,k4⟩:=k3.cons_inv
 have e:=k4.xR
 subst e
 obtain⟨v0,rfl,u0⟩:=h0.oH (k:= .i64) (by kernel_rfl)
 obtain⟨v1,rfl,u1⟩:=h1.oH (k:= .i64) (by kernel_rfl)
 obtain⟨v2,rfl,u2⟩:=h2.oH (k:= .i64) (by kernel_rfl)
 obtain⟨v3,rfl,u3⟩:=h3.oH (k:= .i64) (by kernel_rfl)
 obtain⟨v4,rfl,u4⟩:=h4.oH (k:= .i64) (by kernel_rfl)
 exact⟨⟨v0,v1,v2,v3,v4⟩,rfl,trivial⟩
theorem Xp {r:List TC} (h:r8 C.tt JU r): ∃x:Age,r=dY x∧True:=by
 obtain⟨q0,r0,rfl,h0,k0⟩:=(h.o9 (fs:=[(0,3),(1,3)]) (by kernel_rfl)).cons_inv
 obtain⟨q1,r1,rfl,h1,k1⟩:=k0.cons_inv
 have e:=k1.xR
 subst e
 obtain⟨v0,rfl,u0⟩:=h0.oH (k:= .i64) (by kernel_rfl)
 obtain⟨v1,rfl,u1⟩:=h1.oH (k:= .i64) (by kernel_rfl)
 exact⟨⟨v0,v1⟩,rfl,trivial⟩
theorem VX {r:List TC} (h:r8 C.tt Gs r): ∃x:Cell,r=ct x∧True:=by
 obtain⟨q0,r0,rfl,h0,k0⟩:=(h.o9 (fs:=[(0,3),(1,4),(2,3)]) (by kernel_rfl)).cons_inv
 obtain⟨q1,r1,rfl,h1,k1⟩:=k0.cons_inv
 obtain⟨q2,r2,rfl,h2,k2⟩:=k1.cons_inv
 have e:=k2.xR
 subst e
 obtain⟨v0,rfl,u0⟩:=h0.oH (k:= .i64) (by kernel_rfl)
 obtain⟨v1,rfl⟩:=h1.Pc (by kernel_rfl)
 obtain⟨v2,rfl,u2⟩:=h2.oH (k:= .i64) (by kernel_rfl)
 exact⟨⟨v0,v1,v2⟩,rfl,trivial⟩
theorem Xq {r:List TC} (h:r8 C.tt JW r): ∃x:Vol,r=eg x∧x.name.size≤140737488355328∧x.size≤9223372036854775807:=by
 obtain⟨q0,r0,rfl,h0,k0⟩:=(h.o9 (fs:=[(0,9),(1,3),(2,3),(3,4)]) (by kernel_rfl)).cons_inv
 obtain⟨q1,r1,rfl,h1,k1⟩:=k0.cons_inv
 obtain⟨q2,r2,rfl,h2,k2⟩:=k1.cons_inv
 obtain⟨q3,r3,rfl,h3,k3⟩:=k2.cons_inv
 have e:=k3.xR
 subst e
 obtain⟨v0,rfl,z0⟩:=h0.RI (by kernel_rfl)
 obtain⟨v1,rfl,u1⟩:=h1.oH (k:= .i64) (by kernel_rfl)
 obtain⟨v2,rfl,u2⟩:=h2.oH (k:= .i64) (by kernel_rfl)
 obtain⟨v3,rfl⟩:=h3.Pc (by kernel_rfl)
 exact⟨⟨v0,v1,v2,v3⟩,rfl,⟨Nat.le_trans z0 (by decide),Xn u2⟩⟩
theorem SK {r:List TC} (h:r8 C.tt VM r): ∃l:List (Int),r=[.sub 1 (l.map bO)]∧l.length≤140737488355328∧ ∀x∈l,True:=by
 obtain⟨w,rfl,y,z⟩:=h.qt (e:=Gr) (by kernel_rfl)
 obtain⟨l,rfl,hl⟩:=m9 fun r hr=>Q3 (y r hr)
 rw[List.length_map] at z
 exact⟨l,rfl,CQ z (by decide+kernel),hl⟩
theorem SL {r:List TC} (h:r8 C.tt x8 r): ∃l:List (Key),r=[.sub 5 (l.map bN)]∧l.length≤140737488355328∧ ∀x∈l,True:=by
 obtain⟨w,rfl,y,z⟩:=h.qt (e:=JV) (by kernel_rfl)
 obtain⟨l,rfl,hl⟩:=m9 fun r hr=>Xo (y r hr)
 rw[List.length_map] at z
 exact⟨l,rfl,CQ z (by decide+kernel),hl⟩
theorem SM {r:List TC} (h:r8 C.tt NT r): ∃l:List (Age),r=[.sub 2 (l.map dY)]∧l.length≤140737488355328∧ ∀x∈l,True:=by
 obtain⟨w,rfl,y,z⟩:=h.qt (e:=JU) (by kernel_rfl)
 obtain⟨l,rfl,hl⟩:=m9 fun r hr=>Xp (y r hr)
 rw[List.length_map] at z
 exact⟨l,rfl,CQ z (by decide+kernel),hl⟩
theorem Q4 {r:List TC} (h:r8 C.tt K4 r): ∃l:List (Cell),r=[.sub 3 (l.map ct)]∧l.length≤140737488355328∧ ∀x∈l,True:=by
 obtain⟨w,rfl,y,z⟩:=h.qt (e:=Gs) (by kernel_rfl)
 obtain⟨l,rfl,hl⟩:=m9 fun r hr=>VX (y r hr)
 rw[List.length_map] at z
 exact⟨l,rfl,CQ z (by decide+kernel),hl⟩
theorem SN {r:List TC} (h:r8 C.tt NU r): ∃l:List (Vol),r=[.sub 4 (l.map eg)]∧l.length≤140737488355328∧ ∀x∈l,x.name.size≤140737488355328∧x.size≤9223372036854775807:=by
 obtain⟨w,rfl,y,z⟩:=h.qt (e:=JW) (by kernel_rfl)
 obtain⟨l,rfl,hl⟩:=m9 fun r hr=>Xq (y r hr)
 rw[List.length_map] at z
 exact⟨l,rfl,CQ z (by decide+kernel),hl⟩
theorem Xt {r:List TC} (h:r8 C.tt x8 r): ∃s:List Key,r=bX s∧s.length≤140737488355328:=by
 obtain⟨l,rfl,hl,_⟩:=SL h
 exact⟨l,rfl,hl⟩
theorem SO {r:List TC} (h:r8 C.tt K3 r): ∃l:List (List Key),r=[.sub 1 (l.map bX)]∧l.length≤140737488355328∧ ∀x∈l,x.length≤140737488355328:=by
 obtain⟨w,rfl,y,z⟩:=h.qt (e:=x8) (by kernel_rfl)
 obtain⟨l,rfl,hl⟩:=m9 fun r hr=>Xt (y r hr)
 rw[List.length_map] at z
 exact⟨l,rfl,CQ z (by decide+kernel),hl⟩
theorem VY {r:List TC} (h:r8 C.tt Gt r): ∃n:List (List Key),r=aW n∧(n.length≤140737488355328∧ ∀s∈n,s.length≤140737488355328):=by
 obtain⟨q0,r0,rfl,h0,k0⟩:=(h.o9 (fs:=[(0,178)]) (by kernel_rfl)).cons_inv
 have e:=k0.xR
 subst e
 obtain⟨l,rfl,hl,hs⟩:=SO h0
 exact⟨l,rfl,hl,hs⟩
theorem Q5 {r:List TC} (h:r8 C.tt K5 r): ∃l:List (List (List Key)),r=[.sub 1 (l.map aW)]∧l.length≤140737488355328∧ ∀x∈l,x.length≤140737488355328∧ ∀s∈x,s.length≤140737488355328:=by
 obtain⟨w,rfl,y,z⟩:=h.qt (e:=Gt) (by kernel_rfl)
 obtain⟨l,rfl,hl⟩:=m9 fun r hr=>VY (y r hr)
 rw[List.length_map] at z
 exact⟨l,rfl,CQ z (by decide+kernel),hl⟩
theorem VZ {r:List TC} (h:r8 C.tt PG r): ∃t:Tree,r=RL t∧UB t:=by
 obtain⟨q0,r0,rfl,h0,k0⟩:=(h.o9 (fs:=[(0,22),(1,23)]) (by kernel_rfl)).cons_inv
 obtain⟨q1,r1,rfl,h1,k1⟩:=k0.cons_inv
 have e:=k1.xR
 subst e
 obtain⟨l,rfl,hl,_⟩:=SK h0
 obtain⟨n,rfl,hn,hs⟩:=Q5 h1
 exact⟨⟨l,n⟩,rfl,⟨hl,hn,hs⟩⟩
theorem V0 {r:List TC} (h:r8 C.tt qT r): ∃p:Pool,r=pI p∧RT p:=by
 obtain⟨q0,r0,rfl,h0,k0⟩:=(h.o9 (fs:=[(0,25),(2,26),(3,27),(4,28),(5,3)]) (by kernel_rfl)).cons_inv
 obtain⟨q1,r1,rfl,h1,k1⟩:=k0.cons_inv
 obtain⟨q2,r2,rfl,h2,k2⟩:=k1.cons_inv
 obtain⟨q3,r3,rfl,h3,k3⟩:=k2.cons_inv
 obtain⟨q4,r4,rfl,h4,k4⟩:=k3.cons_inv
 have e:=k4.xR
 subst e
 obtain⟨t,rfl,ht⟩:=VZ h0
 obtain⟨a,rfl,ha,_⟩:=SM h1
 obtain⟨c,rfl,hc,_⟩:=Q4 h2
 obtain⟨v,rfl,hv,hw⟩:=SN h3
 obtain⟨n,rfl,_⟩:=Q3 h4
 exact⟨⟨t,a,c,v,n⟩,rfl,⟨ht,ha,hc,hv,fun v h=>(hw v h).1,fun v h=>(hw v h).2⟩⟩
theorem Wi {v:TV} (h:UW C.tt Gr v): ∃n:Int,v=vI n:=by
 have ht:(C.tt Gr).ti= .int .i64:=by kernel_rfl
 cases h with
 |c _ hw=>
  obtain⟨n,h1,_⟩:=Q3 hw
  unfold bO at h1
  cases h1
  exact⟨n,rfl⟩
 |ag h1 _=>rw[ht] at h1;cases h1
theorem UQ {v:TV} (h:UW C.tt DJ v): ∃n:ByteArray,v=vS n∧n.size≤140737488355328:=by
 have ht:(C.tt DJ).ti= .str:=by kernel_rfl
 cases h with
 |c _ hw=>
  obtain⟨n,h1,h2⟩:=hw.RI ht
  cases h1
  exact⟨n,rfl,Nat.le_trans h2 (by decide)⟩
 |ag h1 _=>rw[ht] at h1;cases h1
theorem Xu {v:TV} (h:UW C.tt qT v): ∃x:Pool,v=fK x∧RT x:=by
 have ht:(C.tt qT).ti= .struct [(0,25),(2,26),(3,27),(4,28),(5,3)]:=by kernel_rfl
 cases h with
 |c hs hw=>exact absurd ht (hs _)
 |ag _ hw=>
  obtain⟨x,rfl,hx⟩:=V0 hw
  exact⟨x,rfl,hx⟩
theorem Xv {a:Int} {n:Nat} (h:bG (lq a n) 0=false) (h0:0≤a∧a≤1048576):(n:Int)≤a∧(0≤lq a n∧lq a n≤1048576)∧lq a n=a-n:=by
 rw[eA] at h
 have h: ¬lq a n<0:=of_decide_eq_false h
 unfold lq at*
 split at h<;>simp_all<;>omega
theorem Xw {a b:Int} (h:bG a b=false):b≤a:=by
 rw[eA] at h
 have:=of_decide_eq_false h
 omega
theorem UR {t:Tree} (h:dx t≤4194304):MY t:=by
 unfold dx pV at h
 refine⟨by omega,by omega,fun n hn=> ?_⟩
 have h1:=mF (w:=aP) hn
 have e:aP n=n.length+tot bB n:=rfl
 exact⟨by omega,fun s hs=>by
  have h2:=mF (w:=bB) hs
  have e2:bB s=s.length:=rfl
  omega⟩
theorem US (l:List Key):tot CN l=5*l.length:=si 5 l
theorem UT (n:List (List Key)):tot jq n≤5*tot bB n:=by
 induction n with
 |nil=>simp[tot]
 |cons s r ih=>
  simp only[tot]
  have:jq s=5*s.length:=US s
  have e:bB s=s.length:=rfl
  omega
theorem SP (l:List (List (List Key))):tot kz l≤5*tot aP l:=by
 induction l with
 |nil=>simp[tot]
 |cons n r ih=>
  simp only[tot]
  have h1:=UT n
  have h2:aP n=n.length+tot bB n:=rfl
  have h3:kz n=tot jq n:=rfl
  omega
theorem UU (t:Tree):yo t≤5*dx t:=by
 have h1:=SP t.nodes
 have h2:tot DX t.lows=1*t.lows.length:=si 1 t.lows
 unfold yo dx pV
 omega
theorem PL {p:Pool} (h:cL p≤4194304):PI p:=by
 unfold cL EU at h
 exact⟨UR (by omega),by omega,by omega,by omega⟩
theorem PM (p:Pool):Gv p≤5*cL p:=by
 have h1:=UU p.t
 have h2:tot CO p.ages=2*p.ages.length:=si 2 p.ages
 have h3:tot uy p.cells=3*p.cells.length:=si 3 p.cells
 have h4:tot Fh p.vols=4*p.vols.length:=si 4 p.vols
 unfold Gv cL EU
 omega
theorem SQ (p:Pool) (w_p:RT p) (s:ByteArray) (w_s:s.size≤140737488355328) (b:Int) (n:Int):aa C pX [fK p,vS s,vI b,vI n] (vB true) []:=by
 refine(BP _ _ _ _ _ _ _ _ _ _ ?_).run
 refine ov (fun _=>⟨rfl,by first|rfl|trivial⟩) fun hn0=> ?_
 have hn0:=Xw hn0
 refine⟨_,QZ _ _ (by first|omega|assumption) (by assumption),?_⟩
 refine ov (fun _=>⟨rfl,by first|rfl|trivial⟩) fun hz1=> ?_
 obtain⟨hz1a,hz1b,hz1c⟩:=Xv hz1 (by first|omega|assumption)
 have hB:=PL (p:=p) (by omega)
 have hS:cL p≤4194304:=by omega
 have hP:=iR hS
 have hsl_s:Int.ofNat s.data.toList.length=(s.size:Int):=rfl
 have hsz:cL (jn p s b n).1≤4194304:=Nat.le_trans (Sx p s b n) (by omega)
 have hB2:=PL (p:=(jn p s b n).1) hsz
 have hw:=PM p
 have hw2:=PM (jn p s b n).1
 refine⟨_,_,_,_,_,_,NV _ (by assumption),?_⟩
 refine⟨_,_,_,_,_,_,_,J6 p s b n (by omega) (by omega),?_⟩
 refine⟨_,_,_,_,_,_,NV _ (by assumption),?_⟩
 refine⟨_,_,_,_,_,_,_,Ba p s b n (by omega) (by omega),?_⟩
 refine⟨_,NW _ (by assumption),?_⟩
 refine au (by first|rfl|(simp;done)|(simp;omega)) ?_
 refine au (by first|rfl|(simp;done)|(simp;omega)) ?_
 refine⟨_,_,_,_,_,_,NV _ (by assumption),?_⟩
 refine⟨_,NW _ (by assumption),?_⟩
 refine au (by first|rfl|(simp;done)|(simp;omega)) ?_
 refine⟨_,_,_,_,_,_,_,PJ _ 1 (by omega) (by omega) (by assumption),?_⟩
 refine au (by first|rfl|(simp;done)|(simp;omega)) ?_
 refine⟨_,NW _ (by assumption),?_⟩
 refine au (by first|rfl|(simp;done)|(simp;omega)) ?_
 refine au (by first|rfl|(simp;done)|(simp;omega)) ?_
 refine⟨_,_,_,_,_,_,_,PJ _ 1 (by omega) (by omega) (by assumption),?_⟩
 refine⟨_,PK _ 1 (by omega) (by omega) (by assumption),?_⟩
 refine au (by first|rfl|(simp;done)|(simp;omega)) ?_
 refine au (by first|rfl|(simp;done)|(simp;omega)) ?_
 refine⟨_,_,_,_,_,_,NV _ (by assumption),?_⟩
 refine⟨_,_,_,_,_,_,_,Ba p s b n (by omega) (by omega),?_⟩
 refine⟨_,NW _ (by assumption),?_⟩
 refine au (by first|rfl|(simp;done)|(simp;omega)) ?_
 refine au (by first|rfl|(simp;done)|(simp;omega)) ?_
 refine⟨_,PK _ 1 (by omega) (by omega) (by assumption),?_⟩
 refine au (by first|rfl|(simp;done)|(simp;omega)) ?_
 refine au (by first|rfl|(simp;done)|(simp;omega)) ?_
 exact⟨rfl,by first|rfl|trivial⟩
theorem SR (vs:List TV) (h:O8 C.tt [qT,DJ,Gr,Gr] vs): ∃k,g9 C k pX vs (vB true) []:=by
 cases h with
 |cons h0 h=>
  cases h with
  |cons h1 h=>
   cases h with
   |cons h2 h=>
    cases h with
    |cons h3 h=>
     cases h
     obtain⟨p,rfl,wp⟩:=Xu h0
     obtain⟨s,rfl,ws⟩:=UQ h1
     obtain⟨b,rfl⟩:=Wi h2
     obtain⟨n,rfl⟩:=Wi h3
     exact SQ p wp s ws b n
end Go.T.R
