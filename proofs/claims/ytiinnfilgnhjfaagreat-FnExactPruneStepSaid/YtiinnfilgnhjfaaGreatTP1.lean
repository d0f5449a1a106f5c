/- What the functions answer. -/
import Derived.Test.YtiinnfilgnhjfaaGreatTP0
set_option linter.unusedVariables false
set_option linter.unusedSimpArgs false
set_option maxRecDepth 100000
set_option maxHeartbeats 4000000
namespace Go.T.R
open Go Go.T
theorem rK (t:Tree) (i c:Nat) (lw:List Int) (nd:List (List (List Key))) (h1:i+c≤t.lows.length) (h2:i+c≤t.nodes.length) (hl:t.lows.length≤1073741824) (hn:t.nodes.length≤1073741824) (hlw:lw.length≤1073741824) (hnd:nd.length≤1073741824):aa C jb [c6 t,vI (i:Int),vI (c:Int),lg lw,uI nd] (c6 (lz t i c lw nd)) []:=by
 have e1:aA (t.lows.map bC) 0 (i:Int)=(t.lows.take i).map bC:=by rw[cu];rfl
 have e2:aA (t.lows.map bC) ((i:Int)+(c:Int)) (Int.ofNat (t.lows.map bC).length)=(t.lows.drop (i+c)).map bC:=by
  rw[cu,List.length_map,show((i:Int)+(c:Int)).toNat=i+c from by omega,show(Int.ofNat t.lows.length).toNat=t.lows.length from rfl,List.take_length]
 have e3:aA (t.nodes.map aI) 0 (i:Int)=(t.nodes.take i).map aI:=by rw[cu];rfl
 have ea:ay (i:Int) (c:Int)=(i:Int)+(c:Int):=aC (by omega)
 have k1:(t.lows.take i).length≤t.lows.length:=by rw[List.length_take];omega
 have k2:(t.lows.drop (i+c)).length≤t.lows.length:=by rw[List.length_drop];omega
 have k3:(t.nodes.take i).length≤t.nodes.length:=by rw[List.length_take];omega
 have k4:(t.nodes.drop (i+c)).length≤t.nodes.length:=by rw[List.length_drop];omega
 have e4:aA (iA 1 (t.nodes.map aI) 0 (i:Int)) ((i:Int)+(c:Int)) (Int.ofNat (t.nodes.map aI).length)=(t.nodes.drop (i+c)).map aI:=by
  rw[WY (by rw[List.length_map];exact h2),List.map_drop]
 refine(LY _ _ _ _ _ _ _ ?_).run
 rw[ea,e1,e2,e3,e4]
 refine ai (by simp<;>omega) ⟨_,wo (t.lows.take i) (by omega),?_⟩
 rw[kk,kk,kk,kk]
 refine ai (by simp<;>omega) (ai (by rw[kJ,cW (by simp only[List.length_map,Nat.add_eq];omega)];rfl) (ai (by rw[kJ,cW (by simp only[List.length_map,List.length_append,Nat.add_eq];omega)];rfl)
  (ai (by simp<;>omega) (ai (by simp<;>omega) (ai (cW (by simp<;>omega)) (ai (cW (by simp only[List.length_map,Nat.add_eq];omega)) (ai (cW (by simp only[List.length_map,List.length_append,Nat.add_eq];omega)) ?_)))))))
 exact⟨rfl,by first|rfl|trivial⟩
def Rk:Option Nat→Int
 |some i=>i
 |none=> -1
theorem tC (t:Tree) (hn:t.nodes.length≤1073741824) (hz:tot aH t.nodes≤1073740000):aa C gQ [c6 t] (vI (Rk (pV t))) []:=by
 refine(Qq _ _ _ ?_).run
 have key: ∀(d i:Nat),i+d=t.nodes.length→sJ t d i=pV t→ah C gQ aj 4 0 (qC (i:Int) (t.lows.map bC) (t.nodes.map aI)) (fun x st=>av C gQ aj x st fun r fs=>r=vI (Rk (pV t))∧fs=[]):=by
  intro d
  induction d with
  |zero=>
   intro i h he
   have ea:ay (i:Int) 1=(i:Int)+1:=aC (by omega)
   refine Cv _ _ _ _ ?_
   rw[ea]
   exact an (by simp<;>omega) (Cw _ _ _ _ _ ⟨by rw[←he];rfl,rfl⟩)
  |succ d ih=>
   intro i h he
   have ea:ay (i:Int) 1=(i:Int)+1:=aC (by omega)
   have ec:(i:Int)+1=((i+1:Nat):Int):=by omega
   unfold sJ at he
   refine Cv _ _ _ _ ?_
   rw[ea,ec]
   by_cases h1:i+1<t.nodes.length
   ·rw[if_pos h1] at he
    obtain⟨a,ha⟩: ∃a,t.nodes[i]?=some a:=⟨_,List.getElem?_eq_getElem (by omega)⟩
    obtain⟨b,hb⟩: ∃b,t.nodes[i+1]?=some b:=⟨_,List.getElem?_eq_getElem h1⟩
    have za:a.length+tot bH a≤tot aH t.nodes:=lu (w:=aH) ha
    have zb:b.length+tot bH b≤tot aH t.nodes:=lu (w:=aH) hb
    have ka:ji t i=aJ a:=by unfold ji;rw[List.getD_eq_getElem?_getD,ha];rfl
    have kb:ji t (i+1)=aJ b:=by unfold ji;rw[List.getD_eq_getElem?_getD,hb];rfl
    have la:=cU a
    have lb:=cU b
    rw[ka,kb] at he
    refine ai (by simp<;>omega) ⟨_,by rw[bB,aE,ha];rfl,_,by rw[bB,aE,hb];rfl,_,(eO a (by omega) (by omega) _).2 rfl,_,(eO b (by omega) (by omega) _).2 rfl,?_⟩
    rw[List.length_map,List.length_map,show ay (Int.ofNat (aJ a).length) (Int.ofNat (aJ b).length)=((aJ a).length:Int)+(aJ b).length from aC (by simp<;>omega)]
    by_cases h2:(aJ a).length+(aJ b).length≤6
    ·rw[if_pos h2] at he
     exact ai (by simp<;>omega) (L6 _ _ _ _ _ _ ⟨by rw[←he];rfl,rfl⟩)
    ·rw[if_neg h2] at he
     exact an (by simp<;>omega) (ih (i+1) (by omega) he)
   ·rw[if_neg h1] at he
    exact an (by simp<;>omega) (Cw _ _ _ _ _ ⟨by rw[←he];rfl,rfl⟩)
 exact key t.nodes.length 0 (by omega) rfl
theorem Kr (t0:Tree) (hw0:t0.lows.length=t0.nodes.length) (hz0:tot aH t0.nodes+t0.nodes.length≤1073700000):aa C aU [c6 t0] (c6 (lA t0.nodes.length t0)) []:=by
 refine(PG _ _ _ ⟨_,tC t0 (by omega) (by omega),?_⟩).run
 have key: ∀(m:Nat) (t:Tree),t.nodes.length=m→t.lows.length=t.nodes.length→tot aH t.nodes+t.nodes.length≤1073700000→lA m t=lA t0.nodes.length t0→ah C aU aj 4 0 (nB (Rk (pV t)) (t.lows.map bC) (t.nodes.map aI)) (fun x st=>av C aU aj x st fun r fs=>r=c6 (lA t0.nodes.length t0)∧fs=[]):=by
  intro m
  induction m with
  |zero=>
   intro t hm hw hz he
   have hp:pV t=none:=by unfold pV;rw[hm];rfl
   rw[hp]
   exact tH _ _ _ _ (an (by simp[Rk]) (B1 _ _ _ _ _ ⟨by rw[←he];rfl,rfl⟩))
  |succ m ih=>
   intro t hm hw hz he
   rw[sj] at he
   cases hp:pV t with
   |none=>
    rw[hp] at he
    have he:t=lA t0.nodes.length t0:=he
    exact tH _ _ _ _ (an (by simp[Rk]) (B1 _ _ _ _ _ ⟨by rw[←he],rfl⟩))
   |some i=>
   rw[hp] at he
   have he:lA m (cK t i)=lA t0.nodes.length t0:=he
   have hlt:=si hp
   show ah C aU aj 4 0 (nB (i:Int) (t.lows.map bC) (t.nodes.map aI)) _
   obtain⟨a,ha⟩: ∃a,t.nodes[i]?=some a:=⟨_,List.getElem?_eq_getElem (by omega)⟩
   obtain⟨b,hb⟩: ∃b,t.nodes[i+1]?=some b:=⟨_,List.getElem?_eq_getElem hlt.1⟩
   have za:a.length+tot bH a≤tot aH t.nodes:=lu (w:=aH) ha
   have zb:b.length+tot bH b≤tot aH t.nodes:=lu (w:=aH) hb
   have la:=cU a
   have lb:=cU b
   have h6:=hlt.2
   rw[g9 ha,g9 hb] at h6
   have ea:ay (i:Int) 1=((i+1:Nat):Int):=by rw[aC (by omega)];omega
   have eb:ay (i:Int) 2=((i+2:Nat):Int):=by rw[aC (by omega)];omega
   have ra:rowAt (t.nodes.map aI) (i:Int)=some [TC.sub 1 (a.map bX)]:=by rw[bB,aE,ha];rfl
   have rb:rowAt (t.nodes.map aI) ((i+1:Nat):Int)=some [TC.sub 1 (b.map bX)]:=by rw[bB,aE,hb];rfl
   have c1:aA (t.lows.map bC) 0 ((i+1:Nat):Int)=(t.lows.take (i+1)).map bC:=by rw[cu];rfl
   have c2:aA (t.lows.map bC) ((i+2:Nat):Int) (Int.ofNat (t.lows.map bC).length)=(t.lows.drop (i+2)).map bC:=by
    rw[cu,List.length_map,Int.toNat_natCast,show(Int.ofNat t.lows.length).toNat=t.lows.length from rfl,List.take_length]
   have c3:aA (t.nodes.map aI) 0 (i:Int)=(t.nodes.take i).map aI:=by rw[cu];rfl
   have c4:aA (t.nodes.map aI) ((i+2:Nat):Int) (Int.ofNat (t.nodes.map aI).length)=(t.nodes.drop (i+2)).map aI:=by
    rw[cu,List.length_map,Int.toNat_natCast,show(Int.ofNat t.nodes.length).toNat=t.nodes.length from rfl,List.take_length]
   have hlo:i<t.lows.length:=by omega
   have eL:List.append ((t.lows.take (i+1)).map bC) ((t.lows.drop (i+2)).map bC)=(cK t i).lows.map bC:=by
    rw[kk]
    unfold cK lz
    simp only[]
    rw[List.take_add_one,List.getD_eq_getElem?_getD,List.getElem?_eq_getElem hlo]
    simp
   have eN:List.append (List.append ((t.nodes.take i).map aI) [[TC.sub 1 ((cC (aJ a++aJ b)).map bX)]]) ((t.nodes.drop (i+2)).map aI)=(cK t i).nodes.map aI:=by
    rw[GA,kk]
    unfold cK lz
    simp only[]
    rw[g9 ha,g9 hb]
   have hsz:=we hlt.1
   have hjl:=uc hlt.1
   have hjw:(cK t i).lows.length+1=t.lows.length:=by
    have:=Ag t i 2 [t.lows.getD i 0] [cC (ji t i++ji t (i+1))] (by omega)
    unfold cK
    simp only[List.length_singleton] at this
    omega
   have k1:(t.lows.take (i+1)).length≤t.lows.length:=by rw[List.length_take];omega
   have k2:(t.lows.drop (i+2)).length≤t.lows.length:=by rw[List.length_drop];omega
   have k3:(t.nodes.take i).length≤t.nodes.length:=by rw[List.length_take];omega
   have k4:(t.nodes.drop (i+2)).length≤t.nodes.length:=by rw[List.length_drop];omega
   refine tH _ _ _ _ (ai (by simp) ?_)
   rw[ea,eb]
   refine⟨_,ra,_,ra,_,rb,_,rb,_,(eO a (by omega) (by omega) _).2 rfl,_,(eO b (by omega) (by omega) _).2 rfl,?_⟩
   rw[kk,c1,c2,c3,c4]
   refine ai (by rw[kK,cW (by simp only[List.length_map,Nat.add_eq];omega)];rfl) (ai (by simp<;>omega) (ai (by simp<;>omega) (ai (by rw[kJ,cW (by simp only[List.length_map,Nat.add_eq];omega)];rfl) (ai (by rw[kJ,cW (by simp only[List.length_map,Nat.add_eq];omega)];rfl)
    (ai (by simp<;>omega) (ai (by simp<;>omega) (ai (cW (by simp only[List.length_map,Nat.add_eq];omega)) ⟨_,jt (aJ a++aJ b) (by rw[List.length_append];omega),ai (cW (by simp only[List.length_map,Nat.succ_eq_add_one];omega)) ?_⟩)))))))
   rw[eL,eN]
   refine ai (cW (by rw[GA];simp only[List.length_map,List.length_append,List.length_singleton,Nat.add_eq];omega)) ⟨_,tC (cK t i) (by omega) (by omega),?_⟩
   exact ih (cK t i) (by omega) (by omega) (by omega) he
 cases hp:pV t0 with
 |none=>
  have hj:lA t0.nodes.length t0=t0:=by
   cases hm:t0.nodes.length with
   |zero=>rfl
   |succ m=>rw[sj,hp]
  exact B0 _ _ _ _ (an (by simp[Rk]) (K9 _ _ _ _ _ ⟨by rw[hj],rfl⟩))
 |some i=>
  have hlt:=si hp
  obtain⟨t,ht⟩: ∃t,t=t0:=⟨_,rfl⟩
  rw[←ht] at hlt hw0 hz0 hp ⊢
  show ah C aU aj 4 0 (tF (i:Int) (t.lows.map bC) (t.nodes.map aI)) _
  obtain⟨a,ha⟩: ∃a,t.nodes[i]?=some a:=⟨_,List.getElem?_eq_getElem (by omega)⟩
  obtain⟨b,hb⟩: ∃b,t.nodes[i+1]?=some b:=⟨_,List.getElem?_eq_getElem hlt.1⟩
  have za:a.length+tot bH a≤tot aH t.nodes:=lu (w:=aH) ha
  have zb:b.length+tot bH b≤tot aH t.nodes:=lu (w:=aH) hb
  have la:=cU a
  have lb:=cU b
  have h6:=hlt.2
  rw[g9 ha,g9 hb] at h6
  have ea:ay (i:Int) 1=((i+1:Nat):Int):=by rw[aC (by omega)];omega
  have eb:ay (i:Int) 2=((i+2:Nat):Int):=by rw[aC (by omega)];omega
  have ra:rowAt (t.nodes.map aI) (i:Int)=some [TC.sub 1 (a.map bX)]:=by rw[bB,aE,ha];rfl
  have rb:rowAt (t.nodes.map aI) ((i+1:Nat):Int)=some [TC.sub 1 (b.map bX)]:=by rw[bB,aE,hb];rfl
  have c1:aA (t.lows.map bC) 0 ((i+1:Nat):Int)=(t.lows.take (i+1)).map bC:=by rw[cu];rfl
  have c2:aA (t.lows.map bC) ((i+2:Nat):Int) (Int.ofNat (t.lows.map bC).length)=(t.lows.drop (i+2)).map bC:=by
   rw[cu,List.length_map,Int.toNat_natCast,show(Int.ofNat t.lows.length).toNat=t.lows.length from rfl,List.take_length]
  have c3:aA (t.nodes.map aI) 0 (i:Int)=(t.nodes.take i).map aI:=by rw[cu];rfl
  have c4:aA (t.nodes.map aI) ((i+2:Nat):Int) (Int.ofNat (t.nodes.map aI).length)=(t.nodes.drop (i+2)).map aI:=by
   rw[cu,List.length_map,Int.toNat_natCast,show(Int.ofNat t.nodes.length).toNat=t.nodes.length from rfl,List.take_length]
  have hlo:i<t.lows.length:=by omega
  have eL:List.append ((t.lows.take (i+1)).map bC) ((t.lows.drop (i+2)).map bC)=(cK t i).lows.map bC:=by
   rw[kk]
   unfold cK lz
   simp only[]
   rw[List.take_add_one,List.getD_eq_getElem?_getD,List.getElem?_eq_getElem hlo]
   simp
  have eN:List.append (List.append ((t.nodes.take i).map aI) [[TC.sub 1 ((cC (aJ a++aJ b)).map bX)]]) ((t.nodes.drop (i+2)).map aI)=(cK t i).nodes.map aI:=by
   rw[GA,kk]
   unfold cK lz
   simp only[]
   rw[g9 ha,g9 hb]
  have hsz:=we hlt.1
  have hjl:=uc hlt.1
  have hjw:(cK t i).lows.length+1=t.lows.length:=by
   have:=Ag t i 2 [t.lows.getD i 0] [cC (ji t i++ji t (i+1))] (by omega)
   unfold cK
   simp only[List.length_singleton] at this
   omega
  have k1:(t.lows.take (i+1)).length≤t.lows.length:=by rw[List.length_take];omega
  have k2:(t.lows.drop (i+2)).length≤t.lows.length:=by rw[List.length_drop];omega
  have k3:(t.nodes.take i).length≤t.nodes.length:=by rw[List.length_take];omega
  have k4:(t.nodes.drop (i+2)).length≤t.nodes.length:=by rw[List.length_drop];omega
  refine B0 _ _ _ _ (ai (by simp) ?_)
  rw[ea,eb]
  refine⟨_,ra,_,rb,_,(eO a (by omega) (by omega) _).2 rfl,_,(eO b (by omega) (by omega) _).2 rfl,?_⟩
  rw[kk,c1,c2,c3,c4]
  refine ai (by rw[kK,cW (by simp only[List.length_map,Nat.add_eq];omega)];rfl) (ai (by simp<;>omega) (ai (by simp<;>omega) (ai (by rw[kJ,cW (by simp only[List.length_map,Nat.add_eq];omega)];rfl) (ai (by rw[kJ,cW (by simp only[List.length_map,Nat.add_eq];omega)];rfl)
   (ai (by simp<;>omega) (ai (by simp<;>omega) (ai (cW (by simp only[List.length_map,Nat.add_eq];omega)) ⟨_,jt (aJ a++aJ b) (by rw[List.length_append];omega),ai (cW (by simp only[List.length_map,Nat.succ_eq_add_one];omega)) ?_⟩)))))))
  rw[eL,eN]
  refine ai (cW (by rw[GA];simp only[List.length_map,List.length_append,List.length_singleton,Nat.add_eq];omega)) ⟨_,tC (cK t i) (by omega) (by omega),?_⟩
  refine ht▸key (cK t i).nodes.length (cK t i) rfl (by omega) (by omega) ?_
  rw[←ht]
  have:t.nodes.length=(cK t i).nodes.length+1:=by omega
  rw[this]
  rw[sj,hp]
theorem J0 (t u:Tree) (hw:t.lows.length=t.nodes.length) (hz:tot aH t.nodes+t.nodes.length≤1073700000) (E:pV t=none→t=u)
 (N: ∀i,pV t=some i→ah C dy aj 4 0 (jC ((0:Nat):Int) ((cK t i).lows.map bC) ((cK t i).nodes.map aI)) (fun x st=>av C dy aj x st fun r fs=>r=c6 u∧fs=[])):
 ∀d i,i+d=t.nodes.length→sJ t d i=pV t→ah C dy aj 4 0 (jC (i:Int) (t.lows.map bC) (t.nodes.map aI)) (fun x st=>av C dy aj x st fun r fs=>r=c6 u∧fs=[]):=by
 intro d
 induction d with
 |zero=>
  intro i h he
  have ea:ay (i:Int) 1=(i:Int)+1:=aC (by omega)
  refine Cb _ _ _ _ ?_
  rw[ea]
  exact an (by simp<;>omega) (Cc _ _ _ _ _ ⟨by rw[E (by rw[←he];rfl)],rfl⟩)
 |succ d ih=>
  intro i h he
  have ea:ay (i:Int) 1=(i:Int)+1:=aC (by omega)
  have ec:(i:Int)+1=((i+1:Nat):Int):=by omega
  unfold sJ at he
  refine Cb _ _ _ _ ?_
  rw[ea,ec]
  by_cases h1:i+1<t.nodes.length
  ·rw[if_pos h1] at he
   obtain⟨a,ha⟩: ∃a,t.nodes[i]?=some a:=⟨_,List.getElem?_eq_getElem (by omega)⟩
   obtain⟨b,hb⟩: ∃b,t.nodes[i+1]?=some b:=⟨_,List.getElem?_eq_getElem h1⟩
   have za:a.length+tot bH a≤tot aH t.nodes:=lu (w:=aH) ha
   have zb:b.length+tot bH b≤tot aH t.nodes:=lu (w:=aH) hb
   have la:=cU a
   have lb:=cU b
   rw[g9 ha,g9 hb] at he
   have ra:rowAt (t.nodes.map aI) (i:Int)=some [TC.sub 1 (a.map bX)]:=by rw[bB,aE,ha];rfl
   have rb:rowAt (t.nodes.map aI) ((i+1:Nat):Int)=some [TC.sub 1 (b.map bX)]:=by rw[bB,aE,hb];rfl
   refine ai (by simp<;>omega) ⟨_,ra,_,ra,_,rb,_,rb,_,(jy a (by omega) (by omega) _).2 rfl,_,(jy b (by omega) (by omega) _).2 rfl,ai (by rw[kK,cW (by simp only[List.length_map,Nat.add_eq];omega)];rfl) ?_⟩
   rw[kk]
   by_cases h2:(aJ a).length+(aJ b).length≤6
   ·rw[if_pos h2] at he
    have hlo:i<t.lows.length:=by omega
    have hlw:rowAt (t.lows.map bC) (i:Int)=some [iI (t.lows.getD i 0)]:=by
     rw[bB,aE,List.getD_eq_getElem?_getD,List.getElem?_eq_getElem hlo];rfl
    have hnn:=og (aJ a++aJ b) (by rw[List.length_append];omega)
    have hrp:=rK t i 2 [t.lows.getD i 0] [cC (aJ a++aJ b)] (by omega) (by omega) (by omega) (by omega) (by simp) (by simp)
    have ej:lz t i 2 [t.lows.getD i 0] [cC (aJ a++aJ b)]=cK t i:=by unfold cK;rw[g9 ha,g9 hb]
    rw[ej] at hrp
    have hN:=N i he.symm
    rw[←show ay (-1) 1=((0:Nat):Int) from by rw[aC (by omega)];rfl] at hN
    exact ai (by simp[gz]<;>omega) ⟨_,hlw,_,hlw,_,hnn,_,_,hrp,⟨_,hnn,_,_,hrp,⟨_,_,hrp,rfl⟩,rfl⟩,hN⟩
   ·rw[if_neg h2] at he
    exact an (by simp[gz]<;>omega) (ih (i+1) (by omega) he)
  ·rw[if_neg h1] at he
   exact an (by simp<;>omega) (Cc _ _ _ _ _ ⟨by rw[E he.symm],rfl⟩)
theorem Ks (t0:Tree) (hw0:t0.lows.length=t0.nodes.length) (hz0:tot aH t0.nodes+t0.nodes.length≤1073700000):aa C dy [c6 t0] (c6 (lA t0.nodes.length t0)) []:=by
 refine(P0 _ _ _ ?_).run
 have key: ∀(m:Nat) (t:Tree),t.nodes.length=m→t.lows.length=t.nodes.length→tot aH t.nodes+t.nodes.length≤1073700000→ah C dy aj 4 0 (jC ((0:Nat):Int) (t.lows.map bC) (t.nodes.map aI)) (fun x st=>av C dy aj x st fun r fs=>r=c6 (lA m t)∧fs=[]):=by
  intro m
  induction m with
  |zero=>
   intro t hm hw hz
   exact J0 t (lA 0 t) hw hz (fun _=>rfl) (fun i hi=>by have:=(si hi).1;omega) t.nodes.length 0 (by omega) rfl
  |succ m ih=>
   intro t hm hw hz
   refine J0 t (lA (m+1) t) hw hz (fun h=>(Vi h).symm) (fun i hi=> ?_) t.nodes.length 0 (by omega) rfl
   have h1:=uc (si hi).1
   have h2:=we (si hi).1
   have:=ih (cK t i) (by omega) (EH (si hi).1 hw) (by omega)
   rw[sj,hi]
   exact this
 exact key t0.nodes.length t0 rfl hw0 hz0
theorem Vp {t:Tree} {i:Nat} {n:List (List Key)} (h1:i<t.lows.length) (h2:i<t.nodes.length):lz t i 1 [t.lows.getD i 0] [n]=⟨t.lows,t.nodes.set i n⟩:=by
 unfold lz
 rw[List.set_eq_take_append_cons_drop,if_pos h2,List.getD_eq_getElem?_getD,List.getElem?_eq_getElem h1]
 have e:t.lows.take i++[t.lows[i]]++t.lows.drop (i+1)=t.lows:=by
  rw[List.append_assoc,List.singleton_append,←List.drop_eq_getElem_cons h1,List.take_append_drop]
 simp only[Option.getD_some,e,List.append_assoc,List.singleton_append]
theorem ac1 {n:Nat} (h:n≤1073741824):fY .i64 (ay (Int.ofNat n) 1) 2=(((n+1)/2:Nat):Int):=by
 rw[aC (by simp;omega)]
 unfold fY
 rw[Int.tdiv_eq_ediv_of_nonneg (by simp;omega),show IntKind.wrap .i64 ((Int.ofNat n+1)/2)=(Int.ofNat n+1)/2 from IntWalk.i64_in _ (by simp;omega)]
 simp
theorem so (t:Tree) (k:Key) (hz:cw t≤4194304):aa C rG [c6 t,q7 k] (zH (aZ t k)) []:=by
 have hN:=wz hz
 have hcp:aa C bD [c6 t] (c6 t) []:=wu t hN.1 hN.2
 refine(Od _ _ _ _ _ _ _ _ ⟨_,tj t (by omega),?_⟩).run
 cases h1:eJ t with
 |false=>exact ai rfl ⟨_,_,hcp,⟨by unfold aZ;rw[if_neg (by rw[h1];simp)],rfl⟩⟩
 |true=>
 refine an rfl ⟨_,(GI _ _ _ _ _ _).2 rfl,?_⟩
 change az (!gX k) _ _
 cases h2:gX k with
 |false=>exact ai rfl ⟨_,_,hcp,⟨by unfold aZ;rw[if_neg (by rw[h2];simp)],rfl⟩⟩
 |true=>
 obtain⟨i,hi,hil⟩:=Nt h1 h2
 have hlen:=qM h1
 have hw:aa C fK [c6 t,vI k.b,vI k.a] (vI (i:Int)) []:=by rw[←hi];exact yC t k.b k.a (by omega)
 have hrow:rowAt (t.nodes.map aI) (i:Int)=some [TC.sub 1 (t.nodes[i].map bX)]:=by rw[bB,aE,List.getElem?_eq_getElem hil];rfl
 have hlow:rowAt (t.lows.map bC) (i:Int)=some [iI (t.lows.getD i 0)]:=by
  rw[bB,aE,List.getD_eq_getElem?_getD,List.getElem?_eq_getElem (by omega)];rfl
 have hg:t.nodes.getD i []=t.nodes[i]:=by rw[List.getD_eq_getElem?_getD,List.getElem?_eq_getElem hil];rfl
 have hok:=v7 h1 (List.getElem_mem hil)
 have hsz:=Eg hok
 have hps:=Db t.nodes[i] k
 have hpt:=Dc t.nodes[i] k
 have hkl:=o9 t.nodes[i] k
 have hnk:=cU t.nodes[i]
 obtain⟨hp1,hp2,hp3⟩:=T6 (k:=k) h1 hil
 have hR:aZ t k=if eJ (lA (kH t i k).nodes.length (kH t i k))=true then(lA (kH t i k).nodes.length (kH t i k),true) else(t,false):=by
  unfold aZ;rw[if_pos ⟨h1,h2⟩,hi,Int.toNat_natCast]
 have fin: ∀Q:QV,Q (zH (aZ t k)) []→ ∃(l39 l40:RR),aa C dy [c6 (kH t i k)] (.ag [.sub 1 l39,.sub 1 l40]) []∧(∃b:Bool,aa C bY [.ag [.sub 1 l39,.sub 1 l40]] (vB b) []∧(az (!b) (∃(l42 l43:RR),aa C bD [c6 t] (.ag [.sub 1 l42,.sub 1 l43]) []∧Q (.tu [(1,[.sub 1 l42,.sub 1 l43]),(0,[iB false])]) []) (Q (.tu [(1,[.sub 1 l39,.sub 1 l40]),(0,[iB true])]) []))):=by
  intro Q hQ
  refine⟨_,_,Ks (kH t i k) hp2 (by omega),_,tj _ (by omega),?_⟩
  rw[hR] at hQ
  cases h3:eJ (lA (kH t i k).nodes.length (kH t i k)) with
  |true=>rw[if_pos h3] at hQ;exact an rfl hQ
  |false=>rw[if_neg (by rw[h3];simp)] at hQ;exact ai rfl ⟨_,_,hcp,hQ⟩
 have np:=IB t.nodes[i] k (by omega) (by omega)
 refine an rfl ⟨_,hw,_,_,hcp,_,hrow,_,hrow,?_⟩
 cases hp:(cg t.nodes[i] k).2 with
 |false=>
  have hno:=(Nq hok h2 hp).1
  have cno:(!(cg t.nodes[i] k).2)=true:=by rw[hp];rfl
  obtain⟨ks,hks⟩: ∃ks,ks=cq t.nodes[i] k:=⟨_,rfl⟩
  rw[←hks] at hno hkl
  have hh:=Wc hno
  obtain⟨h,hhe⟩: ∃h,h=(ks.length+1)/2:=⟨_,rfl⟩
  have hq:fY .i64 (ay (Int.ofNat (List.length (ks.map bu))) 1) 2=(h:Int):=by rw[List.length_map,ac1 (by omega),hhe]
  have hkk:rowAt (ks.map bu) (h:Int)=some [iI (ks.getD h eg).b,iI (ks.getD h eg).a,iI (ks.getD h eg).k,iI (ks.getD h eg).c,iI (ks.getD h eg).g]:=by
   rw[bB,aE,List.getD_eq_getElem?_getD,List.getElem?_eq_getElem (by omega)];rfl
  have ep:kH t i k=lz t i 1 [t.lows.getD i 0,gY (ks.getD h eg).b (ks.getD h eg).a] [cC (ks.take h),cC (ks.drop h)]:=by
   unfold kH;rw[hg,if_neg (by rw[hp];simp),←hks,←hhe]
  have rp:=rK t i 1 [t.lows.getD i 0,gY (ks.getD h eg).b (ks.getD h eg).a] [cC (ks.take h),cC (ks.drop h)] (by omega) (by omega) (by omega) (by omega) (by simp) (by simp)
  rw[←ep] at rp
  have e1:aA (ks.map bu) 0 (h:Int)=(ks.take h).map bu:=by rw[cu];rfl
  have e2:aA (ks.map bu) (h:Int) (Int.ofNat (List.length (ks.map bu)))=(ks.drop h).map bu:=by
   rw[cu,List.length_map,Int.toNat_natCast,show(Int.ofNat ks.length).toNat=ks.length from rfl,List.take_length]
  have nn1:aa C di [.c (.sub 5 (aA (ks.map bu) 0 (h:Int)))] (gx (cC (ks.take h))) []:=by rw[e1];exact og _ (by rw[List.length_take];omega)
  have nn2:aa C di [.c (.sub 5 (aA (ks.map bu) (h:Int) (Int.ofNat (List.length (ks.map bu)))))] (gx (cC (ks.drop h))) []:=by rw[e2];exact og _ (by rw[List.length_drop];omega)
  have c1:eT 0 (h:Int) (Int.ofNat (List.length (ks.map bu)))=true:=by rw[C3];simp;omega
  have c2:eT (h:Int) (Int.ofNat (List.length (ks.map bu))) (Int.ofNat (List.length (ks.map bu)))=true:=by rw[C3];simp;omega
  have kw:aa C fy [gx t.nodes[i],q7 k] (cH ks) []:=by
   rw[hks];exact wA t.nodes[i] k (by omega) (by omega)
  clear hks hhe hR
  repeat' first
   |refine⟨_,hrow,?_⟩
   |refine⟨_,hlow,?_⟩
   |refine⟨_,_,np,?_⟩
   |refine ai cno ?_
   |refine⟨_,kw,?_⟩
   |refine an (by rw[aD];rfl) ?_
   |rw[hq]
   |refine⟨_,_,_,_,_,hkk,?_⟩
   |refine ai c1 ?_
   |refine ai c2 ?_
   |refine⟨_,(x9 _ _ _).2 rfl,?_⟩
   |refine⟨_,nn1,?_⟩
   |refine⟨_,nn2,?_⟩
   |refine⟨_,_,rp,?_⟩
   |refine⟨(zH (aZ t k),([]:List TV)),?_,?_,rfl⟩
   |refine⟨(zH (aZ t k),([]:List TV)),?_,?_,⟨rfl,by first|rfl|trivial⟩⟩
   |exact fin (fun a b=>(a,b)=(zH (aZ t k),([]:List TV))) rfl
   |exact fin (fun r fs=>r=zH (aZ t k)∧fs=[]) ⟨rfl,by first|rfl|trivial⟩
 |true=>
  have cno:(!(cg t.nodes[i] k).2)=false:=by rw[hp];rfl
  by_cases hc:0<i∧(aJ (cg t.nodes[i] k).1).length=0
  ·have ci:bK 0 (i:Int)=true:=by rw[eD];simp;omega
   have nk:=(jy (cg t.nodes[i] k).1 (by omega) (by omega) _).2 rfl
   have cl:dB (Int.ofNat (List.length ((aJ (cg t.nodes[i] k).1).map bu))) 0=true:=by rw[aD,List.length_map,hc.2];rfl
   have ep:kH t i k=lz t i 1 [] []:=by unfold kH;rw[hg,if_pos hp,if_pos hc]
   have rp:=rK t i 1 [] [] (by omega) (by omega) (by omega) (by omega) (by simp) (by simp)
   rw[←ep] at rp
   clear hR
   repeat' first
   |refine⟨_,hrow,?_⟩
   |refine⟨_,hlow,?_⟩
   |refine⟨_,_,np,?_⟩
   |refine an cno ?_
   |refine ai ci ?_
   |refine⟨_,nk,?_⟩
   |refine ai cl ?_
   |refine⟨_,_,rp,?_⟩
   |refine⟨(zH (aZ t k),([]:List TV)),?_,?_,rfl⟩
   |refine⟨(zH (aZ t k),([]:List TV)),?_,?_,⟨rfl,by first|rfl|trivial⟩⟩
   |exact fin (fun a b=>(a,b)=(zH (aZ t k),([]:List TV))) rfl
   |exact fin (fun r fs=>r=zH (aZ t k)∧fs=[]) ⟨rfl,by first|rfl|trivial⟩
  ·have eset:kH t i k=⟨t.lows,t.nodes.set i (cg t.nodes[i] k).1⟩:=by
    unfold kH;rw[hg,if_pos hp,if_neg hc,Vp (by omega) hil]
   have es:setRow (t.nodes.map aI) (i:Int) 0 [TC.sub 1 ((cg t.nodes[i] k).1.map bX)]=(t.nodes.set i (cg t.nodes[i] k).1).map aI:=TG (a:=t.nodes[i]) (by rw[aE,List.getElem?_eq_getElem hil]) rfl
   clear hR
   by_cases hi0:0<i
   ·have ci:bK 0 (i:Int)=true:=by rw[eD];simp;omega
    have nk:=(jy (cg t.nodes[i] k).1 (by omega) (by omega) _).2 rfl
    have cl:dB (Int.ofNat (List.length ((aJ (cg t.nodes[i] k).1).map bu))) 0=false:=by
     rw[aD,List.length_map];exact decide_eq_false fun e=>hc ⟨hi0,by have e:((aJ (cg t.nodes[i] k).1).length:Int)=0:=e;omega⟩
    repeat' first
   |refine⟨_,hrow,?_⟩
   |refine⟨_,hlow,?_⟩
   |refine⟨_,_,np,?_⟩
   |refine an cno ?_
   |refine ai ci ?_
   |refine⟨_,nk,?_⟩
   |refine an cl ?_
   |refine⟨(zH (aZ t k),([]:List TV)),?_,?_,rfl⟩
   |refine⟨(zH (aZ t k),([]:List TV)),?_,?_,⟨rfl,by first|rfl|trivial⟩⟩
   |exact fin (fun a b=>(a,b)=(zH (aZ t k),([]:List TV))) rfl
   |exact fin (fun r fs=>r=zH (aZ t k)∧fs=[]) ⟨rfl,by first|rfl|trivial⟩
   |(rw[es];rw[eset] at fin;exact fin (fun a b=>(a,b)=(zH (aZ t k),([]:List TV))) rfl)
   |(rw[es];rw[eset] at fin;exact fin (fun r fs=>r=zH (aZ t k)∧fs=[]) ⟨rfl,by first|rfl|trivial⟩)
   ·have ci:bK 0 (i:Int)=false:=by rw[eD];simp;omega
    repeat' first
   |refine⟨_,hrow,?_⟩
   |refine⟨_,hlow,?_⟩
   |refine⟨_,_,np,?_⟩
   |refine an cno ?_
   |refine an ci ?_
   |refine⟨(zH (aZ t k),([]:List TV)),?_,?_,rfl⟩
   |refine⟨(zH (aZ t k),([]:List TV)),?_,?_,⟨rfl,by first|rfl|trivial⟩⟩
   |exact fin (fun a b=>(a,b)=(zH (aZ t k),([]:List TV))) rfl
   |exact fin (fun r fs=>r=zH (aZ t k)∧fs=[]) ⟨rfl,by first|rfl|trivial⟩
   |(rw[es];rw[eset] at fin;exact fin (fun a b=>(a,b)=(zH (aZ t k),([]:List TV))) rfl)
   |(rw[es];rw[eset] at fin;exact fin (fun r fs=>r=zH (aZ t k)∧fs=[]) ⟨rfl,by first|rfl|trivial⟩)
theorem sq (t:Tree) (k:Key) (hz:cw t≤4194304):aa C m0 [c6 t,q7 k] (zH (aZ t k)) []:=by
 have hN:=wz hz
 have hcp:aa C cE [c6 t] (c6 t) []:=AK t hN.1 hN.2
 refine(NO _ _ _ _ _ _ _ _ ⟨_,_,hcp,_,th t (by omega),?_⟩).run
 cases h1:eJ t with
 |false=>exact ai rfl ⟨by unfold aZ;rw[if_neg (by rw[h1];simp)],rfl⟩
 |true=>
 refine an rfl ⟨_,(GJ _ _ _ _ _ _).2 rfl,?_⟩
 change az (!gX k) _ _
 cases h2:gX k with
 |false=>exact ai rfl ⟨by unfold aZ;rw[if_neg (by rw[h2];simp)],rfl⟩
 |true=>
 obtain⟨i,hi,hil⟩:=Nt h1 h2
 have hlen:=qM h1
 have hw:aa C eK [c6 t,vI k.b,vI k.a] (vI (i:Int)) []:=by rw[←hi];exact yB t k.b k.a (by omega)
 have hrow:rowAt (t.nodes.map aI) (i:Int)=some [TC.sub 1 (t.nodes[i].map bX)]:=by rw[bB,aE,List.getElem?_eq_getElem hil];rfl
 have hlow:rowAt (t.lows.map bC) (i:Int)=some [iI (t.lows.getD i 0)]:=by
  rw[bB,aE,List.getD_eq_getElem?_getD,List.getElem?_eq_getElem (by omega)];rfl
 have hg:t.nodes.getD i []=t.nodes[i]:=by rw[List.getD_eq_getElem?_getD,List.getElem?_eq_getElem hil];rfl
 have hok:=v7 h1 (List.getElem_mem hil)
 have hsz:=Eg hok
 have hps:=Db t.nodes[i] k
 have hpt:=Dc t.nodes[i] k
 have hkl:=o9 t.nodes[i] k
 have hnk:=cU t.nodes[i]
 obtain⟨hp1,hp2,hp3⟩:=T6 (k:=k) h1 hil
 have hR:aZ t k=if eJ (lA (kH t i k).nodes.length (kH t i k))=true then(lA (kH t i k).nodes.length (kH t i k),true) else(t,false):=by
  unfold aZ;rw[if_pos ⟨h1,h2⟩,hi,Int.toNat_natCast]
 have fin: ∀Q:QV,Q (zH (aZ t k)) []→ ∃(l39 l40:RR),aa C aU [c6 (kH t i k)] (.ag [.sub 1 l39,.sub 1 l40]) []∧(∃b:Bool,aa C aP [.ag [.sub 1 l39,.sub 1 l40]] (vB b) []∧(az (!b) (Q (.tu [(1,V7 t),(0,[iB false])]) []) (Q (.tu [(1,[.sub 1 l39,.sub 1 l40]),(0,[iB true])]) []))):=by
  intro Q hQ
  refine⟨_,_,Kr (kH t i k) hp2 (by omega),_,th _ (by omega),?_⟩
  rw[hR] at hQ
  cases h3:eJ (lA (kH t i k).nodes.length (kH t i k)) with
  |true=>rw[if_pos h3] at hQ;exact an rfl hQ
  |false=>rw[if_neg (by rw[h3];simp)] at hQ;exact ai rfl hQ
 have np:=IC t.nodes[i] k (by omega) (by omega)
 have hx:=uT t i [t.lows.getD i 0] [(cg t.nodes[i] k).1] (by omega) (by omega) (by omega) (by omega) (by simp) (by simp)
 refine an rfl ⟨_,hw,_,hrow,?_⟩
 cases hp:(cg t.nodes[i] k).2 with
 |false=>
  have hno:=(Nq hok h2 hp).1
  have cno:(!(cg t.nodes[i] k).2)=true:=by rw[hp];rfl
  obtain⟨ks,hks⟩: ∃ks,ks=cq t.nodes[i] k:=⟨_,rfl⟩
  rw[←hks] at hno hkl
  have hh:=Wc hno
  obtain⟨h,hhe⟩: ∃h,h=(ks.length+1)/2:=⟨_,rfl⟩
  have hq:fY .i64 (ay (Int.ofNat (List.length (ks.map bu))) 1) 2=(h:Int):=by rw[List.length_map,ac1 (by omega),hhe]
  have hkk:rowAt (ks.map bu) (h:Int)=some [iI (ks.getD h eg).b,iI (ks.getD h eg).a,iI (ks.getD h eg).k,iI (ks.getD h eg).c,iI (ks.getD h eg).g]:=by
   rw[bB,aE,List.getD_eq_getElem?_getD,List.getElem?_eq_getElem (by omega)];rfl
  have ep:kH t i k=lz t i 1 [t.lows.getD i 0,gY (ks.getD h eg).b (ks.getD h eg).a] [cC (ks.take h),cC (ks.drop h)]:=by
   unfold kH;rw[hg,if_neg (by rw[hp];simp),←hks,←hhe]
  have rp:=uT t i [t.lows.getD i 0,gY (ks.getD h eg).b (ks.getD h eg).a] [cC (ks.take h),cC (ks.drop h)] (by omega) (by omega) (by omega) (by omega) (by simp) (by simp)
  rw[←ep] at rp
  have e1:aA (ks.map bu) 0 (h:Int)=(ks.take h).map bu:=by rw[cu];rfl
  have e2:aA (ks.map bu) (h:Int) (Int.ofNat (List.length (ks.map bu)))=(ks.drop h).map bu:=by
   rw[cu,List.length_map,Int.toNat_natCast,show(Int.ofNat ks.length).toNat=ks.length from rfl,List.take_length]
  have nn1:aa C aL [.c (.sub 5 (aA (ks.map bu) 0 (h:Int)))] (gx (cC (ks.take h))) []:=by rw[e1];exact jt _ (by rw[List.length_take];omega)
  have nn2:aa C aL [.c (.sub 5 (aA (ks.map bu) (h:Int) (Int.ofNat (List.length (ks.map bu)))))] (gx (cC (ks.drop h))) []:=by rw[e2];exact jt _ (by rw[List.length_drop];omega)
  have c1:eT 0 (h:Int) (Int.ofNat (List.length (ks.map bu)))=true:=by rw[C3];simp;omega
  have c2:eT (h:Int) (Int.ofNat (List.length (ks.map bu))) (Int.ofNat (List.length (ks.map bu)))=true:=by rw[C3];simp;omega
  have kw:aa C dz [cH (fH (aJ t.nodes[i]) k)] (cH ks) []:=by
   rw[hks];exact x8 (fH (aJ t.nodes[i]) k) (by have:=oS (aJ t.nodes[i]) k;omega)
  clear hks hhe hR
  repeat' first
   |refine⟨_,hrow,?_⟩
   |refine⟨_,hlow,?_⟩
   |refine⟨_,_,np,?_⟩
   |refine⟨_,_,hx,?_⟩
   |refine ai cno ?_
   |refine⟨_,kw,?_⟩
   |refine⟨_,(eO t.nodes[i] (by omega) (by omega) _).2 rfl,?_⟩
   |refine⟨_,ni (aJ t.nodes[i]) k (by omega),?_⟩
   |refine an (by rw[aD];rfl) ?_
   |rw[hq]
   |refine⟨_,_,_,_,_,hkk,?_⟩
   |refine ai c1 ?_
   |refine ai c2 ?_
   |refine⟨_,(EM _ _ _ _ _ _).2 rfl,?_⟩
   |refine⟨_,nn1,?_⟩
   |refine⟨_,nn2,?_⟩
   |refine⟨_,_,rp,?_⟩
   |refine⟨(zH (aZ t k),([]:List TV)),?_,?_,rfl⟩
   |refine⟨(zH (aZ t k),([]:List TV)),?_,?_,⟨rfl,by first|rfl|trivial⟩⟩
   |exact fin (fun a b=>(a,b)=(zH (aZ t k),([]:List TV))) rfl
   |exact fin (fun r fs=>r=zH (aZ t k)∧fs=[]) ⟨rfl,by first|rfl|trivial⟩
 |true=>
  have cno:(!(cg t.nodes[i] k).2)=false:=by rw[hp];rfl
  by_cases hc:0<i∧(aJ (cg t.nodes[i] k).1).length=0
  ·have ci:bK 0 (i:Int)=true:=by rw[eD];simp;omega
   have nk:=(eO (cg t.nodes[i] k).1 (by omega) (by omega) _).2 rfl
   have cl:dB (Int.ofNat (List.length ((aJ (cg t.nodes[i] k).1).map bu))) 0=true:=by rw[aD,List.length_map,hc.2];rfl
   have ep:kH t i k=lz t i 1 [] []:=by unfold kH;rw[hg,if_pos hp,if_pos hc]
   have rp:=uT t i [] [] (by omega) (by omega) (by omega) (by omega) (by simp) (by simp)
   rw[←ep] at rp
   clear hR
   repeat' first
   |refine⟨_,hrow,?_⟩
   |refine⟨_,hlow,?_⟩
   |refine⟨_,_,np,?_⟩
   |refine⟨_,_,hx,?_⟩
   |refine an cno ?_
   |refine ai ci ?_
   |refine⟨_,nk,?_⟩
   |refine ai cl ?_
   |refine⟨_,_,rp,?_⟩
   |refine⟨(zH (aZ t k),([]:List TV)),?_,?_,rfl⟩
   |refine⟨(zH (aZ t k),([]:List TV)),?_,?_,⟨rfl,by first|rfl|trivial⟩⟩
   |exact fin (fun a b=>(a,b)=(zH (aZ t k),([]:List TV))) rfl
   |exact fin (fun r fs=>r=zH (aZ t k)∧fs=[]) ⟨rfl,by first|rfl|trivial⟩
  ·have ep:lz t i 1 [t.lows.getD i 0] [(cg t.nodes[i] k).1]=kH t i k:=by
    unfold kH;rw[hg,if_pos hp,if_neg hc]
   rw[ep] at hx
   clear hR
   by_cases hi0:0<i
   ·have ci:bK 0 (i:Int)=true:=by rw[eD];simp;omega
    have nk:=(eO (cg t.nodes[i] k).1 (by omega) (by omega) _).2 rfl
    have cl:dB (Int.ofNat (List.length ((aJ (cg t.nodes[i] k).1).map bu))) 0=false:=by
     rw[aD,List.length_map];exact decide_eq_false fun e=>hc ⟨hi0,by have e:((aJ (cg t.nodes[i] k).1).length:Int)=0:=e;omega⟩
    repeat' first
   |refine⟨_,hrow,?_⟩
   |refine⟨_,hlow,?_⟩
   |refine⟨_,_,np,?_⟩
   |refine⟨_,_,hx,?_⟩
   |refine an cno ?_
   |refine ai ci ?_
   |refine⟨_,nk,?_⟩
   |refine an cl ?_
   |refine⟨(zH (aZ t k),([]:List TV)),?_,?_,rfl⟩
   |refine⟨(zH (aZ t k),([]:List TV)),?_,?_,⟨rfl,by first|rfl|trivial⟩⟩
   |exact fin (fun a b=>(a,b)=(zH (aZ t k),([]:List TV))) rfl
   |exact fin (fun r fs=>r=zH (aZ t k)∧fs=[]) ⟨rfl,by first|rfl|trivial⟩
   ·have ci:bK 0 (i:Int)=false:=by rw[eD];simp;omega
    repeat' first
   |refine⟨_,hrow,?_⟩
   |refine⟨_,hlow,?_⟩
   |refine⟨_,_,np,?_⟩
   |refine⟨_,_,hx,?_⟩
   |refine an cno ?_
   |refine an ci ?_
   |refine⟨(zH (aZ t k),([]:List TV)),?_,?_,rfl⟩
   |refine⟨(zH (aZ t k),([]:List TV)),?_,?_,⟨rfl,by first|rfl|trivial⟩⟩
   |exact fin (fun a b=>(a,b)=(zH (aZ t k),([]:List TV))) rfl
   |exact fin (fun r fs=>r=zH (aZ t k)∧fs=[]) ⟨rfl,by first|rfl|trivial⟩
theorem ID (p:Pool) (k:Key) (b:Bool) (hc:p.cells.length≤1073741824):aa C Ao [.bx (jT p),q7 k,vB b] (.tu []) [.bx (jT ⟨p.t,p.ages,if b=true∧k.k=1 then gM p.cells k.c else p.cells,p.vols,p.next⟩)]:=by
 refine(NT _ _ _ _ _ _ _ _ _ _ _ _ _ ?_).run
 cases b with
 |false=>exact an rfl ⟨rfl,by first|rfl|trivial⟩
 |true=>
  refine ai rfl ?_
  by_cases h:k.k=1
  ·exact ai (by rw[aD];exact decide_eq_true h) ⟨_,GM p.cells k.c hc,rfl,by rw[if_pos ⟨rfl,h⟩]⟩
  ·exact an (by rw[aD];exact decide_eq_false h) ⟨rfl,by rw[if_neg fun e=>h e.2]⟩
theorem Kt (p:Pool) (hS:cY p≤4194304) (k:Key):aa C Dm [.bx (jT p),q7 k] (vB (iU p k).2) [.bx (jT (iU p k).1)]:=by
 have hP:=fo hS
 have ta:=AI p.t k.b k.a (by omega)
 have tp:=sq p.t k (by omega)
 obtain⟨T,b,hT⟩: ∃T b,aZ p.t k=(T,b):=⟨_,_,rfl⟩
 obtain⟨o,f,hO⟩: ∃o f,uJ p.t k.b k.a=(o,f):=⟨_,_,rfl⟩
 have e:iU p k=if b=true then(⟨T,p.ages,if f=true∧o.k=1 then gM p.cells o.c else p.cells,p.vols,p.next⟩,true) else(p,false):=by
  unfold iU Df;rw[hT,hO]
 have hno:=Ff (t:=p.t) (k:=k)
 rw[hT] at tp hno
 rw[hO] at ta
 rw[e]
 refine(Pc _ _ _ _ _ _ _ _ _ _ _ _ ?_).run
 cases b with
 |false=>
  have hno:T=p.t:=hno rfl
  subst hno
  rw[if_neg (by simp)]
  repeat' first
   |refine⟨_,_,_,_,_,_,ta,?_⟩
   |refine⟨_,_,_,tp,?_⟩
   |refine⟨(vB false,[TV.bx (jT p)]),?_,?_,rfl⟩
   |refine⟨(vB false,[TV.bx (jT p)]),?_,?_,⟨rfl,by first|rfl|trivial⟩⟩
   |exact rfl
   |exact⟨rfl,by first|rfl|trivial⟩
   |refine ai (by first|rfl|(rw[aD];rfl)) ?_
   |refine an (by first|rfl|(rw[aD];rfl)) ?_
 |true=>
  rw[if_pos rfl]
  have dr:=ID ⟨T,p.ages,p.cells,p.vols,p.next⟩ o f (by simp only[];omega)
  repeat' first
   |refine⟨_,_,_,_,_,_,ta,?_⟩
   |refine⟨_,_,_,tp,?_⟩
   |refine⟨_,_,_,_,_,_,dr,?_⟩
   |refine⟨(vB true,[TV.bx (jT ⟨T,p.ages,if f=true∧o.k=1 then gM p.cells o.c else p.cells,p.vols,p.next⟩)]),?_,?_,rfl⟩
   |refine⟨(vB true,[TV.bx (jT ⟨T,p.ages,if f=true∧o.k=1 then gM p.cells o.c else p.cells,p.vols,p.next⟩)]),?_,?_,⟨rfl,by first|rfl|trivial⟩⟩
   |exact rfl
   |exact⟨rfl,by first|rfl|trivial⟩
   |refine ai (by first|rfl|(rw[aD];rfl)) ?_
   |refine an (by first|rfl|(rw[aD];rfl)) ?_
theorem CF (p:Pool) (hS:cY p≤4194304) (k:Key):aa C rH [.bx (jT p),q7 k] (vB (iU p k).2) [.bx (jT (iU p k).1)]:=by
 have hP:=fo hS
 have ta:=tr p.t k.b k.a (by omega)
 have tp:=so p.t k (by omega)
 obtain⟨T,b,hT⟩: ∃T b,aZ p.t k=(T,b):=⟨_,_,rfl⟩
 obtain⟨o,f,hO⟩: ∃o f,uJ p.t k.b k.a=(o,f):=⟨_,_,rfl⟩
 have e:iU p k=if b=true then(⟨T,p.ages,if f=true∧o.k=1 then gM p.cells o.c else p.cells,p.vols,p.next⟩,true) else(p,false):=by
  unfold iU Df;rw[hT,hO]
 have hno:=Ff (t:=p.t) (k:=k)
 rw[hT] at tp hno
 rw[hO] at ta
 rw[e]
 refine(Et _ _ _ _ _ _ _ _ _ _ _ _ ?_).run
 cases b with
 |false=>
  have hno:T=p.t:=hno rfl
  subst hno
  rw[if_neg (by simp)]
  repeat' first
   |refine⟨_,_,_,_,_,_,ta,?_⟩
   |refine⟨_,_,_,tp,?_⟩
   |refine⟨(vB false,[TV.bx (jT p)]),?_,?_,rfl⟩
   |refine⟨(vB false,[TV.bx (jT p)]),?_,?_,⟨rfl,by first|rfl|trivial⟩⟩
   |exact rfl
   |exact⟨rfl,by first|rfl|trivial⟩
   |refine ai (by first|rfl|(rw[aD];rfl)) ?_
   |refine an (by first|rfl|(rw[aD];rfl)) ?_
 |true=>
  rw[if_pos rfl]
  cases f with
  |false=>
   rw[if_neg (by simp)]
   repeat' first
    |refine⟨_,_,_,_,_,_,ta,?_⟩
    |refine⟨_,_,_,tp,?_⟩
    |refine⟨(vB true,[TV.bx (jT ⟨T,p.ages,p.cells,p.vols,p.next⟩)]),?_,?_,rfl⟩
    |refine⟨(vB true,[TV.bx (jT ⟨T,p.ages,p.cells,p.vols,p.next⟩)]),?_,?_,⟨rfl,by first|rfl|trivial⟩⟩
    |exact rfl
    |exact⟨rfl,by first|rfl|trivial⟩
    |refine ai (by first|rfl|(rw[aD];rfl)) ?_
    |refine an (by first|rfl|(rw[aD];rfl)) ?_
  |true=>
   by_cases ho:o.k=1
   ·rw[if_pos ⟨rfl,ho⟩]
    have ce:dB o.k 1=true:=by rw[aD];exact decide_eq_true ho
    have fc:=GN p.cells o.c (by omega)
    repeat' first
     |refine⟨_,_,_,_,_,_,ta,?_⟩
     |refine⟨_,_,_,tp,?_⟩
     |refine ai ce ?_
     |refine⟨_,fc,?_⟩
     |refine⟨(vB true,[TV.bx (jT ⟨T,p.ages,gM p.cells o.c,p.vols,p.next⟩)]),?_,?_,rfl⟩
     |refine⟨(vB true,[TV.bx (jT ⟨T,p.ages,gM p.cells o.c,p.vols,p.next⟩)]),?_,?_,⟨rfl,by first|rfl|trivial⟩⟩
     |exact rfl
     |exact⟨rfl,by first|rfl|trivial⟩
     |refine ai (by first|rfl|(rw[aD];rfl)) ?_
     |refine an (by first|rfl|(rw[aD];rfl)) ?_
   ·rw[if_neg fun e=>ho e.2]
    have ce:dB o.k 1=false:=by rw[aD];exact decide_eq_false ho
    repeat' first
     |refine⟨_,_,_,_,_,_,ta,?_⟩
     |refine⟨_,_,_,tp,?_⟩
     |refine an ce ?_
     |refine⟨(vB true,[TV.bx (jT ⟨T,p.ages,p.cells,p.vols,p.next⟩)]),?_,?_,rfl⟩
     |refine⟨(vB true,[TV.bx (jT ⟨T,p.ages,p.cells,p.vols,p.next⟩)]),?_,?_,⟨rfl,by first|rfl|trivial⟩⟩
     |exact rfl
     |exact⟨rfl,by first|rfl|trivial⟩
     |refine ai (by first|rfl|(rw[aD];rfl)) ?_
     |refine an (by first|rfl|(rw[aD];rfl)) ?_
theorem rL {p:Pool} {x:Pool×Bool} (h:x.2=false):EG p x=(p,false):=by
 unfold EG;rw[if_neg fun e=>by rw[h] at e;cases e.1]
theorem qX {p:Pool} {x:Pool×Bool} (h:jh x.1=false):EG p x=(p,false):=by
 unfold EG;rw[if_neg fun e=>by rw[h] at e;cases e.2]
theorem qY {p:Pool} {x:Pool×Bool} (h1:x.2=true) (h2:jh x.1=true):EG p x=(x.1,true):=by
 unfold EG;rw[if_pos ⟨h1,h2⟩]
theorem J1 {l:List Age} {id:Int} {a:Age} (h:gV l=true) (ha:fP l (ee l id)=some a):qN l id=((mg l id a.fr).take (ee l id).toNat++(mg l id a.fr).drop ((ee l id).toNat+1),true):=by
 unfold qN;rw[if_pos h,ha]
theorem J2 {l:List Age} {id:Int} (ha:fP l (ee l id)=none):qN l id=(l,false):=by
 unfold qN
 split
 ·rw[ha]
 ·rfl
theorem NG {l:List Age} {id:Int} (h:gV l=false):qN l id=(l,false):=by
 unfold qN;rw[if_neg (by rw[h];simp)]
theorem NH {α:Type} (f:α→α): ∀(l1:List α) (x:α) (l2:List α),(l1++x::l2).modify l1.length f=l1++f x::l2
 |[],x,l2=>List.modify_zero_cons _ _ _
 |a::r,x,l2=>by rw[List.cons_append,List.length_cons,List.modify_succ_cons,NH f r x l2];rfl
theorem Vq {l:List Age} {id fr:Int} {j:Nat} {x:Age} (h:l[j]?=some x):(mg l id fr)[j]?=some (if x.fr=id then {x with fr:=fr} else x):=by
 unfold mg;rw[List.getElem?_map,h];rfl
theorem Ku (l:List Age) (id:Int) (hl:l.length≤1073741800):aa C dH [fE l,vI id] (TV.tu [(0,[TC.sub 2 ((qN l id).1.map bV)]),(0,[iB (qN l id).2])]) []:=by
 have hat:=rI l id (by omega)
 have hok:aa C dw [fE l] (vB (gV l)) []:=AF l (by omega)
 have hcp:(bR (l.map bV)&&fits (Nat.add 0 (List.length (l.map bV))) 16)=true:=by rw[yx,cW (by simp<;>omega)];rfl
 refine(PA _ _ _ ?_).run
 by_cases h1:ee l id<0
 ·have cl:bK (ee l id) 0=true:=by rw[eD];exact decide_eq_true h1
  rw[J2 (o7 (by omega))]
  repeat' first
   |refine⟨_,hat,?_⟩
   |refine ai cl ?_
   |refine ai hcp ?_
   |exact rfl
   |exact⟨rfl,by first|rfl|trivial⟩
   |refine ai (by first|rfl|(rw[aD];rfl)) ?_
   |refine an (by first|rfl|(rw[aD];rfl)) ?_
 ·have cl:bK (ee l id) 0=false:=by rw[eD];exact decide_eq_false h1
  cases hg:gV l with
  |false=>
   rw[hg] at hok
   rw[NG hg]
   repeat' first
    |refine⟨_,hat,?_⟩
    |refine an cl ?_
    |refine⟨_,hok,?_⟩
    |refine ai hcp ?_
    |exact rfl
    |exact⟨rfl,by first|rfl|trivial⟩
    |refine ai (by first|rfl|(rw[aD];rfl)) ?_
    |refine an (by first|rfl|(rw[aD];rfl)) ?_
  |true=>
   rw[hg] at hok
   obtain⟨a,ha,_⟩:=Ee l id h1
   rw[J1 hg ha]
   have hlt:=TM l id
   obtain⟨k,hk⟩: ∃k:Nat,ee l id=k:=⟨(ee l id).toNat,by omega⟩
   rw[hk] at hat ha cl hlt ⊢
   rw[Int.toNat_natCast]
   have hra:rowAt (l.map bV) (k:Int)=some [iI a.id,iI a.fr]:=by rw[bB,ha];rfl
   obtain⟨W,hW⟩: ∃W,W=mg l id a.fr:=⟨_,rfl⟩
   have hWl:W.length=l.length:=by rw[hW];exact Ai _ _ _
   rw[←hW]
   obtain⟨U,hU⟩: ∃U,U=W.take k++W.drop (k+1):=⟨_,rfl⟩
   have hUl:U.length≤l.length:=by rw[hU,List.length_append,List.length_take,List.length_drop];omega
   rw[←hU]
   have key: ∀acc:List Age,acc++(if 0≤k then(W.drop 0).take (k-0)++W.drop (k+1) else W.drop 0)=U→ah C dH bh 4 0 (fA (l.map bV) id (k:Int) ((0:Nat):Int) (acc.map bV)) (fun x st=>av C dH bh x st fun r fs=>r=(TV.tu [(0,[TC.sub 2 (U.map bV)]),(0,[iB true])])∧fs=[]):=by
    refine aV l (fun j=> ∀acc:List Age,acc++(if j≤k then(W.drop j).take (k-j)++W.drop (k+1) else W.drop j)=U→ah C dH bh 4 0 (fA (l.map bV) id (k:Int) (j:Int) (acc.map bV)) (fun x st=>av C dH bh x st fun r fs=>r=(TV.tu [(0,[TC.sub 2 (U.map bV)]),(0,[iB true])])∧fs=[])) ?_ ?_
    ·intro acc h0
     have hk2: ¬l.length≤k:=by omega
     rw[if_neg hk2,←hWl,List.drop_length,List.append_nil] at h0
     exact BU _ _ _ _ _ _ (an (by simp) (K1 _ _ _ _ _ _ _ ⟨by rw[h0],rfl⟩))
    ·intro j x hj hx hd ht hn acc h0
     have hlen:=congrArg List.length h0
     rw[List.length_append] at hlen
     have hr:rowAt (l.map bV) (j:Int)=some [iI x.id,iI x.fr]:=by rw[bB,aE,hx];rfl
     have hadd:ay (j:Int) 1=(j:Int)+1:=aC (by omega)
     have hw:=Vq (id:=id) (fr:=a.fr) hx
     rw[←hW] at hw
     obtain⟨y,hy⟩: ∃y:Age,y=if x.fr=id then {x with fr:=a.fr} else x:=⟨_,rfl⟩
     rw[←hy] at hw
     obtain⟨hjw,hwe⟩:=List.getElem?_eq_some_iff.1 hw
     have hdw:W.drop j=y::W.drop (j+1):=by rw[List.drop_eq_getElem_cons hjw,hwe]
     have nx: ¬j=k→ah C dH bh 4 0 (fA (l.map bV) id (k:Int) ((j:Int)+1) ((acc++[y]).map bV)) (fun x st=>av C dH bh x st fun r fs=>r=(TV.tu [(0,[TC.sub 2 (U.map bV)]),(0,[iB true])])∧fs=[]):=by
      intro hne
      refine hn (acc++[y]) ?_
      rw[←h0]
      by_cases h:j≤k
      ·rw[if_pos h,if_pos (by omega),hdw,show k-j=(k-(j+1))+1 from by omega,List.take_succ_cons];simp
      ·rw[if_neg h,if_neg (by omega),hdw];simp
     have sk:j=k→ah C dH bh 4 0 (fA (l.map bV) id (k:Int) ((j:Int)+1) (acc.map bV)) (fun x st=>av C dH bh x st fun r fs=>r=(TV.tu [(0,[TC.sub 2 (U.map bV)]),(0,[iB true])])∧fs=[]):=by
      intro he
      refine hn acc ?_
      rw[←h0,he,if_pos (Nat.le_refl _),if_neg (by omega),Nat.sub_self,List.take_zero,List.nil_append]
     refine BU _ _ _ _ _ _ (ai (by simp<;>omega) ⟨_,_,hr,?_⟩)
     rw[hadd]
     have hfit: ∀u v:Int,(bR [[iI u,iI v]]&&fits (Nat.succ (List.length (acc.map bV))) 16)=true:=fun u v=>by rw[Nl,cW (by simp<;>omega)];rfl
     by_cases hf:x.fr=id
     ·rw[if_pos hf] at hy
      subst hy
      refine ai (by rw[aD];exact decide_eq_true hf) ⟨_,_,hra,?_⟩
      rw[Wa]
      by_cases hjk:j=k
      ·exact an (by rw[aD,hjk];simp) (sk hjk)
      ·exact ai (by rw[aD];simp;omega) (ai (hfit _ _) (nx hjk))
     ·rw[if_neg hf] at hy
      subst hy
      refine an (by rw[aD];exact decide_eq_false hf) ?_
      rw[Wa]
      by_cases hjk:j=k
      ·exact an (by rw[aD,hjk];simp) (sk hjk)
      ·exact ai (by rw[aD];simp;omega) (ai (hfit _ _) (nx hjk))
   have k0:=key [] (by rw[if_pos (Nat.zero_le _),List.nil_append,List.drop_zero,Nat.sub_zero,hU])
   repeat' first
    |exact k0
    |refine⟨_,hat,?_⟩
    |refine an cl ?_
    |refine⟨_,hok,?_⟩
    |exact rfl
    |exact⟨rfl,by first|rfl|trivial⟩
    |refine ai (by first|rfl|(rw[aD];rfl)) ?_
    |refine an (by first|rfl|(rw[aD];rfl)) ?_
theorem NI (l:List Age) (k:Nat) (hk:k<l.length):aa C wk [fE l,vI (k:Int),vI ((k:Int)+1)] (fE (l.take k++l.drop (k+1))) []:=by
 refine aa.ext (p:=Y5 2) rfl ?_
 unfold Y5
 simp only[]
 rw[if_pos ⟨trivial,by omega,by simp<;>omega,trivial⟩,Int.toNat_natCast,show((k:Int)+1).toNat=k+1 from by omega]
 unfold fE
 rw[List.map_append,List.map_take,List.map_drop]
theorem Kv (l:List Age) (id:Int) (hl:l.length≤1073741800):aa C gP [fE l,vI id] (TV.tu [(0,[TC.sub 2 ((qN l id).1.map bV)]),(0,[iB (qN l id).2])]) []:=by
 have hat:=uR l id (by omega)
 have hcp:=wq l (by omega)
 have hok:aa C dx [fE l] (vB (gV l)) []:=AG l (by omega)
 refine(PK _ _ _ ?_).run
 by_cases h1:ee l id<0
 ·have cl:bK (ee l id) 0=true:=by rw[eD];exact decide_eq_true h1
  rw[J2 (o7 (by omega))]
  repeat' first
   |refine⟨_,hat,?_⟩
   |refine⟨_,hcp,?_⟩
   |refine ai cl ?_
   |exact rfl
   |exact⟨rfl,by first|rfl|trivial⟩
   |refine ai (by first|rfl|(rw[aD];rfl)) ?_
   |refine an (by first|rfl|(rw[aD];rfl)) ?_
 ·have cl:bK (ee l id) 0=false:=by rw[eD];exact decide_eq_false h1
  cases hg:gV l with
  |false=>
   rw[hg] at hok
   rw[NG hg]
   repeat' first
    |refine⟨_,hat,?_⟩
    |refine⟨_,hcp,?_⟩
    |refine an cl ?_
    |refine⟨_,hok,?_⟩
    |exact rfl
    |exact⟨rfl,by first|rfl|trivial⟩
    |refine ai (by first|rfl|(rw[aD];rfl)) ?_
    |refine an (by first|rfl|(rw[aD];rfl)) ?_
  |true=>
   rw[hg] at hok
   obtain⟨a,ha,_⟩:=Ee l id h1
   rw[J1 hg ha]
   have hlt:=TM l id
   obtain⟨k,hk⟩: ∃k:Nat,ee l id=k:=⟨(ee l id).toNat,by omega⟩
   rw[hk] at hat ha cl hlt ⊢
   rw[Int.toNat_natCast]
   have hra:rowAt (l.map bV) (k:Int)=some [iI a.id,iI a.fr]:=by rw[bB,ha];rfl
   have key: ∀M:List Age,M=mg (l.take 0) id a.fr++l.drop 0→ah C gP bh 4 0 (kN (l.map bV) id (k:Int) (l.map bV) ((0:Nat):Int) (M.map bV)) (fun x st=>av C gP bh x st fun r fs=>r=(TV.tu [(0,[TC.sub 2 (((mg l id a.fr).take k++(mg l id a.fr).drop (k+1)).map bV)]),(0,[iB true])])∧fs=[]):=by
    refine aV l (fun j=> ∀M:List Age,M=mg (l.take j) id a.fr++l.drop j→ah C gP bh 4 0 (kN (l.map bV) id (k:Int) (l.map bV) (j:Int) (M.map bV)) (fun x st=>av C gP bh x st fun r fs=>r=(TV.tu [(0,[TC.sub 2 (((mg l id a.fr).take k++(mg l id a.fr).drop (k+1)).map bV)]),(0,[iB true])])∧fs=[])) ?_ ?_
    ·intro M hM
     rw[List.take_length,List.drop_length,List.append_nil] at hM
     subst hM
     have hdl:=NI (mg l id a.fr) k (by rw[Ai];omega)
     have hadd:ay (k:Int) 1=(k:Int)+1:=aC (by omega)
     rw[←hadd] at hdl
     exact B3 _ _ _ _ _ _ _ (an (by simp) (Lc _ _ _ _ _ _ _ _ ⟨_,hdl,rfl,rfl⟩))
    ·intro j x hj hx hd ht hn M hM
     have hml:(mg (l.take j) id a.fr).length=j:=by rw[Ai,List.length_take];omega
     have hmj:M[j]?=some x:=by rw[hM,List.getElem?_append_right (by omega),hml,Nat.sub_self,hd];rfl
     have hr:rowAt (M.map bV) (j:Int)=some [iI x.id,iI x.fr]:=by rw[bB,aE,hmj];rfl
     have hadd:ay (j:Int) 1=(j:Int)+1:=aC (by omega)
     have hre:mg (l.take (j+1)) id a.fr=mg (l.take j) id a.fr++[if x.fr=id then {x with fr:=a.fr} else x]:=by
      rw[ht];unfold mg;rw[List.map_append];rfl
     refine B3 _ _ _ _ _ _ _ (ai (by simp<;>omega) ⟨_,_,hr,_,_,hr,?_⟩)
     rw[hadd]
     by_cases hf:x.fr=id
     ·refine ai (by rw[aD];exact decide_eq_true hf) ⟨_,_,hra,_,_,hr,_,_,hr,?_⟩
      rw[Q8]
      refine hn _ ?_
      rw[hre,if_pos hf,hM,hd,Int.toNat_natCast]
      have hmm:=NH (fun z:Age=>{z with fr:=a.fr}) (mg (l.take j) id a.fr) x (l.drop (j+1))
      rw[hml] at hmm
      rw[hmm]
      simp
     ·refine an (by rw[aD];exact decide_eq_false hf) (hn M ?_)
      rw[hre,if_neg hf,hM,hd];simp
   have k0:=key l rfl
   repeat' first
    |exact k0
    |refine⟨_,hat,?_⟩
    |refine⟨_,hcp,?_⟩
    |refine an cl ?_
    |refine⟨_,hok,?_⟩
    |exact rfl
    |exact⟨rfl,by first|rfl|trivial⟩
    |refine ai (by first|rfl|(rw[aD];rfl)) ?_
    |refine an (by first|rfl|(rw[aD];rfl)) ?_
theorem DF (p:Pool):ck p=(0,0)∨(∃i k,(ck p=(1,i)∨ck p=(2,i))∧fP (aB p.t) i=some k)∨
 (∃i k x,ck p=(3,i)∧fP (aB p.t) i=some k∧fP (cZ p.ages k.a) 0=some x∧yA p k.a=x)∨ ∃i a,ck p=(4,i)∧fP p.ages i=some a:=by
 unfold ck
 split
 ·split
  ·rename_i h
   obtain⟨k,hk,_⟩:=C7 (oc p 1) (aB p.t) (by unfold jK at h;omega)
   exact .inr (.inl ⟨_,k,.inl rfl,hk⟩)
  ·split
   ·rename_i h
    obtain⟨k,hk,_⟩:=C7 (oc p 2) (aB p.t) (by unfold jK at h;omega)
    exact .inr (.inl ⟨_,k,.inr rfl,hk⟩)
   ·split
    ·rename_i h
     obtain⟨k,hk,h3⟩:=C7 (oc p 3) (aB p.t) (by unfold jK at h;omega)
     have h3:Rc p k=true:=h3
     unfold Rc at h3
     split at h3
     ·cases h3
     ·rename_i h0
      have hx: ∃x,fP (cZ p.ages k.a) 0=some x∧yA p k.a=x:=by
       unfold yA at h0 ⊢
       split
       ·rename_i hh
        obtain⟨x,hx⟩:=o6 (l:=cZ p.ages k.a) (i:=0) (by omega) (by omega)
        exact⟨x,hx,by rw[hx]⟩
       ·rename_i hh;rw[if_neg hh] at h0;exact absurd rfl h0
      obtain⟨x,hx1,hx2⟩:=hx
      exact .inr (.inr (.inl ⟨_,k,x,rfl,hk,hx1,hx2⟩))
    ·split
     ·rename_i h
      obtain⟨a,ha,_⟩:=C7 (qi p) p.ages (by unfold Fa at h;omega)
      exact .inr (.inr (.inr ⟨_,a,rfl,ha⟩))
     ·exact .inl rfl
 ·exact .inl rfl
theorem Ua (p:Pool) (k:Key):cY (v8 p k).1≤cY p+520:=by
 have h1:=uK p.t (dW k)
 have h2:=uK (aZ p.t (dW k)).1 (Aj p k)
 unfold v8 cY;simp only[];omega
theorem We (p:Pool) (id:Int):cY (OJ p id).1≤cY p:=by
 have:=Vh p.ages id
 unfold OJ cY;simp only[];omega
theorem lK {p:Pool} {j i:Int} {X:Pool×Bool} (h:ck p=(j,i)) (hj: ¬j=0) (hX:JX p j i=X):jY p=EG p X:=by
 unfold jY;rw[h,if_neg hj,hX]
theorem Em {p:Pool} {j i:Int} {k:Key} (hj:j=1∨j=2) (hk:fP (aB p.t) i=some k):JX p j i=iU p (dW k):=by
 unfold JX Mq
 rw[if_neg (by omega),if_neg (by omega),hk]
theorem NJ {p:Pool} {i:Int} {k:Key} (hk:fP (aB p.t) i=some k):JX p 3 i=v8 p k:=by
 unfold JX Mq
 rw[if_neg (by omega),if_pos rfl,hk]
theorem Rl {p:Pool} {i:Int} {a:Age} (ha:fP p.ages i=some a):JX p 4 i=OJ p a.id:=by
 unfold JX
 rw[if_pos rfl,ha]
theorem yD (p:Pool) (hS:cY p≤4194304) (k:Key):aa C ud [.bx (jT p),q7 k] (vB (iU p (dW k)).2) [.bx (jT (iU p (dW k)).1)]:=
 (Oq _ _ _ _ _ _ _ _ _ _ _ _ ⟨_,_,_,_,_,_,_,Kt p hS (dW k),rfl,by first|rfl|trivial⟩).run
theorem pR (p:Pool) (hS:cY p≤4194304) (j i:Int) (k:Key) (hj:j=1∨j=2) (hk:fP (aB p.t) i=some k):aa C lF [.bx (jT p),vI j,vI i] (vB (iU p (dW k)).2) [.bx (jT (iU p (dW k)).1)]:=by
 have hP:=fo hS
 have htl:=eI p.t
 have hkk:=jr p.t (by omega)
 have hrk:rowAt ((aB p.t).map bu) i=some [iI k.b,iI k.a,iI k.k,iI k.c,iI k.g]:=by rw[bB,hk];rfl
 have pk:=CF p hS (dW k)
 generalize iU p (dW k)=X at*
 refine(mB _ _ _ _ _ _ _ _ _ ?_).run
 have c1:dB j 4=false:=by rw[aD];exact decide_eq_false (by omega)
 have c2:(!dB j 3)=true:=by rw[aD,decide_eq_false (by omega)];rfl
 repeat' first
  |refine an c1 ?_
  |refine ai c2 ?_
  |refine⟨_,hkk,?_⟩
  |refine⟨_,_,_,_,_,hrk,?_⟩
  |refine⟨_,_,_,_,_,_,_,pk,?_⟩
  |exact rfl
  |exact⟨rfl,by first|rfl|trivial⟩
theorem vD (p:Pool) (hS:cY p≤4194304) (i:Int) (a:Age) (ha:fP p.ages i=some a):aa C lF [.bx (jT p),vI 4,vI i] (vB (OJ p a.id).2) [.bx (jT (OJ p a.id).1)]:=by
 have hP:=fo hS
 have hra:rowAt (p.ages.map bV) i=some [iI a.id,iI a.fr]:=by rw[bB,ha];rfl
 have ca:=Kv p.ages a.id (by omega)
 refine(mB _ _ _ _ _ _ _ _ _ ?_).run
 unfold OJ
 repeat' first
  |refine⟨_,_,hra,?_⟩
  |refine⟨_,_,ca,?_⟩
  |exact rfl
  |exact⟨rfl,by first|rfl|trivial⟩
  |refine ai (by first|rfl|(rw[aD];rfl)) ?_
  |refine an (by first|rfl|(rw[aD];rfl)) ?_
theorem uU (p:Pool) (hS:cY p≤4194304) (i:Int) (k:Key) (x:Int) (hk:fP (aB p.t) i=some k) (hx:fP (cZ p.ages k.a) 0=some x) (he:yA p k.a=x): ∃X:Pool,aa C lF [.bx (jT p),vI 3,vI i] (vB (v8 p k).2) [.bx (jT X)]∧((v8 p k).2=true→X=(v8 p k).1):=by
 have hP:=fo hS
 have htl:=eI p.t
 have hkk:=jr p.t (by omega)
 have hkd:=qk p.ages k.a (by omega)
 have hrk:rowAt ((aB p.t).map bu) i=some [iI k.b,iI k.a,iI k.k,iI k.c,iI k.g]:=by rw[bB,hk];rfl
 have hrx:rowAt ((cZ p.ages k.a).map bC) 0=some [iI x]:=by rw[bB,hx];rfl
 have h1:=uK p.t (dW k)
 have tp:=so p.t (dW k) (by omega)
 have tq:=so (aZ p.t (dW k)).1 (Aj p k) (by omega)
 have hkk2:Aj p k=⟨k.b,x,k.k,k.c,k.g⟩:=by unfold Aj;rw[he]
 rw[hkk2] at tq
 unfold v8
 rw[hkk2]
 obtain⟨T,b,hT⟩: ∃T b,aZ p.t (dW k)=(T,b):=⟨_,_,rfl⟩
 rw[hT] at tp tq ⊢
 obtain⟨U,c,hU⟩: ∃U c,aZ T ⟨k.b,x,k.k,k.c,k.g⟩=(U,c):=⟨_,_,rfl⟩
 simp only[] at tq ⊢
 rw[hU] at tq ⊢
 simp only[]
 cases b with
 |false=>
  refine⟨p,?_,fun h=>by cases h⟩
  refine(mB _ _ _ _ _ _ _ _ _ ?_).run
  repeat' first
   |refine⟨_,hkk,?_⟩
   |refine⟨_,_,_,_,_,hrk,?_⟩
   |refine⟨_,hkd,?_⟩
   |refine⟨_,hrx,?_⟩
   |refine⟨_,_,_,tp,?_⟩
   |refine⟨_,_,_,tq,?_⟩
   |refine⟨(vB false,[TV.bx (jT p)]),?_,?_,rfl⟩
   |refine⟨(vB false,[TV.bx (jT p)]),?_,?_,⟨rfl,by first|rfl|trivial⟩⟩
   |exact rfl
   |exact⟨rfl,by first|rfl|trivial⟩
   |refine ai (by first|rfl|(rw[aD];rfl)) ?_
   |refine an (by first|rfl|(rw[aD];rfl)) ?_
 |true=>
  refine⟨⟨U,p.ages,p.cells,p.vols,p.next⟩,?_,fun _=>rfl⟩
  refine(mB _ _ _ _ _ _ _ _ _ ?_).run
  repeat' first
   |refine⟨_,hkk,?_⟩
   |refine⟨_,_,_,_,_,hrk,?_⟩
   |refine⟨_,hkd,?_⟩
   |refine⟨_,hrx,?_⟩
   |refine⟨_,_,_,tp,?_⟩
   |refine⟨_,_,_,tq,?_⟩
   |refine⟨(vB c,[TV.bx (jT ⟨U,p.ages,p.cells,p.vols,p.next⟩)]),?_,?_,rfl⟩
   |refine⟨(vB c,[TV.bx (jT ⟨U,p.ages,p.cells,p.vols,p.next⟩)]),?_,?_,⟨rfl,by first|rfl|trivial⟩⟩
   |exact rfl
   |exact⟨rfl,by first|rfl|trivial⟩
   |refine ai (by first|rfl|(rw[aD];rfl)) ?_
   |refine an (by first|rfl|(rw[aD];rfl)) ?_
theorem FA (p:Pool) (hS:cY p≤1048576):aa C uL [gW p] (tPB (jY p)) []:=by
 have hS2:cY p≤4194304:=by omega
 have hP:=fo hS2
 have htl:=eI p.t
 have hcp:=IA p hS2
 have hns:=GO p hS2
 have hkk:=jq p.t (by omega)
 refine(Ji _ _ _ _ _ _ _ ?_).run
 rcases DF p with h0|⟨i,k,hn,hk⟩|⟨i,k,x,hn,hk,hx,he⟩|⟨i,a,hn,ha⟩
 ·have hps:jY p=(p,false):=by unfold jY;rw[h0];rfl
  rw[h0] at hns
  rw[hps]
  repeat' first
   |refine⟨_,_,_,_,_,_,hcp,?_⟩
   |refine⟨_,_,hns,?_⟩
   |refine⟨_,hkk,?_⟩
   |exact rfl
   |exact⟨rfl,by first|rfl|trivial⟩
   |refine ai (by first|rfl|(rw[aD];rfl)) ?_
   |refine an (by first|rfl|(rw[aD];rfl)) ?_
 ·have hrk:rowAt ((aB p.t).map bu) i=some [iI k.b,iI k.a,iI k.k,iI k.c,iI k.g]:=by rw[bB,hk];rfl
  rcases hn with hn|hn
  ·rw[hn] at hns
   have hj:(1:Int)=1∨(1:Int)=2:= .inl rfl
   have hps:=lK hn (by omega) rfl
   rw[hps]
   have hsz:=Ah p (dW k)
   have hrun:=yD p hS2 k
   rw[Em hj hk]
   generalize iU p (dW k)=X at*
   have pk:=nj X.1 (by omega)
   cases hb:X.2 with
   |false=>
    rw[hb] at hrun
    rw[rL hb]
    repeat' first
     |refine⟨_,_,_,_,_,_,hcp,?_⟩
     |refine⟨_,_,hns,?_⟩
     |refine⟨_,hkk,?_⟩
     |refine⟨_,_,_,_,_,hrk,?_⟩
     |refine⟨_,_,_,_,_,_,_,hrun,?_⟩
     |exact rfl
     |exact⟨rfl,by first|rfl|trivial⟩
     |refine ai (by first|rfl|(rw[aD];rfl)) ?_
     |refine an (by first|rfl|(rw[aD];rfl)) ?_
   |true=>
    rw[hb] at hrun
    cases hg:jh X.1 with
    |false=>
     rw[hg] at pk
     rw[qX hg]
     repeat' first
      |refine⟨_,_,_,_,_,_,hcp,?_⟩
      |refine⟨_,_,hns,?_⟩
      |refine⟨_,hkk,?_⟩
      |refine⟨_,_,_,_,_,hrk,?_⟩
      |refine⟨_,_,_,_,_,_,_,hrun,?_⟩
      |refine⟨_,pk,?_⟩
      |exact rfl
      |exact⟨rfl,by first|rfl|trivial⟩
      |refine ai (by first|rfl|(rw[aD];rfl)) ?_
      |refine an (by first|rfl|(rw[aD];rfl)) ?_
    |true=>
     rw[hg] at pk
     rw[qY hb hg]
     repeat' first
      |refine⟨_,_,_,_,_,_,hcp,?_⟩
      |refine⟨_,_,hns,?_⟩
      |refine⟨_,hkk,?_⟩
      |refine⟨_,_,_,_,_,hrk,?_⟩
      |refine⟨_,_,_,_,_,_,_,hrun,?_⟩
      |refine⟨_,pk,?_⟩
      |exact rfl
      |exact⟨rfl,by first|rfl|trivial⟩
      |refine ai (by first|rfl|(rw[aD];rfl)) ?_
      |refine an (by first|rfl|(rw[aD];rfl)) ?_
  ·rw[hn] at hns
   have hj:(2:Int)=1∨(2:Int)=2:= .inr rfl
   have hps:=lK hn (by omega) rfl
   rw[hps]
   have hsz:=Ah p (dW k)
   have hrun:=yD p hS2 k
   rw[Em hj hk]
   generalize iU p (dW k)=X at*
   have pk:=nj X.1 (by omega)
   cases hb:X.2 with
   |false=>
    rw[hb] at hrun
    rw[rL hb]
    repeat' first
     |refine⟨_,_,_,_,_,_,hcp,?_⟩
     |refine⟨_,_,hns,?_⟩
     |refine⟨_,hkk,?_⟩
     |refine⟨_,_,_,_,_,hrk,?_⟩
     |refine⟨_,_,_,_,_,_,_,hrun,?_⟩
     |exact rfl
     |exact⟨rfl,by first|rfl|trivial⟩
     |refine ai (by first|rfl|(rw[aD];rfl)) ?_
     |refine an (by first|rfl|(rw[aD];rfl)) ?_
   |true=>
    rw[hb] at hrun
    cases hg:jh X.1 with
    |false=>
     rw[hg] at pk
     rw[qX hg]
     repeat' first
      |refine⟨_,_,_,_,_,_,hcp,?_⟩
      |refine⟨_,_,hns,?_⟩
      |refine⟨_,hkk,?_⟩
      |refine⟨_,_,_,_,_,hrk,?_⟩
      |refine⟨_,_,_,_,_,_,_,hrun,?_⟩
      |refine⟨_,pk,?_⟩
      |exact rfl
      |exact⟨rfl,by first|rfl|trivial⟩
      |refine ai (by first|rfl|(rw[aD];rfl)) ?_
      |refine an (by first|rfl|(rw[aD];rfl)) ?_
    |true=>
     rw[hg] at pk
     rw[qY hb hg]
     repeat' first
      |refine⟨_,_,_,_,_,_,hcp,?_⟩
      |refine⟨_,_,hns,?_⟩
      |refine⟨_,hkk,?_⟩
      |refine⟨_,_,_,_,_,hrk,?_⟩
      |refine⟨_,_,_,_,_,_,_,hrun,?_⟩
      |refine⟨_,pk,?_⟩
      |exact rfl
      |exact⟨rfl,by first|rfl|trivial⟩
      |refine ai (by first|rfl|(rw[aD];rfl)) ?_
      |refine an (by first|rfl|(rw[aD];rfl)) ?_
 ·have hrk:rowAt ((aB p.t).map bu) i=some [iI k.b,iI k.a,iI k.k,iI k.c,iI k.g]:=by rw[bB,hk];rfl
  rw[hn] at hns
  have hps:=lK hn (by omega) (NJ hk)
  have hsz:=Ua p k
  have h1:=uK p.t (dW k)
  have tp:=sq p.t (dW k) (by omega)
  have tq:=sq (aZ p.t (dW k)).1 (Aj p k) (by omega)
  have kd:=AJ p hS2 k.a
  have pk:=nj (v8 p k).1 (by omega)
  rw[hps]
  unfold Aj at tq
  cases hb1:(aZ p.t (dW k)).2 with
  |false=>
   rw[rL (by unfold v8;simp only[];rw[hb1];rfl)]
   obtain⟨T,hT⟩: ∃T,aZ p.t (dW k)=(T,false):=⟨(aZ p.t (dW k)).1,by rw[←hb1]⟩
   rw[hT] at tp tq
   repeat' first
    |refine⟨_,_,_,_,_,_,hcp,?_⟩
    |refine⟨_,_,hns,?_⟩
    |refine⟨_,hkk,?_⟩
    |refine⟨_,_,_,_,_,hrk,?_⟩
    |refine⟨_,_,_,tp,?_⟩
    |refine⟨_,kd,?_⟩
    |refine⟨_,_,_,tq,?_⟩
    |exact rfl
    |exact⟨rfl,by first|rfl|trivial⟩
    |refine ai (by first|rfl|(rw[aD];rfl)) ?_
    |refine an (by first|rfl|(rw[aD];rfl)) ?_
  |true=>
   obtain⟨T,hT⟩: ∃T,aZ p.t (dW k)=(T,true):=⟨(aZ p.t (dW k)).1,by rw[←hb1]⟩
   rw[hT] at tp tq
   simp only[] at tq
   obtain⟨U,c,hU⟩: ∃U c,aZ T ⟨k.b,yA p k.a,k.k,k.c,k.g⟩=(U,c):=⟨_,_,rfl⟩
   rw[hU] at tq
   have hM:v8 p k=(⟨U,p.ages,p.cells,p.vols,p.next⟩,c):=by unfold v8 Aj;rw[hT];simp only[];rw[hU];rfl
   rw[hM] at pk ⊢
   cases c with
   |false=>
    rw[rL rfl]
    repeat' first
     |refine⟨_,_,_,_,_,_,hcp,?_⟩
     |refine⟨_,_,hns,?_⟩
     |refine⟨_,hkk,?_⟩
     |refine⟨_,_,_,_,_,hrk,?_⟩
     |refine⟨_,_,_,tp,?_⟩
     |refine⟨_,kd,?_⟩
     |refine⟨_,_,_,tq,?_⟩
     |exact rfl
     |exact⟨rfl,by first|rfl|trivial⟩
     |refine ai (by first|rfl|(rw[aD];rfl)) ?_
     |refine an (by first|rfl|(rw[aD];rfl)) ?_
   |true=>
    cases hg:jh ⟨U,p.ages,p.cells,p.vols,p.next⟩ with
    |false=>
     rw[qX hg]
     rw[hg] at pk
     repeat' first
      |refine⟨_,_,_,_,_,_,hcp,?_⟩
      |refine⟨_,_,hns,?_⟩
      |refine⟨_,hkk,?_⟩
      |refine⟨_,_,_,_,_,hrk,?_⟩
      |refine⟨_,_,_,tp,?_⟩
      |refine⟨_,kd,?_⟩
      |refine⟨_,_,_,tq,?_⟩
      |refine⟨_,pk,?_⟩
      |exact rfl
      |exact⟨rfl,by first|rfl|trivial⟩
      |refine ai (by first|rfl|(rw[aD];rfl)) ?_
      |refine an (by first|rfl|(rw[aD];rfl)) ?_
    |true=>
     rw[qY rfl hg]
     rw[hg] at pk
     repeat' first
      |refine⟨_,_,_,_,_,_,hcp,?_⟩
      |refine⟨_,_,hns,?_⟩
      |refine⟨_,hkk,?_⟩
      |refine⟨_,_,_,_,_,hrk,?_⟩
      |refine⟨_,_,_,tp,?_⟩
      |refine⟨_,kd,?_⟩
      |refine⟨_,_,_,tq,?_⟩
      |refine⟨_,pk,?_⟩
      |exact rfl
      |exact⟨rfl,by first|rfl|trivial⟩
      |refine ai (by first|rfl|(rw[aD];rfl)) ?_
      |refine an (by first|rfl|(rw[aD];rfl)) ?_
 ·have hra:rowAt (p.ages.map bV) i=some [iI a.id,iI a.fr]:=by rw[bB,ha];rfl
  rw[hn] at hns
  have hps:=lK hn (by omega) (Rl ha)
  have hrun:=Ku p.ages a.id (by omega)
  have hsz:=We p a.id
  have pk:=nj (OJ p a.id).1 (by omega)
  rw[hps]
  unfold OJ at pk ⊢
  generalize qN p.ages a.id=Y at*
  obtain⟨Y,b⟩:=Y
  cases b with
  |false=>
   rw[rL rfl]
   repeat' first
    |refine⟨_,_,_,_,_,_,hcp,?_⟩
    |refine⟨_,_,hns,?_⟩
    |refine⟨_,hkk,?_⟩
    |refine⟨_,_,hra,?_⟩
    |refine⟨_,_,hrun,?_⟩
    |exact rfl
    |exact⟨rfl,by first|rfl|trivial⟩
    |refine ai (by first|rfl|(rw[aD];rfl)) ?_
    |refine an (by first|rfl|(rw[aD];rfl)) ?_
  |true=>
   cases hg:jh ⟨p.t,Y,p.cells,p.vols,p.next⟩ with
   |false=>
    rw[qX hg]
    simp only[] at pk
    rw[hg] at pk
    repeat' first
     |refine⟨_,_,_,_,_,_,hcp,?_⟩
     |refine⟨_,_,hns,?_⟩
     |refine⟨_,hkk,?_⟩
     |refine⟨_,_,hra,?_⟩
     |refine⟨_,_,hrun,?_⟩
     |refine⟨_,pk,?_⟩
     |exact rfl
     |exact⟨rfl,by first|rfl|trivial⟩
     |refine ai (by first|rfl|(rw[aD];rfl)) ?_
     |refine an (by first|rfl|(rw[aD];rfl)) ?_
   |true=>
    rw[qY rfl hg]
    simp only[] at pk
    rw[hg] at pk
    repeat' first
     |refine⟨_,_,_,_,_,_,hcp,?_⟩
     |refine⟨_,_,hns,?_⟩
     |refine⟨_,hkk,?_⟩
     |refine⟨_,_,hra,?_⟩
     |refine⟨_,_,hrun,?_⟩
     |refine⟨_,pk,?_⟩
     |exact rfl
     |exact⟨rfl,by first|rfl|trivial⟩
     |refine ai (by first|rfl|(rw[aD];rfl)) ?_
     |refine an (by first|rfl|(rw[aD];rfl)) ?_
theorem uV (p:Pool) (hS:cY p≤1048576):aa C rF [gW p] (tPB (jY p)) []:=by
 have hS2:cY p≤4194304:=by omega
 have hP:=fo hS2
 have htl:=eI p.t
 have hcp:=GQ p hS2
 have hns:=GP p hS2
 have hkk:=jr p.t (by omega)
 refine(Jt _ _ _ _ _ _ _ ?_).run
 rcases DF p with h0|⟨i,k,hn,hk⟩|⟨i,k,x,hn,hk,hx,he⟩|⟨i,a,hn,ha⟩
 ·have hps:jY p=(p,false):=by unfold jY;rw[h0];rfl
  rw[h0] at hns
  rw[hps]
  repeat' first
   |refine⟨_,_,_,_,_,_,hcp,?_⟩
   |refine⟨_,_,hns,?_⟩
   |exact rfl
   |exact⟨rfl,by first|rfl|trivial⟩
   |refine ai (by first|rfl|(rw[aD];rfl)) ?_
   |refine an (by first|rfl|(rw[aD];rfl)) ?_
 ·have hrk:rowAt ((aB p.t).map bu) i=some [iI k.b,iI k.a,iI k.k,iI k.c,iI k.g]:=by rw[bB,hk];rfl
  rcases hn with hn|hn
  ·rw[hn] at hns
   have hj:(1:Int)=1∨(1:Int)=2:= .inl rfl
   have hps:=lK hn (by omega) rfl
   rw[hps]
   have hsz:=Ah p (dW k)
   have hrun:=pR p hS2 _ i k hj hk
   rw[Em hj hk]
   generalize iU p (dW k)=X at*
   have pk:=nq X.1 (by omega)
   cases hb:X.2 with
   |false=>
    rw[hb] at hrun
    rw[rL hb]
    repeat' first
     |refine⟨_,_,_,_,_,_,hcp,?_⟩
     |refine⟨_,_,hns,?_⟩
     |refine⟨_,_,_,_,_,_,_,hrun,?_⟩
     |exact rfl
     |exact⟨rfl,by first|rfl|trivial⟩
     |refine ai (by first|rfl|(rw[aD];rfl)) ?_
     |refine an (by first|rfl|(rw[aD];rfl)) ?_
   |true=>
    rw[hb] at hrun
    cases hg:jh X.1 with
    |false=>
     rw[hg] at pk
     rw[qX hg]
     repeat' first
      |refine⟨_,_,_,_,_,_,hcp,?_⟩
      |refine⟨_,_,hns,?_⟩
      |refine⟨_,_,_,_,_,_,_,hrun,?_⟩
      |refine⟨_,pk,?_⟩
      |exact rfl
      |exact⟨rfl,by first|rfl|trivial⟩
      |refine ai (by first|rfl|(rw[aD];rfl)) ?_
      |refine an (by first|rfl|(rw[aD];rfl)) ?_
    |true=>
     rw[hg] at pk
     rw[qY hb hg]
     repeat' first
      |refine⟨_,_,_,_,_,_,hcp,?_⟩
      |refine⟨_,_,hns,?_⟩
      |refine⟨_,_,_,_,_,_,_,hrun,?_⟩
      |refine⟨_,pk,?_⟩
      |exact rfl
      |exact⟨rfl,by first|rfl|trivial⟩
      |refine ai (by first|rfl|(rw[aD];rfl)) ?_
      |refine an (by first|rfl|(rw[aD];rfl)) ?_
  ·rw[hn] at hns
   have hj:(2:Int)=1∨(2:Int)=2:= .inr rfl
   have hps:=lK hn (by omega) rfl
   rw[hps]
   have hsz:=Ah p (dW k)
   have hrun:=pR p hS2 _ i k hj hk
   rw[Em hj hk]
   generalize iU p (dW k)=X at*
   have pk:=nq X.1 (by omega)
   cases hb:X.2 with
   |false=>
    rw[hb] at hrun
    rw[rL hb]
    repeat' first
     |refine⟨_,_,_,_,_,_,hcp,?_⟩
     |refine⟨_,_,hns,?_⟩
     |refine⟨_,_,_,_,_,_,_,hrun,?_⟩
     |exact rfl
     |exact⟨rfl,by first|rfl|trivial⟩
     |refine ai (by first|rfl|(rw[aD];rfl)) ?_
     |refine an (by first|rfl|(rw[aD];rfl)) ?_
   |true=>
    rw[hb] at hrun
    cases hg:jh X.1 with
    |false=>
     rw[hg] at pk
     rw[qX hg]
     repeat' first
      |refine⟨_,_,_,_,_,_,hcp,?_⟩
      |refine⟨_,_,hns,?_⟩
      |refine⟨_,_,_,_,_,_,_,hrun,?_⟩
      |refine⟨_,pk,?_⟩
      |exact rfl
      |exact⟨rfl,by first|rfl|trivial⟩
      |refine ai (by first|rfl|(rw[aD];rfl)) ?_
      |refine an (by first|rfl|(rw[aD];rfl)) ?_
    |true=>
     rw[hg] at pk
     rw[qY hb hg]
     repeat' first
      |refine⟨_,_,_,_,_,_,hcp,?_⟩
      |refine⟨_,_,hns,?_⟩
      |refine⟨_,_,_,_,_,_,_,hrun,?_⟩
      |refine⟨_,pk,?_⟩
      |exact rfl
      |exact⟨rfl,by first|rfl|trivial⟩
      |refine ai (by first|rfl|(rw[aD];rfl)) ?_
      |refine an (by first|rfl|(rw[aD];rfl)) ?_
 ·have hrk:rowAt ((aB p.t).map bu) i=some [iI k.b,iI k.a,iI k.k,iI k.c,iI k.g]:=by rw[bB,hk];rfl
  rw[hn] at hns
  have hps:=lK hn (by omega) (NJ hk)
  have hsz:=Ua p k
  have pk:=nq (v8 p k).1 (by omega)
  obtain⟨X0,hrun,hX0⟩:=uU p hS2 i k x hk hx he
  rw[hps]
  generalize v8 p k=X at*
  cases hb:X.2 with
  |false=>
   rw[hb] at hrun
   rw[rL hb]
   repeat' first
    |refine⟨_,_,_,_,_,_,hcp,?_⟩
    |refine⟨_,_,hns,?_⟩
    |refine⟨_,_,_,_,_,_,_,hrun,?_⟩
    |exact rfl
    |exact⟨rfl,by first|rfl|trivial⟩
    |refine ai (by first|rfl|(rw[aD];rfl)) ?_
    |refine an (by first|rfl|(rw[aD];rfl)) ?_
  |true=>
   have hX0:=hX0 hb
   subst hX0
   rw[hb] at hrun
   cases hg:jh X.1 with
   |false=>
    rw[hg] at pk
    rw[qX hg]
    repeat' first
     |refine⟨_,_,_,_,_,_,hcp,?_⟩
     |refine⟨_,_,hns,?_⟩
     |refine⟨_,_,_,_,_,_,_,hrun,?_⟩
     |refine⟨_,pk,?_⟩
     |exact rfl
     |exact⟨rfl,by first|rfl|trivial⟩
     |refine ai (by first|rfl|(rw[aD];rfl)) ?_
     |refine an (by first|rfl|(rw[aD];rfl)) ?_
   |true=>
    rw[hg] at pk
    rw[qY hb hg]
    repeat' first
     |refine⟨_,_,_,_,_,_,hcp,?_⟩
     |refine⟨_,_,hns,?_⟩
     |refine⟨_,_,_,_,_,_,_,hrun,?_⟩
     |refine⟨_,pk,?_⟩
     |exact rfl
     |exact⟨rfl,by first|rfl|trivial⟩
     |refine ai (by first|rfl|(rw[aD];rfl)) ?_
     |refine an (by first|rfl|(rw[aD];rfl)) ?_
 ·have hra:rowAt (p.ages.map bV) i=some [iI a.id,iI a.fr]:=by rw[bB,ha];rfl
  rw[hn] at hns
  have hps:=lK hn (by omega) (Rl ha)
  have hrun:=vD p hS2 i a ha
  have hsz:=We p a.id
  rw[hps]
  generalize OJ p a.id=X at*
  have pk:=nq X.1 (by omega)
  cases hb:X.2 with
  |false=>
   rw[hb] at hrun
   rw[rL hb]
   repeat' first
    |refine⟨_,_,_,_,_,_,hcp,?_⟩
    |refine⟨_,_,hns,?_⟩
    |refine⟨_,_,_,_,_,_,_,hrun,?_⟩
    |exact rfl
    |exact⟨rfl,by first|rfl|trivial⟩
    |refine ai (by first|rfl|(rw[aD];rfl)) ?_
    |refine an (by first|rfl|(rw[aD];rfl)) ?_
  |true=>
   rw[hb] at hrun
   cases hg:jh X.1 with
   |false=>
    rw[hg] at pk
    rw[qX hg]
    repeat' first
     |refine⟨_,_,_,_,_,_,hcp,?_⟩
     |refine⟨_,_,hns,?_⟩
     |refine⟨_,_,_,_,_,_,_,hrun,?_⟩
     |refine⟨_,pk,?_⟩
     |exact rfl
     |exact⟨rfl,by first|rfl|trivial⟩
     |refine ai (by first|rfl|(rw[aD];rfl)) ?_
     |refine an (by first|rfl|(rw[aD];rfl)) ?_
   |true=>
    rw[hg] at pk
    rw[qY hb hg]
    repeat' first
     |refine⟨_,_,_,_,_,_,hcp,?_⟩
     |refine⟨_,_,hns,?_⟩
     |refine⟨_,_,_,_,_,_,_,hrun,?_⟩
     |refine⟨_,pk,?_⟩
     |exact rfl
     |exact⟨rfl,by first|rfl|trivial⟩
     |refine ai (by first|rfl|(rw[aD];rfl)) ?_
     |refine an (by first|rfl|(rw[aD];rfl)) ?_
attribute [local semireducible] J4 in
theorem ade (l:List YH):aA (l.map R2) 0 (J4 (Int.ofNat (List.length (l.map R2))) 200)=(l.take 200).map R2∧eT 0 (J4 (Int.ofNat (List.length (l.map R2))) 200) (Int.ofNat (List.length (l.map R2)))=true:=by
 rw[List.length_map]
 have hm:J4 (Int.ofNat l.length) 200=((min l.length 200:Nat):Int):=by
  unfold J4
  rw[Int.ofNat_eq_natCast]
  split<;>omega
 rw[hm,cu,C3]
 refine⟨?_,decide_eq_true (by simp only[Int.ofNat_eq_natCast];omega)⟩
 rw[Int.toNat_natCast,show(0:Int).toNat=0 from rfl,List.drop_zero]
 by_cases h:l.length≤200
 ·rw[List.take_of_length_le (by omega),List.take_of_length_le h]
 ·rw[show min l.length 200=200 from by omega]
theorem EN:dB 3 0=false:=by simp
theorem Y9:dB 10 0=false:=by simp
def FB:Nat→Int→ByteArray→ByteArray
 |0,_,out=>out
 |n+1,k,out=>if k≤0 then out else FB n (fY .i64 k 10) (Oz (CH [tJ .u8 (48+xL k 10)]) out)
def Wf (k:Int):ByteArray:=if k≤0 then⟨#[109,48]⟩ else Oz ⟨#[109]⟩ (FB 19 k bs0)
attribute [local semireducible] q8 CH Oz in
theorem WZ (n:Int):q8 [[TC.sc (.int .u8 n)]]=some [n]:=rfl
attribute [local semireducible] CH in
theorem Zc (n:Int):(CH [n]).size=1:=rfl
attribute [local semireducible] Oz in
theorem W0 (a b:ByteArray):(Oz a b).size=a.size+b.size:=by show(a++b).size=_;simp
attribute [local semireducible] fY in
theorem Wg {a b:Int} (h0:0≤a) (h1:a≤9223372036854775807):fY .i64 a 10=a/10:=by
 show IntKind.i64.wrap (a.tdiv 10)=_
 rw[Int.tdiv_eq_ediv_of_nonneg h0]
 exact IntWalk.i64_in _ (by omega)
theorem Vr (n:Nat) (k:Int) (out:ByteArray) (h:k≤0):FB n k out=out:=by cases n<;>simp[FB,h]
theorem So (k:Int) (hk:k≤2305843009213693952):aa C fu [vI k] (vS (Wf k)) []:=by
 refine(KE _ _ ?_).run
 unfold Wf
 simp only[gz,bq]
 by_cases h:k≤0
 ·rw[if_pos h,if_pos h];exact⟨rfl,by first|rfl|trivial⟩
 ·rw[if_neg h,if_neg h]
  have key: ∀(F:ByteArray) (n:Nat) (k':Int) (out:ByteArray),k'<10 ^ n→k'≤2305843009213693952→out.size+n≤100→FB n k' out=F→ah C fu qO 4 0 (oh k' out) (fun u st=>av C fu qO u st fun r fs=>r=vS (Oz ⟨#[109]⟩ F)∧fs=[]):=by
   intro F n
   induction n with
   |zero=>
    intro k' out h1 h2 h3 h4
    refine rN _ _ _ (an (by simp at h1 ⊢;omega) (xe _ _ _ _ ?_))
    simp only[FB] at h4
    subst h4
    refine ai (cW (by simp only[natAdd,H6];omega)) ⟨rfl,by first|rfl|trivial⟩
   |succ n ih=>
    intro k' out h1 h2 h3 h4
    by_cases h0:k'≤0
    ·rw[Vr _ _ _ h0] at h4
     subst h4
     exact rN _ _ _ (an (by simp;omega) (xe _ _ _ _ (ai (cW (by simp only[natAdd,H6];omega)) ⟨rfl,by first|rfl|trivial⟩)))
    ·simp only[FB,if_neg h0] at h4
     have hr:0≤xL k' 10∧xL k' 10≤9:=by rw[aaa,Int.tmod_eq_emod_of_nonneg (by omega)];omega
     refine rN _ _ _ (ai (by simp;omega) (an Y9 ⟨_,WZ _,ai (cW (by simp only[natAdd,H6,Zc];omega)) (an Y9 ?_)⟩))
     rw[aC (by omega)]
     refine ih _ _ ?_ ?_ ?_ h4
     ·rw[Wg (b:=0) (by omega) (by omega)]
      have:(10:Int) ^ (n+1)=10 ^ n*10:=Int.pow_succ ..
      omega
     ·rw[Wg (b:=0) (by omega) (by omega)];omega
     ·rw[W0,Zc];omega
  exact key _ 19 k bs0 (by rw[show(10:Int) ^ 19=10000000000000000000 from by decide];omega) hk (by decide) rfl
theorem NK (k:Int) (hk:k≤2305843009213693952) (q:ByteArray):aa C fu [vI k] (vS q) []↔q=Wf k:=adt (So k hk)
def mkInt (_:Int) (k:Int):Int:=k
def GR (_:Int):Nat:=1
theorem Zd (l:List (Int)) (k:Int) (h0:0≤k) (hk:k+tot GR l≤2305843009213693952) (hl:l.length≤1099511627776):aa C iZ [lg l,vI k] (vI (k+tot GR l)) [lg (gy mkInt GR l k)]:=by
 refine(LP _ _ _ ?_).run
 refine uq (e:=bC) mkInt GR (fun k i rows=>ah C iZ aj 4 0 (oD k i rows) _) 2305843009213693952 ?_ l [] k h0 hk (by simpa using hl) ?_
 ·intro d a r k h0 hk hd hn
  have hw:GR a=1:=rfl
  rw[hw] at hk hn
  refine xJ _ _ _ _ (ai (by simp;omega) ?_)
  simp (disch:=omega) only[aC]
  simp only[rz,abM,p8,jU,lq,Option.some.injEq,exists_eq_left',exists_eq_left,mod_mod,EN,mF,bI]
  rw[Ac]
  rw[show(k+1:Int)=k+((1:Nat):Int) by omega]
  exact hn
 ·refine xJ _ _ _ _ (an (by simp[mG]) (Hw _ _ _ _ _ ⟨rfl,by first|rfl|trivial⟩))
theorem Ze (l:List (Int)) (k:Int) (h0:0≤k) (hk:k+tot GR l≤2305843009213693952) (hl:l.length≤1099511627776):aa C ja [lg (gy mkInt GR l k),vI k] (vI (k+tot GR l)) []:=by
 refine(K3 _ _ _ ?_).run
 refine ur (e:=bC) mkInt GR (fun k i rows=>ah C ja aj 4 0 (oy rows k i) _) 2305843009213693952 ?_ l [] k h0 hk (by simpa using hl) ?_
 ·intro d a r k h0 hk hd hn
  have hw:GR a=1:=rfl
  rw[hw] at hk hn
  refine xw _ _ _ _ (ai (by simp;omega) ?_)
  simp (disch:=omega) only[aC]
  simp only[rz,p8,jU,lq,Option.some.injEq,exists_eq_left',exists_eq_left,mod_mod,EN,mF,bI,mkInt,aD,Nd,Nc,bq,if_true,decide_true,Bool.not_true]
  rw[show(k+1:Int)=k+((1:Nat):Int) by omega]
  exact hn
 ·refine xw _ _ _ _ (an (by simp[mG]) (G7 _ _ _ _ _ ⟨rfl,by first|rfl|trivial⟩))
def mkKey (_:Key) (k:Int):Key:=⟨k,k+1,k+1+1,k+1+1+1,k+1+1+1+1⟩
def FC (_:Key):Nat:=5
theorem Zf (l:List (Key)) (k:Int) (h0:0≤k) (hk:k+tot FC l≤2305843009213693952) (hl:l.length≤1099511627776):aa C jc [cH l,vI k] (vI (k+tot FC l)) [cH (gy mkKey FC l k)]:=by
 refine(L9 _ _ _ ?_).run
 refine uq (e:=bu) mkKey FC (fun k i rows=>ah C jc aj 4 0 (oE k i rows) _) 2305843009213693952 ?_ l [] k h0 hk (by simpa using hl) ?_
 ·intro d a r k h0 hk hd hn
  have hw:FC a=5:=rfl
  rw[hw] at hk hn
  refine xK _ _ _ _ (ai (by simp;omega) ?_)
  simp (disch:=omega) only[aC]
  simp only[jg,YJ,YK,YL,YM,YO,abH,p8,jU,lq,Option.some.injEq,exists_eq_left',exists_eq_left,mod_mod,EN,mF,bI]
  rw[Ac]
  rw[show(k+1+1+1+1+1:Int)=k+((5:Nat):Int) by omega]
  exact hn
 ·refine xK _ _ _ _ (an (by simp[mG]) (Hy _ _ _ _ _ ⟨rfl,by first|rfl|trivial⟩))
theorem Zg (l:List (Key)) (k:Int) (h0:0≤k) (hk:k+tot FC l≤2305843009213693952) (hl:l.length≤1099511627776):aa C jd [cH (gy mkKey FC l k),vI k] (vI (k+tot FC l)) []:=by
 refine(KR _ _ _ ?_).run
 refine ur (e:=bu) mkKey FC (fun k i rows=>ah C jd aj 4 0 (oq rows k i) _) 2305843009213693952 ?_ l [] k h0 hk (by simpa using hl) ?_
 ·intro d a r k h0 hk hd hn
  have hw:FC a=5:=rfl
  rw[hw] at hk hn
  refine xj _ _ _ _ (ai (by simp;omega) ?_)
  simp (disch:=omega) only[aC]
  simp only[jg,p8,jU,lq,Option.some.injEq,exists_eq_left',exists_eq_left,mod_mod,EN,mF,bI,mkKey,aD,Nd,Nc,bq,if_true,decide_true,Bool.not_true]
  rw[show(k+1+1+1+1+1:Int)=k+((5:Nat):Int) by omega]
  exact hn
 ·refine xj _ _ _ _ (an (by simp[mG]) (GX _ _ _ _ _ ⟨rfl,by first|rfl|trivial⟩))
def Rm (_:Age) (k:Int):Age:=⟨k,k+1⟩
def FD (_:Age):Nat:=2
theorem Zh (l:List (Age)) (k:Int) (h0:0≤k) (hk:k+tot FD l≤2305843009213693952) (hl:l.length≤1099511627776):aa C iV [fE l,vI k] (vI (k+tot FD l)) [fE (gy Rm FD l k)]:=by
 refine(LI _ _ _ ?_).run
 refine uq (e:=bV) Rm FD (fun k i rows=>ah C iV aj 4 0 (oB k i rows) _) 2305843009213693952 ?_ l [] k h0 hk (by simpa using hl) ?_
 ·intro d a r k h0 hk hd hn
  have hw:FD a=2:=rfl
  rw[hw] at hk hn
  refine xH _ _ _ _ (ai (by simp;omega) ?_)
  simp (disch:=omega) only[aC]
  simp only[rA,WH,Q8,abI,p8,jU,lq,Option.some.injEq,exists_eq_left',exists_eq_left,mod_mod,EN,mF,bI]
  rw[Ac]
  rw[show(k+1+1:Int)=k+((2:Nat):Int) by omega]
  exact hn
 ·refine xH _ _ _ _ (an (by simp[mG]) (Hu _ _ _ _ _ ⟨rfl,by first|rfl|trivial⟩))
theorem Zi (l:List (Age)) (k:Int) (h0:0≤k) (hk:k+tot FD l≤2305843009213693952) (hl:l.length≤1099511627776):aa C iX [fE (gy Rm FD l k),vI k] (vI (k+tot FD l)) []:=by
 refine(LJ _ _ _ ?_).run
 refine ur (e:=bV) Rm FD (fun k i rows=>ah C iX aj 4 0 (oC rows k i) _) 2305843009213693952 ?_ l [] k h0 hk (by simpa using hl) ?_
 ·intro d a r k h0 hk hd hn
  have hw:FD a=2:=rfl
  rw[hw] at hk hn
  refine xI _ _ _ _ (ai (by simp;omega) ?_)
  simp (disch:=omega) only[aC]
  simp only[rA,p8,jU,lq,Option.some.injEq,exists_eq_left',exists_eq_left,mod_mod,EN,mF,bI,Rm,aD,Nd,Nc,bq,if_true,decide_true,Bool.not_true]
  rw[show(k+1+1:Int)=k+((2:Nat):Int) by omega]
  exact hn
 ·refine xI _ _ _ _ (an (by simp[mG]) (Hv _ _ _ _ _ ⟨rfl,by first|rfl|trivial⟩))
def FE (_:Cell) (k:Int):Cell:=⟨k,dB (xL (k+1) 3) 0,k+1+1⟩
def wB (_:Cell):Nat:=3
theorem W2 (l:List (Cell)) (k:Int) (h0:0≤k) (hk:k+tot wB l≤2305843009213693952) (hl:l.length≤1099511627776):aa C gZ [iz l,vI k] (vI (k+tot wB l)) [iz (gy FE wB l k)]:=by
 refine(IN _ _ _ ?_).run
 refine uq (e:=bU) FE wB (fun k i rows=>ah C gZ aj 4 0 (m4 k i rows) _) 2305843009213693952 ?_ l [] k h0 hk (by simpa using hl) ?_
 ·intro d a r k h0 hk hd hn
  have hw:wB a=3:=rfl
  rw[hw] at hk hn
  refine vl _ _ _ _ (ai (by simp;omega) ?_)
  simp (disch:=omega) only[aC]
  simp only[qh,WI,WJ,WK,R5,p8,jU,lq,Option.some.injEq,exists_eq_left',exists_eq_left,mod_mod,EN,mF,bI]
  rw[Ac]
  rw[show(k+1+1+1:Int)=k+((3:Nat):Int) by omega]
  exact hn
 ·refine vl _ _ _ _ (an (by simp[mG]) (FJ _ _ _ _ _ ⟨rfl,by first|rfl|trivial⟩))
theorem W3 (l:List (Cell)) (k:Int) (h0:0≤k) (hk:k+tot wB l≤2305843009213693952) (hl:l.length≤1099511627776):aa C g6 [iz (gy FE wB l k),vI k] (vI (k+tot wB l)) []:=by
 refine(IP _ _ _ ?_).run
 refine ur (e:=bU) FE wB (fun k i rows=>ah C g6 aj 4 0 (m5 rows k i) _) 2305843009213693952 ?_ l [] k h0 hk (by simpa using hl) ?_
 ·intro d a r k h0 hk hd hn
  have hw:wB a=3:=rfl
  rw[hw] at hk hn
  refine vm _ _ _ _ (ai (by simp;omega) ?_)
  simp (disch:=omega) only[aC]
  simp only[qh,p8,jU,lq,Option.some.injEq,exists_eq_left',exists_eq_left,mod_mod,EN,mF,bI,FE,aD,Nd,Nc,bq,if_true,decide_true,Bool.not_true]
  rw[show(k+1+1+1:Int)=k+((3:Nat):Int) by omega]
  simpa [FE] using hn
 ·refine vm _ _ _ _ (an (by simp[mG]) (FK _ _ _ _ _ ⟨rfl,by first|rfl|trivial⟩))
def NL (_:Vol) (k:Int):Vol:=⟨Wf (k),k+1,k+1+1,dB (xL (k+1+1+1) 3) 0⟩
def IE (_:Vol):Nat:=4
theorem Zj (l:List (Vol)) (k:Int) (h0:0≤k) (hk:k+tot IE l≤2305843009213693952) (hl:l.length≤1099511627776):aa C iW [yw l,vI k] (vI (k+tot IE l)) [yw (gy NL IE l k)]:=by
 refine(KU _ _ _ ?_).run
 refine uq (e:=dD) NL IE (fun k i rows=>ah C iW aj 4 0 (ot k i rows) _) 2305843009213693952 ?_ l [] k h0 hk (by simpa using hl) ?_
 ·intro d a r k h0 hk hd hn
  have hw:IE a=4:=rfl
  rw[hw] at hk hn
  refine xk _ _ _ _ (ai (by simp;omega) ?_)
  simp (disch:=omega) only[aC]
  simp only[xV,TH,Va,TJ,WL,abJ,NK (k) (by omega),p8,jU,lq,Option.some.injEq,exists_eq_left',exists_eq_left,mod_mod,EN,mF,bI]
  rw[Ac]
  rw[show(k+1+1+1+1:Int)=k+((4:Nat):Int) by omega]
  exact hn
 ·refine xk _ _ _ _ (an (by simp[mG]) (GY _ _ _ _ _ ⟨rfl,by first|rfl|trivial⟩))
theorem Zk (l:List (Vol)) (k:Int) (h0:0≤k) (hk:k+tot IE l≤2305843009213693952) (hl:l.length≤1099511627776):aa C iY [yw (gy NL IE l k),vI k] (vI (k+tot IE l)) []:=by
 refine(KV _ _ _ ?_).run
 refine ur (e:=dD) NL IE (fun k i rows=>ah C iY aj 4 0 (ou rows k i) _) 2305843009213693952 ?_ l [] k h0 hk (by simpa using hl) ?_
 ·intro d a r k h0 hk hd hn
  have hw:IE a=4:=rfl
  rw[hw] at hk hn
  refine xm _ _ _ _ (ai (by simp;omega) ?_)
  simp (disch:=omega) only[aC]
  simp only[xV,NK (k) (by omega),p8,jU,lq,Option.some.injEq,exists_eq_left',exists_eq_left,mod_mod,EN,mF,bI,NL,aD,Nd,Nc,bq,if_true,decide_true,Bool.not_true]
  rw[show(k+1+1+1+1:Int)=k+((4:Nat):Int) by omega]
  simpa [NL] using hn
 ·refine xm _ _ _ _ (an (by simp[mG]) (GZ _ _ _ _ _ ⟨rfl,by first|rfl|trivial⟩))
def Au (s:List Key) (k:Int):List Key:=gy mkKey FC s k
def ko (s:List Key):Nat:=tot FC s
theorem W4: ∀(l:List (List Key)) (k:Int) (h0:0≤k) (hk:k+tot ko l≤2305843009213693952) (hl:l.length≤1099511627776) (hs: ∀s∈l,s.length≤1099511627776),aa C gh [Gv l,vI k] (vI (k+tot ko l)) [Gv (gy Au ko l k)]:=by
 intro l k h0 hk hl hs
 refine(Jo _ _ _ ?_).run
 have key: ∀(r d:List (List Key)) (k:Int),0≤k→k+tot ko r≤2305843009213693952→d.length+r.length≤1099511627776→(∀s∈r,s.length≤1099511627776)→ ∀(R:TV) (F:List TV),vI (k+tot ko r)=R→[Gv (d++gy Au ko r k)]=F→ah C gh aj 4 0 (m8 k (d.length:Int) ((d++r).map bX)) (fun u st=>av C gh aj u st fun r fs=>r=R∧fs=F):=by
  intro r
  induction r with
  |nil=>
   intro d k h0 hk hl hs R F hR hF
   subst hR hF
   refine vr _ _ _ _ (an (by simp) (FQ _ _ _ _ _ ⟨by simp[tot],by simp[gy]⟩))
  |cons a r ih=>
   intro d k h0 hk hl hs R F hR hF
   simp only[tot,List.length_cons] at hk hl
   have hca:=hs a (.head _)
   have hu:tot FC a=ko a:=rfl
   refine vr _ _ _ _ (ai (by simp;omega) ?_)
   simp only[sg,lq,Option.some.injEq,exists_eq_left']
   refine⟨_,_,Zf a k h0 (by omega) hca,?_⟩
   simp only[abN]
   rw[Ac,aC (by omega)]
   have:=ih (d++[Au a k]) (k+ko a) (by omega) (by omega) (by simp;omega) (fun s h=>hs s (.tail _ h)) R F (by rw[←hR];simp only[tot];rw[show k+(ko a:Int)+(tot ko r:Int)=k+((ko a+tot ko r:Nat):Int) by omega]) (by rw[←hF];simp[gy])
   rw[←hu] at this
   simpa [Au] using this
 exact key l [] k h0 hk (by simpa using hl) hs _ _ rfl (by simp)
theorem W5: ∀(l:List (List Key)) (k:Int) (h0:0≤k) (hk:k+tot ko l≤2305843009213693952) (hl:l.length≤1099511627776) (hs: ∀s∈l,s.length≤1099511627776),aa C gi [Gv (gy Au ko l k),vI k] (vI (k+tot ko l)) []:=by
 intro l k h0 hk hl hs
 refine(JA _ _ _ ?_).run
 have key: ∀(r d:List (List Key)) (k:Int),0≤k→k+tot ko r≤2305843009213693952→d.length+r.length≤1099511627776→(∀s∈r,s.length≤1099511627776)→ ∀(R:TV),vI (k+tot ko r)=R→ah C gi aj 4 0 (m9 ((d++gy Au ko r k).map bX) k (d.length:Int)) (fun u st=>av C gi aj u st fun r fs=>r=R∧fs=[]):=by
  intro r
  induction r with
  |nil=>
   intro d k h0 hk hl hs R hR
   subst hR
   refine vw _ _ _ _ (an (by simp[gy]) (FW _ _ _ _ _ ⟨by simp[tot],rfl⟩))
  |cons a r ih=>
   intro d k h0 hk hl hs R hR
   simp only[tot,List.length_cons] at hk hl
   have hca:=hs a (.head _)
   have hu:tot FC a=ko a:=rfl
   simp only[gy]
   refine vw _ _ _ _ (ai (by simp;omega) ?_)
   simp only[sg,lq,Option.some.injEq,exists_eq_left']
   refine⟨_,Zg a k h0 (by omega) hca,an (by simp;omega) ?_⟩
   rw[aC (by omega)]
   have:=ih (d++[Au a k]) (k+ko a) (by omega) (by omega) (by simp;omega) (fun s h=>hs s (.tail _ h)) R (by rw[←hR];simp only[tot];rw[show k+(ko a:Int)+(tot ko r:Int)=k+((ko a+tot ko r:Nat):Int) by omega])
   rw[hu]
   simpa [Au] using this
 exact key l [] k h0 hk (by simpa using hl) hs _ rfl
def mkNode (s:List (List Key)) (k:Int):List (List Key):=gy Au ko s k
def mo (s:List (List Key)):Nat:=tot ko s
theorem W6: ∀(l:List (List (List Key))) (k:Int) (h0:0≤k) (hk:k+tot mo l≤2305843009213693952) (hl:l.length≤1099511627776) (hs: ∀s∈l,GH s),aa C ga [uI l,vI k] (vI (k+tot mo l)) [uI (gy mkNode mo l k)]:=by
 intro l k h0 hk hl hs
 refine(IQ _ _ _ ?_).run
 have key: ∀(r d:List (List (List Key))) (k:Int),0≤k→k+tot mo r≤2305843009213693952→d.length+r.length≤1099511627776→(∀s∈r,GH s)→ ∀(R:TV) (F:List TV),vI (k+tot mo r)=R→[uI (d++gy mkNode mo r k)]=F→ah C ga aj 4 0 (m6 k (d.length:Int) ((d++r).map aI)) (fun u st=>av C ga aj u st fun r fs=>r=R∧fs=F):=by
  intro r
  induction r with
  |nil=>
   intro d k h0 hk hl hs R F hR hF
   subst hR hF
   refine vn _ _ _ _ (an (by simp) (FL _ _ _ _ _ ⟨by simp[tot],by simp[gy]⟩))
  |cons a r ih=>
   intro d k h0 hk hl hs R F hR hF
   simp only[tot,List.length_cons] at hk hl
   have hca:=hs a (.head _)
   have hu:tot ko a=mo a:=rfl
   refine vn _ _ _ _ (ai (by simp;omega) ?_)
   simp only[rB,lq,Option.some.injEq,exists_eq_left']
   refine⟨_,_,W4 a k h0 (by omega) hca.1 hca.2,?_⟩
   simp only[aah]
   rw[Ac,aC (by omega)]
   have:=ih (d++[mkNode a k]) (k+mo a) (by omega) (by omega) (by simp;omega) (fun s h=>hs s (.tail _ h)) R F (by rw[←hR];simp only[tot];rw[show k+(mo a:Int)+(tot mo r:Int)=k+((mo a+tot mo r:Nat):Int) by omega]) (by rw[←hF];simp[gy])
   rw[←hu] at this
   simpa [mkNode] using this
 exact key l [] k h0 hk (by simpa using hl) hs _ _ rfl (by simp)
theorem W7: ∀(l:List (List (List Key))) (k:Int) (h0:0≤k) (hk:k+tot mo l≤2305843009213693952) (hl:l.length≤1099511627776) (hs: ∀s∈l,GH s),aa C gf [uI (gy mkNode mo l k),vI k] (vI (k+tot mo l)) []:=by
 intro l k h0 hk hl hs
 refine(Jk _ _ _ ?_).run
 have key: ∀(r d:List (List (List Key))) (k:Int),0≤k→k+tot mo r≤2305843009213693952→d.length+r.length≤1099511627776→(∀s∈r,GH s)→ ∀(R:TV),vI (k+tot mo r)=R→ah C gf aj 4 0 (m7 ((d++gy mkNode mo r k).map aI) k (d.length:Int)) (fun u st=>av C gf aj u st fun r fs=>r=R∧fs=[]):=by
  intro r
  induction r with
  |nil=>
   intro d k h0 hk hl hs R hR
   subst hR
   refine vq _ _ _ _ (an (by simp[gy]) (FP _ _ _ _ _ ⟨by simp[tot],rfl⟩))
  |cons a r ih=>
   intro d k h0 hk hl hs R hR
   simp only[tot,List.length_cons] at hk hl
   have hca:=hs a (.head _)
   have hu:tot ko a=mo a:=rfl
   simp only[gy]
   refine vq _ _ _ _ (ai (by simp;omega) ?_)
   simp only[rB,lq,Option.some.injEq,exists_eq_left']
   refine⟨_,W5 a k h0 (by omega) hca.1 hca.2,an (by simp;omega) ?_⟩
   rw[aC (by omega)]
   have:=ih (d++[mkNode a k]) (k+mo a) (by omega) (by omega) (by simp;omega) (fun s h=>hs s (.tail _ h)) R (by rw[←hR];simp only[tot];rw[show k+(mo a:Int)+(tot mo r:Int)=k+((mo a+tot mo r:Nat):Int) by omega])
   rw[hu]
   simpa [mkNode] using this
 exact key l [] k h0 hk (by simpa using hl) hs _ rfl
def AL (t:Tree):Nat:=tot GR t.lows+tot mo t.nodes
def Vs (t:Tree) (k:Int):Tree:=⟨gy mkInt GR t.lows k,gy mkNode mo t.nodes (k+tot GR t.lows)⟩
theorem Zl (t:Tree) (k:Int) (h0:0≤k) (hk:k+AL t≤2305843009213693952) (h:Rj t):aa C xW [c6 t,vI k] (vI (k+AL t)) [c6 (Vs t k)]:=by
 unfold AL at*
 refine(Lk _ _ _ _ ⟨_,_,Zd t.lows k h0 (by omega) h.1,_,_,W6 t.nodes _ (by omega) (by omega) h.2.1 h.2.2,?_⟩).run
 exact⟨by congr 2;omega,rfl⟩
theorem Zm (t:Tree) (k:Int) (h0:0≤k) (hk:k+AL t≤2305843009213693952) (h:Rj t):aa C xX [c6 (Vs t k),vI k] (vI (k+AL t)) []:=by
 unfold AL at*
 refine(Ll _ _ _ _ ⟨_,Ze t.lows k h0 (by omega) h.1,an (by simp;omega) ⟨_,W7 t.nodes _ (by omega) (by omega) h.2.1 h.2.2,an (by simp;omega) ?_⟩⟩).run
 exact⟨by congr 2;omega,rfl⟩
def J3 (p:Pool):Nat:=AL p.t+tot FD p.ages+tot wB p.cells+tot IE p.vols
def Zn (p:Pool) (k:Int):Pool:=⟨Vs p.t k,gy Rm FD p.ages (k+AL p.t),gy FE wB p.cells (k+AL p.t+tot FD p.ages),gy NL IE p.vols (k+AL p.t+tot FD p.ages+tot wB p.cells),p.next⟩
theorem Ub (p:Pool) (k:Int) (h0:0≤k) (hk:k+J3 p≤2305843009213693952) (h:T8 p):aa C sx [gW p,vI k] (vI (k+J3 p)) [gW (Zn p k)]:=by
 unfold J3 at*
 refine(KC _ _ _ _ _ _ _ _ ⟨_,_,_,Zl p.t k h0 (by omega) h.t,_,_,Zh p.ages _ (by omega) (by omega) h.ages,_,_,W2 p.cells _ (by omega) (by omega) h.cells,_,_,Zj p.vols _ (by omega) (by omega) h.vols,?_⟩).run
 exact⟨by congr 2;omega,rfl⟩
theorem Uc (p:Pool) (k:Int) (h0:0≤k) (hk:k+J3 p≤2305843009213693952) (h:T8 p):aa C sy [gW (Zn p k),vI k] (vI (k+J3 p)) []:=by
 unfold J3 at*
 refine(KS _ _ _ _ _ _ _ _ ⟨_,Zm p.t k h0 (by omega) h.t,an (by simp;omega) ⟨_,Zi p.ages _ (by omega) (by omega) h.ages,an (by simp;omega) ⟨_,W3 p.cells _ (by omega) (by omega) h.cells,an (by simp;omega) ⟨_,Zk p.vols _ (by omega) (by omega) h.vols,an (by simp;omega) ?_⟩⟩⟩⟩).run
 exact⟨by congr 2;omega,rfl⟩
theorem FF {n z:Nat} (h:n*z≤reachBytes) (hz:1≤z):n≤140737488355328:=by
 have:reachBytes≤140737488355328:=by decide
 have h2:n*1≤n*z:=Nat.mul_le_mul_left n hz
 omega
theorem acf {n:Int} (h:(Lit.int .i64 n).wf=true):n≤9223372036854775807:=by
 have:=(abF h).2
 omega
theorem Zo {r:List TC} (h:uo C.tt aa7 r): ∃n:Int,r=bC n∧True:=by
 obtain⟨n,rfl,_⟩:=h.qg (k:= .i64) (by kernel_rfl)
 exact⟨n,rfl,trivial⟩
theorem acg {r:List TC} (h:uo C.tt Nv r): ∃x:Key,r=bu x∧True:=by
 obtain⟨q0,r0,rfl,h0,k0⟩:=(h.qL (fs:=[(0,3),(1,3),(2,3),(3,3),(4,3)]) (by kernel_rfl)).cons_inv
 obtain⟨q1,r1,rfl,h1,k1⟩:=k0.cons_inv
 obtain⟨q2,r2,rfl,h2,k2⟩:=k1.cons_inv
 obtain⟨q3,r3,rfl,h3,k3⟩:=k2.cons_inv
 obtain⟨q4,r4,rfl,h4,k4⟩:=k3.cons_inv
 have e:=k4.Ab
 subst e
 obtain⟨v0,rfl,u0⟩:=h0.qg (k:= .i64) (by kernel_rfl)
 obtain⟨v1,rfl,u1⟩:=h1.qg (k:= .i64) (by kernel_rfl)
 obtain⟨v2,rfl,u2⟩:=h2.qg (k:= .i64) (by kernel_rfl)
 obtain⟨v3,rfl,u3⟩:=h3.qg (k:= .i64) (by kernel_rfl)
 obtain⟨v4,rfl,u4⟩:=h4.qg (k:= .i64) (by kernel_rfl)
 exact⟨⟨v0,v1,v2,v3,v4⟩,rfl,trivial⟩
theorem ach {r:List TC} (h:uo C.tt Nu r): ∃x:Age,r=bV x∧True:=by
 obtain⟨q0,r0,rfl,h0,k0⟩:=(h.qL (fs:=[(0,3),(1,3)]) (by kernel_rfl)).cons_inv
 obtain⟨q1,r1,rfl,h1,k1⟩:=k0.cons_inv
 have e:=k1.Ab
 subst e
 obtain⟨v0,rfl,u0⟩:=h0.qg (k:= .i64) (by kernel_rfl)
 obtain⟨v1,rfl,u1⟩:=h1.qg (k:= .i64) (by kernel_rfl)
 exact⟨⟨v0,v1⟩,rfl,trivial⟩
theorem aaz {r:List TC} (h:uo C.tt JY r): ∃x:Cell,r=bU x∧True:=by
 obtain⟨q0,r0,rfl,h0,k0⟩:=(h.qL (fs:=[(0,3),(1,4),(2,3)]) (by kernel_rfl)).cons_inv
 obtain⟨q1,r1,rfl,h1,k1⟩:=k0.cons_inv
 obtain⟨q2,r2,rfl,h2,k2⟩:=k1.cons_inv
 have e:=k2.Ab
 subst e
 obtain⟨v0,rfl,u0⟩:=h0.qg (k:= .i64) (by kernel_rfl)
 obtain⟨v1,rfl⟩:=h1.TB (by kernel_rfl)
 obtain⟨v2,rfl,u2⟩:=h2.qg (k:= .i64) (by kernel_rfl)
 exact⟨⟨v0,v1,v2⟩,rfl,trivial⟩
theorem aci {r:List TC} (h:uo C.tt Nw r): ∃x:Vol,r=dD x∧x.name.size≤140737488355328∧x.size≤9223372036854775807:=by
 obtain⟨q0,r0,rfl,h0,k0⟩:=(h.qL (fs:=[(0,9),(1,3),(2,3),(3,4)]) (by kernel_rfl)).cons_inv
 obtain⟨q1,r1,rfl,h1,k1⟩:=k0.cons_inv
 obtain⟨q2,r2,rfl,h2,k2⟩:=k1.cons_inv
 obtain⟨q3,r3,rfl,h3,k3⟩:=k2.cons_inv
 have e:=k3.Ab
 subst e
 obtain⟨v0,rfl,z0⟩:=h0.aab (by kernel_rfl)
 obtain⟨v1,rfl,u1⟩:=h1.qg (k:= .i64) (by kernel_rfl)
 obtain⟨v2,rfl,u2⟩:=h2.qg (k:= .i64) (by kernel_rfl)
 obtain⟨v3,rfl⟩:=h3.TB (by kernel_rfl)
 exact⟨⟨v0,v1,v2,v3⟩,rfl,⟨Nat.le_trans z0 (by decide),acf u2⟩⟩
theorem W8 {r:List TC} (h:uo C.tt aao r): ∃l:List (Int),r=[.sub 1 (l.map bC)]∧l.length≤140737488355328∧ ∀x∈l,True:=by
 obtain⟨w,rfl,y,z⟩:=h.r9 (e:=aa7) (by kernel_rfl)
 obtain⟨l,rfl,hl⟩:=oQ fun r hr=>Zo (y r hr)
 rw[List.length_map] at z
 exact⟨l,rfl,FF z (by decide+kernel),hl⟩
theorem W9 {r:List TC} (h:uo C.tt Ar r): ∃l:List (Key),r=[.sub 5 (l.map bu)]∧l.length≤140737488355328∧ ∀x∈l,True:=by
 obtain⟨w,rfl,y,z⟩:=h.r9 (e:=Nv) (by kernel_rfl)
 obtain⟨l,rfl,hl⟩:=oQ fun r hr=>acg (y r hr)
 rw[List.length_map] at z
 exact⟨l,rfl,FF z (by decide+kernel),hl⟩
theorem Xc {r:List TC} (h:uo C.tt Sf r): ∃l:List (Age),r=[.sub 2 (l.map bV)]∧l.length≤140737488355328∧ ∀x∈l,True:=by
 obtain⟨w,rfl,y,z⟩:=h.r9 (e:=Nu) (by kernel_rfl)
 obtain⟨l,rfl,hl⟩:=oQ fun r hr=>ach (y r hr)
 rw[List.length_map] at z
 exact⟨l,rfl,FF z (by decide+kernel),hl⟩
theorem Vt {r:List TC} (h:uo C.tt OL r): ∃l:List (Cell),r=[.sub 3 (l.map bU)]∧l.length≤140737488355328∧ ∀x∈l,True:=by
 obtain⟨w,rfl,y,z⟩:=h.r9 (e:=JY) (by kernel_rfl)
 obtain⟨l,rfl,hl⟩:=oQ fun r hr=>aaz (y r hr)
 rw[List.length_map] at z
 exact⟨l,rfl,FF z (by decide+kernel),hl⟩
theorem Xd {r:List TC} (h:uo C.tt Sg r): ∃l:List (Vol),r=[.sub 4 (l.map dD)]∧l.length≤140737488355328∧ ∀x∈l,x.name.size≤140737488355328∧x.size≤9223372036854775807:=by
 obtain⟨w,rfl,y,z⟩:=h.r9 (e:=Nw) (by kernel_rfl)
 obtain⟨l,rfl,hl⟩:=oQ fun r hr=>aci (y r hr)
 rw[List.length_map] at z
 exact⟨l,rfl,FF z (by decide+kernel),hl⟩
theorem acj {r:List TC} (h:uo C.tt Ar r): ∃s:List Key,r=bX s∧s.length≤140737488355328:=by
 obtain⟨l,rfl,hl,_⟩:=W9 h
 exact⟨l,rfl,hl⟩
theorem Xe {r:List TC} (h:uo C.tt OK r): ∃l:List (List Key),r=[.sub 1 (l.map bX)]∧l.length≤140737488355328∧ ∀x∈l,x.length≤140737488355328:=by
 obtain⟨w,rfl,y,z⟩:=h.r9 (e:=Ar) (by kernel_rfl)
 obtain⟨l,rfl,hl⟩:=oQ fun r hr=>acj (y r hr)
 rw[List.length_map] at z
 exact⟨l,rfl,FF z (by decide+kernel),hl⟩
theorem aaA {r:List TC} (h:uo C.tt JZ r): ∃n:List (List Key),r=aI n∧(n.length≤140737488355328∧ ∀s∈n,s.length≤140737488355328):=by
 obtain⟨q0,r0,rfl,h0,k0⟩:=(h.qL (fs:=[(0,178)]) (by kernel_rfl)).cons_inv
 have e:=k0.Ab
 subst e
 obtain⟨l,rfl,hl,hs⟩:=Xe h0
 exact⟨l,rfl,hl,hs⟩
theorem Vu {r:List TC} (h:uo C.tt OM r): ∃l:List (List (List Key)),r=[.sub 1 (l.map aI)]∧l.length≤140737488355328∧ ∀x∈l,x.length≤140737488355328∧ ∀s∈x,s.length≤140737488355328:=by
 obtain⟨w,rfl,y,z⟩:=h.r9 (e:=JZ) (by kernel_rfl)
 obtain⟨l,rfl,hl⟩:=oQ fun r hr=>aaA (y r hr)
 rw[List.length_map] at z
 exact⟨l,rfl,FF z (by decide+kernel),hl⟩
theorem aaB {r:List TC} (h:uo C.tt T7 r): ∃t:Tree,r=V7 t∧Y7 t:=by
 obtain⟨q0,r0,rfl,h0,k0⟩:=(h.qL (fs:=[(0,22),(1,23)]) (by kernel_rfl)).cons_inv
 obtain⟨q1,r1,rfl,h1,k1⟩:=k0.cons_inv
 have e:=k1.Ab
 subst e
 obtain⟨l,rfl,hl,_⟩:=W8 h0
 obtain⟨n,rfl,hn,hs⟩:=Vu h1
 exact⟨⟨l,n⟩,rfl,⟨hl,hn,hs⟩⟩
theorem aaC {r:List TC} (h:uo C.tt sP r): ∃p:Pool,r=jT p∧Wd p:=by
 obtain⟨q0,r0,rfl,h0,k0⟩:=(h.qL (fs:=[(0,25),(2,26),(3,27),(4,28),(5,3)]) (by kernel_rfl)).cons_inv
 obtain⟨q1,r1,rfl,h1,k1⟩:=k0.cons_inv
 obtain⟨q2,r2,rfl,h2,k2⟩:=k1.cons_inv
 obtain⟨q3,r3,rfl,h3,k3⟩:=k2.cons_inv
 obtain⟨q4,r4,rfl,h4,k4⟩:=k3.cons_inv
 have e:=k4.Ab
 subst e
 obtain⟨t,rfl,ht⟩:=aaB h0
 obtain⟨a,rfl,ha,_⟩:=Xc h1
 obtain⟨c,rfl,hc,_⟩:=Vt h2
 obtain⟨v,rfl,hv,hw⟩:=Xd h3
 obtain⟨n,rfl,_⟩:=Zo h4
 exact⟨⟨t,a,c,v,n⟩,rfl,⟨ht,ha,hc,hv,fun v h=>(hw v h).1,fun v h=>(hw v h).2⟩⟩
theorem ack {v:TV} (h:WfV C.tt sP v): ∃x:Pool,v=gW x∧Wd x:=by
 have ht:(C.tt sP).ti= .struct [(0,25),(2,26),(3,27),(4,28),(5,3)]:=by kernel_rfl
 cases h with
 |c hs hw=>exact absurd ht (hs _)
 |ag _ hw=>
  obtain⟨x,rfl,hx⟩:=aaC hw
  exact⟨x,rfl,hx⟩
theorem acm {a:Int} {n:Nat} (h:bK (mY a n) 0=false) (h0:0≤a∧a≤1048576):(n:Int)≤a∧(0≤mY a n∧mY a n≤1048576)∧mY a n=a-n:=by
 rw[eD] at h
 have h: ¬mY a n<0:=of_decide_eq_false h
 unfold mY at*
 split at h<;>simp_all<;>omega
theorem Zq {t:Tree} (h:cw t≤4194304):Rj t:=by
 unfold cw rC at h
 refine⟨by omega,by omega,fun n hn=> ?_⟩
 have h1:=nY (w:=aH) hn
 have e:aH n=n.length+tot bH n:=rfl
 exact⟨by omega,fun s hs=>by
  have h2:=nY (w:=bH) hs
  have e2:bH s=s.length:=rfl
  omega⟩
theorem Zr (l:List Key):tot FC l=5*l.length:=uu 5 l
theorem Zs (n:List (List Key)):tot ko n≤5*tot bH n:=by
 induction n with
 |nil=>simp[tot]
 |cons s r ih=>
  simp only[tot]
  have:ko s=5*s.length:=Zr s
  have e:bH s=s.length:=rfl
  omega
theorem Xf (l:List (List (List Key))):tot mo l≤5*tot aH l:=by
 induction l with
 |nil=>simp[tot]
 |cons n r ih=>
  simp only[tot]
  have h1:=Zs n
  have h2:aH n=n.length+tot bH n:=rfl
  have h3:mo n=tot ko n:=rfl
  omega
theorem Zu (t:Tree):AL t≤5*cw t:=by
 have h1:=Xf t.nodes
 have h2:tot GR t.lows=1*t.lows.length:=uu 1 t.lows
 unfold AL cw rC
 omega
theorem Ud {p:Pool} (h:cY p≤4194304):T8 p:=by
 unfold cY H9 at h
 exact⟨Zq (by omega),by omega,by omega,by omega⟩
theorem Ue (p:Pool):J3 p≤5*cY p:=by
 have h1:=Zu p.t
 have h2:tot FD p.ages=2*p.ages.length:=uu 2 p.ages
 have h3:tot wB p.cells=3*p.cells.length:=uu 3 p.cells
 have h4:tot IE p.vols=4*p.vols.length:=uu 4 p.vols
 unfold J3 cY H9
 omega
theorem O4 (p:Pool) (w_p:Wd p):aa C nW [gW p] (vB true) []:=by
 refine(zy _ _ _ _ _ _ _ ?_).run
 refine⟨_,Vo _ _ (by first|omega|assumption) (by assumption),?_⟩
 refine p7 (fun _=>⟨rfl,by first|rfl|trivial⟩) fun hz0=> ?_
 obtain⟨hz0a,hz0b,hz0c⟩:=acm hz0 (by first|omega|assumption)
 have hB:=Ud (p:=p) (by omega)
 have hS:cY p≤4194304:=by omega
 have hP:=fo hS
 have hsz:cY (jY p).1≤4194304:=Nat.le_trans (Sd p) (by omega)
 have hB2:=Ud (p:=(jY p).1) hsz
 have hw:=Ue p
 have hw2:=Ue (jY p).1
 refine⟨_,_,_,_,_,_,Si _ (by assumption),?_⟩
 refine⟨_,_,_,_,_,_,_,FA p (by omega),?_⟩
 refine⟨_,_,_,_,_,_,Si _ (by assumption),?_⟩
 refine⟨_,_,_,_,_,_,_,uV p (by omega),?_⟩
 refine⟨_,Sj _ (by assumption),?_⟩
 refine an (by first|rfl|(simp;done)|(simp;omega)) ?_
 refine an (by first|rfl|(simp;done)|(simp;omega)) ?_
 refine⟨_,_,_,_,_,_,Si _ (by assumption),?_⟩
 refine⟨_,Sj _ (by assumption),?_⟩
 refine an (by first|rfl|(simp;done)|(simp;omega)) ?_
 refine⟨_,_,_,_,_,_,_,Ub _ 1 (by omega) (by omega) (by assumption),?_⟩
 refine an (by first|rfl|(simp;done)|(simp;omega)) ?_
 refine⟨_,Sj _ (by assumption),?_⟩
 refine an (by first|rfl|(simp;done)|(simp;omega)) ?_
 refine an (by first|rfl|(simp;done)|(simp;omega)) ?_
 refine⟨_,_,_,_,_,_,_,Ub _ 1 (by omega) (by omega) (by assumption),?_⟩
 refine⟨_,Uc _ 1 (by omega) (by omega) (by assumption),?_⟩
 refine an (by first|rfl|(simp;done)|(simp;omega)) ?_
 refine an (by first|rfl|(simp;done)|(simp;omega)) ?_
 refine⟨_,_,_,_,_,_,Si _ (by assumption),?_⟩
 refine⟨_,_,_,_,_,_,_,uV p (by omega),?_⟩
 refine⟨_,Sj _ (by assumption),?_⟩
 refine an (by first|rfl|(simp;done)|(simp;omega)) ?_
 refine an (by first|rfl|(simp;done)|(simp;omega)) ?_
 refine⟨_,Uc _ 1 (by omega) (by omega) (by assumption),?_⟩
 refine an (by first|rfl|(simp;done)|(simp;omega)) ?_
 refine an (by first|rfl|(simp;done)|(simp;omega)) ?_
 exact⟨rfl,by first|rfl|trivial⟩
theorem O5 (vs:List TV) (h:Ty C.tt [sP] vs): ∃k,je C k nW vs (vB true) []:=by
 cases h with
 |cons h0 h=>
  cases h
  obtain⟨p,rfl,wp⟩:=ack h0
  exact O4 p wp
end Go.T.R
