/- What the functions answer. -/
import Derived.Test.YtiinnfilgnhjfaaGreatTP0
set_option linter.unusedVariables false
set_option linter.unusedSimpArgs false
set_option maxRecDepth 100000
set_option maxHeartbeats 4000000
namespace Go.T.R
open Go Go.T
theorem rP (t:Tree) (i c:Nat) (lw:List Int) (nd:List (List (List Key))) (h1:i+c≤t.lows.length) (h2:i+c≤t.nodes.length) (hl:t.lows.length≤1073741824) (hn:t.nodes.length≤1073741824) (hlw:lw.length≤1073741824) (hnd:nd.length≤1073741824):aa C je [c8 t,vI (i:Int),vI (c:Int),lz lw,uR nd] (c8 (lC t i c lw nd)) []:=by
 have e1:aA (t.lows.map bq) 0 (i:Int)=(t.lows.take i).map bq:=by rw[cv];rfl
 have e2:aA (t.lows.map bq) ((i:Int)+(c:Int)) (Int.ofNat (t.lows.map bq).length)=(t.lows.drop (i+c)).map bq:=by
  rw[cv,List.length_map,show((i:Int)+(c:Int)).toNat=i+c from by omega,show(Int.ofNat t.lows.length).toNat=t.lows.length from rfl,List.take_length]
 have e3:aA (t.nodes.map aH) 0 (i:Int)=(t.nodes.take i).map aH:=by rw[cv];rfl
 have ea:ay (i:Int) (c:Int)=(i:Int)+(c:Int):=aB (by omega)
 have k1:(t.lows.take i).length≤t.lows.length:=by rw[List.length_take];omega
 have k2:(t.lows.drop (i+c)).length≤t.lows.length:=by rw[List.length_drop];omega
 have k3:(t.nodes.take i).length≤t.nodes.length:=by rw[List.length_take];omega
 have k4:(t.nodes.drop (i+c)).length≤t.nodes.length:=by rw[List.length_drop];omega
 have e4:aA (iE 1 (t.nodes.map aH) 0 (i:Int)) ((i:Int)+(c:Int)) (Int.ofNat (t.nodes.map aH).length)=(t.nodes.drop (i+c)).map aH:=by
  rw[Xu (by rw[List.length_map];exact h2),List.map_drop]
 refine(Mn _ _ _ _ _ _ _ ?_).run
 rw[ea,e1,e2,e3,e4]
 refine ai (by simp<;>omega) ⟨_,wG (t.lows.take i) (by omega),?_⟩
 rw[ku,ku,ku,ku]
 refine ai (by simp<;>omega) (ai (by rw[kM,cZ (by simp only[List.length_map,Nat.add_eq];omega)];rfl) (ai (by rw[kM,cZ (by simp only[List.length_map,List.length_append,Nat.add_eq];omega)];rfl)
  (ai (by simp<;>omega) (ai (by simp<;>omega) (ai (cZ (by simp<;>omega)) (ai (cZ (by simp only[List.length_map,Nat.add_eq];omega)) (ai (cZ (by simp only[List.length_map,List.length_append,Nat.add_eq];omega)) ?_)))))))
 exact⟨rfl,by first|rfl|trivial⟩
def RK:Option Nat→Int
 |some i=>i
 |none=> -1
theorem tK (t:Tree) (hn:t.nodes.length≤1073741824) (hz:tot aI t.nodes≤1073740000):aa C gT [c8 t] (vI (RK (p5 t))) []:=by
 refine(QU _ _ _ ?_).run
 have key: ∀(d i:Nat),i+d=t.nodes.length→sR t d i=p5 t→ah C gT ak 4 0 (qH (i:Int) (t.lows.map bq) (t.nodes.map aH)) (fun x st=>au C gT ak x st fun r fs=>r=vI (RK (p5 t))∧fs=[]):=by
  intro d
  induction d with
  |zero=>
   intro i h he
   have ea:ay (i:Int) 1=(i:Int)+1:=aB (by omega)
   refine CM _ _ _ _ ?_
   rw[ea]
   exact an (by simp<;>omega) (CN _ _ _ _ _ ⟨by rw[←he];rfl,rfl⟩)
  |succ d ih=>
   intro i h he
   have ea:ay (i:Int) 1=(i:Int)+1:=aB (by omega)
   have ec:(i:Int)+1=((i+1:Nat):Int):=by omega
   unfold sR at he
   refine CM _ _ _ _ ?_
   rw[ea,ec]
   by_cases h1:i+1<t.nodes.length
   ·rw[if_pos h1] at he
    obtain⟨a,ha⟩: ∃a,t.nodes[i]?=some a:=⟨_,List.getElem?_eq_getElem (by omega)⟩
    obtain⟨b,hb⟩: ∃b,t.nodes[i+1]?=some b:=⟨_,List.getElem?_eq_getElem h1⟩
    have za:a.length+tot bH a≤tot aI t.nodes:=lB (w:=aI) ha
    have zb:b.length+tot bH b≤tot aI t.nodes:=lB (w:=aI) hb
    have ka:jl t i=aK a:=by unfold jl;rw[List.getD_eq_getElem?_getD,ha];rfl
    have kb:jl t (i+1)=aK b:=by unfold jl;rw[List.getD_eq_getElem?_getD,hb];rfl
    have la:=cX a
    have lb:=cX b
    rw[ka,kb] at he
    refine ai (by simp<;>omega) ⟨_,by rw[bD,aE,ha];rfl,_,by rw[bD,aE,hb];rfl,_,(eP a (by omega) (by omega) _).2 rfl,_,(eP b (by omega) (by omega) _).2 rfl,?_⟩
    rw[List.length_map,List.length_map,show ay (Int.ofNat (aK a).length) (Int.ofNat (aK b).length)=((aK a).length:Int)+(aK b).length from aB (by simp<;>omega)]
    by_cases h2:(aK a).length+(aK b).length≤6
    ·rw[if_pos h2] at he
     exact ai (by simp<;>omega) (Mu _ _ _ _ _ _ ⟨by rw[←he];rfl,rfl⟩)
    ·rw[if_neg h2] at he
     exact an (by simp<;>omega) (ih (i+1) (by omega) he)
   ·rw[if_neg h1] at he
    exact an (by simp<;>omega) (CN _ _ _ _ _ ⟨by rw[←he];rfl,rfl⟩)
 exact key t.nodes.length 0 (by omega) rfl
theorem KM (t0:Tree) (hw0:t0.lows.length=t0.nodes.length) (hz0:tot aI t0.nodes+t0.nodes.length≤1073700000):aa C aU [c8 t0] (c8 (lD t0.nodes.length t0)) []:=by
 refine(P7 _ _ _ ⟨_,tK t0 (by omega) (by omega),?_⟩).run
 have key: ∀(m:Nat) (t:Tree),t.nodes.length=m→t.lows.length=t.nodes.length→tot aI t.nodes+t.nodes.length≤1073700000→lD m t=lD t0.nodes.length t0→ah C aU ak 4 0 (nE (RK (p5 t)) (t.lows.map bq) (t.nodes.map aH)) (fun x st=>au C aU ak x st fun r fs=>r=c8 (lD t0.nodes.length t0)∧fs=[]):=by
  intro m
  induction m with
  |zero=>
   intro t hm hw hz he
   have hp:p5 t=none:=by unfold p5;rw[hm];rfl
   rw[hp]
   exact tP _ _ _ _ (an (by simp[RK]) (Ci _ _ _ _ _ ⟨by rw[←he];rfl,rfl⟩))
  |succ m ih=>
   intro t hm hw hz he
   rw[sw] at he
   cases hp:p5 t with
   |none=>
    rw[hp] at he
    have he:t=lD t0.nodes.length t0:=he
    exact tP _ _ _ _ (an (by simp[RK]) (Ci _ _ _ _ _ ⟨by rw[←he],rfl⟩))
   |some i=>
   rw[hp] at he
   have he:lD m (cO t i)=lD t0.nodes.length t0:=he
   have hlt:=sv hp
   show ah C aU ak 4 0 (nE (i:Int) (t.lows.map bq) (t.nodes.map aH)) _
   obtain⟨a,ha⟩: ∃a,t.nodes[i]?=some a:=⟨_,List.getElem?_eq_getElem (by omega)⟩
   obtain⟨b,hb⟩: ∃b,t.nodes[i+1]?=some b:=⟨_,List.getElem?_eq_getElem hlt.1⟩
   have za:a.length+tot bH a≤tot aI t.nodes:=lB (w:=aI) ha
   have zb:b.length+tot bH b≤tot aI t.nodes:=lB (w:=aI) hb
   have la:=cX a
   have lb:=cX b
   have h6:=hlt.2
   rw[ia ha,ia hb] at h6
   have ea:ay (i:Int) 1=((i+1:Nat):Int):=by rw[aB (by omega)];omega
   have eb:ay (i:Int) 2=((i+2:Nat):Int):=by rw[aB (by omega)];omega
   have ra:rowAt (t.nodes.map aH) (i:Int)=some [TC.sub 1 (a.map bX)]:=by rw[bD,aE,ha];rfl
   have rb:rowAt (t.nodes.map aH) ((i+1:Nat):Int)=some [TC.sub 1 (b.map bX)]:=by rw[bD,aE,hb];rfl
   have c1:aA (t.lows.map bq) 0 ((i+1:Nat):Int)=(t.lows.take (i+1)).map bq:=by rw[cv];rfl
   have c2:aA (t.lows.map bq) ((i+2:Nat):Int) (Int.ofNat (t.lows.map bq).length)=(t.lows.drop (i+2)).map bq:=by
    rw[cv,List.length_map,Int.toNat_natCast,show(Int.ofNat t.lows.length).toNat=t.lows.length from rfl,List.take_length]
   have c3:aA (t.nodes.map aH) 0 (i:Int)=(t.nodes.take i).map aH:=by rw[cv];rfl
   have c4:aA (t.nodes.map aH) ((i+2:Nat):Int) (Int.ofNat (t.nodes.map aH).length)=(t.nodes.drop (i+2)).map aH:=by
    rw[cv,List.length_map,Int.toNat_natCast,show(Int.ofNat t.nodes.length).toNat=t.nodes.length from rfl,List.take_length]
   have hlo:i<t.lows.length:=by omega
   have eL:List.append ((t.lows.take (i+1)).map bq) ((t.lows.drop (i+2)).map bq)=(cO t i).lows.map bq:=by
    rw[ku]
    unfold cO lC
    simp only[]
    rw[List.take_add_one,List.getD_eq_getElem?_getD,List.getElem?_eq_getElem hlo]
    simp
   have eN:List.append (List.append ((t.nodes.take i).map aH) [[TC.sub 1 ((cF (aK a++aK b)).map bX)]]) ((t.nodes.drop (i+2)).map aH)=(cO t i).nodes.map aH:=by
    rw[GV,ku]
    unfold cO lC
    simp only[]
    rw[ia ha,ia hb]
   have hsz:=wA hlt.1
   have hjl:=um hlt.1
   have hjw:(cO t i).lows.length+1=t.lows.length:=by
    have:=Aw t i 2 [t.lows.getD i 0] [cF (jl t i++jl t (i+1))] (by omega)
    unfold cO
    simp only[List.length_singleton] at this
    omega
   have k1:(t.lows.take (i+1)).length≤t.lows.length:=by rw[List.length_take];omega
   have k2:(t.lows.drop (i+2)).length≤t.lows.length:=by rw[List.length_drop];omega
   have k3:(t.nodes.take i).length≤t.nodes.length:=by rw[List.length_take];omega
   have k4:(t.nodes.drop (i+2)).length≤t.nodes.length:=by rw[List.length_drop];omega
   refine tP _ _ _ _ (ai (by simp) ?_)
   rw[ea,eb]
   refine⟨_,ra,_,ra,_,rb,_,rb,_,(eP a (by omega) (by omega) _).2 rfl,_,(eP b (by omega) (by omega) _).2 rfl,?_⟩
   rw[ku,c1,c2,c3,c4]
   refine ai (by rw[kN,cZ (by simp only[List.length_map,Nat.add_eq];omega)];rfl) (ai (by simp<;>omega) (ai (by simp<;>omega) (ai (by rw[kM,cZ (by simp only[List.length_map,Nat.add_eq];omega)];rfl) (ai (by rw[kM,cZ (by simp only[List.length_map,Nat.add_eq];omega)];rfl)
    (ai (by simp<;>omega) (ai (by simp<;>omega) (ai (cZ (by simp only[List.length_map,Nat.add_eq];omega)) ⟨_,jw (aK a++aK b) (by rw[List.length_append];omega),ai (cZ (by simp only[List.length_map,Nat.succ_eq_add_one];omega)) ?_⟩)))))))
   rw[eL,eN]
   refine ai (cZ (by rw[GV];simp only[List.length_map,List.length_append,List.length_singleton,Nat.add_eq];omega)) ⟨_,tK (cO t i) (by omega) (by omega),?_⟩
   exact ih (cO t i) (by omega) (by omega) (by omega) he
 cases hp:p5 t0 with
 |none=>
  have hj:lD t0.nodes.length t0=t0:=by
   cases hm:t0.nodes.length with
   |zero=>rfl
   |succ m=>rw[sw,hp]
  exact Ch _ _ _ _ (an (by simp[RK]) (Lw _ _ _ _ _ ⟨by rw[hj],rfl⟩))
 |some i=>
  have hlt:=sv hp
  obtain⟨t,ht⟩: ∃t,t=t0:=⟨_,rfl⟩
  rw[←ht] at hlt hw0 hz0 hp ⊢
  show ah C aU ak 4 0 (tN (i:Int) (t.lows.map bq) (t.nodes.map aH)) _
  obtain⟨a,ha⟩: ∃a,t.nodes[i]?=some a:=⟨_,List.getElem?_eq_getElem (by omega)⟩
  obtain⟨b,hb⟩: ∃b,t.nodes[i+1]?=some b:=⟨_,List.getElem?_eq_getElem hlt.1⟩
  have za:a.length+tot bH a≤tot aI t.nodes:=lB (w:=aI) ha
  have zb:b.length+tot bH b≤tot aI t.nodes:=lB (w:=aI) hb
  have la:=cX a
  have lb:=cX b
  have h6:=hlt.2
  rw[ia ha,ia hb] at h6
  have ea:ay (i:Int) 1=((i+1:Nat):Int):=by rw[aB (by omega)];omega
  have eb:ay (i:Int) 2=((i+2:Nat):Int):=by rw[aB (by omega)];omega
  have ra:rowAt (t.nodes.map aH) (i:Int)=some [TC.sub 1 (a.map bX)]:=by rw[bD,aE,ha];rfl
  have rb:rowAt (t.nodes.map aH) ((i+1:Nat):Int)=some [TC.sub 1 (b.map bX)]:=by rw[bD,aE,hb];rfl
  have c1:aA (t.lows.map bq) 0 ((i+1:Nat):Int)=(t.lows.take (i+1)).map bq:=by rw[cv];rfl
  have c2:aA (t.lows.map bq) ((i+2:Nat):Int) (Int.ofNat (t.lows.map bq).length)=(t.lows.drop (i+2)).map bq:=by
   rw[cv,List.length_map,Int.toNat_natCast,show(Int.ofNat t.lows.length).toNat=t.lows.length from rfl,List.take_length]
  have c3:aA (t.nodes.map aH) 0 (i:Int)=(t.nodes.take i).map aH:=by rw[cv];rfl
  have c4:aA (t.nodes.map aH) ((i+2:Nat):Int) (Int.ofNat (t.nodes.map aH).length)=(t.nodes.drop (i+2)).map aH:=by
   rw[cv,List.length_map,Int.toNat_natCast,show(Int.ofNat t.nodes.length).toNat=t.nodes.length from rfl,List.take_length]
  have hlo:i<t.lows.length:=by omega
  have eL:List.append ((t.lows.take (i+1)).map bq) ((t.lows.drop (i+2)).map bq)=(cO t i).lows.map bq:=by
   rw[ku]
   unfold cO lC
   simp only[]
   rw[List.take_add_one,List.getD_eq_getElem?_getD,List.getElem?_eq_getElem hlo]
   simp
  have eN:List.append (List.append ((t.nodes.take i).map aH) [[TC.sub 1 ((cF (aK a++aK b)).map bX)]]) ((t.nodes.drop (i+2)).map aH)=(cO t i).nodes.map aH:=by
   rw[GV,ku]
   unfold cO lC
   simp only[]
   rw[ia ha,ia hb]
  have hsz:=wA hlt.1
  have hjl:=um hlt.1
  have hjw:(cO t i).lows.length+1=t.lows.length:=by
   have:=Aw t i 2 [t.lows.getD i 0] [cF (jl t i++jl t (i+1))] (by omega)
   unfold cO
   simp only[List.length_singleton] at this
   omega
  have k1:(t.lows.take (i+1)).length≤t.lows.length:=by rw[List.length_take];omega
  have k2:(t.lows.drop (i+2)).length≤t.lows.length:=by rw[List.length_drop];omega
  have k3:(t.nodes.take i).length≤t.nodes.length:=by rw[List.length_take];omega
  have k4:(t.nodes.drop (i+2)).length≤t.nodes.length:=by rw[List.length_drop];omega
  refine Ch _ _ _ _ (ai (by simp) ?_)
  rw[ea,eb]
  refine⟨_,ra,_,rb,_,(eP a (by omega) (by omega) _).2 rfl,_,(eP b (by omega) (by omega) _).2 rfl,?_⟩
  rw[ku,c1,c2,c3,c4]
  refine ai (by rw[kN,cZ (by simp only[List.length_map,Nat.add_eq];omega)];rfl) (ai (by simp<;>omega) (ai (by simp<;>omega) (ai (by rw[kM,cZ (by simp only[List.length_map,Nat.add_eq];omega)];rfl) (ai (by rw[kM,cZ (by simp only[List.length_map,Nat.add_eq];omega)];rfl)
   (ai (by simp<;>omega) (ai (by simp<;>omega) (ai (cZ (by simp only[List.length_map,Nat.add_eq];omega)) ⟨_,jw (aK a++aK b) (by rw[List.length_append];omega),ai (cZ (by simp only[List.length_map,Nat.succ_eq_add_one];omega)) ?_⟩)))))))
  rw[eL,eN]
  refine ai (cZ (by rw[GV];simp only[List.length_map,List.length_append,List.length_singleton,Nat.add_eq];omega)) ⟨_,tK (cO t i) (by omega) (by omega),?_⟩
  refine ht▸key (cO t i).nodes.length (cO t i) rfl (by omega) (by omega) ?_
  rw[←ht]
  have:t.nodes.length=(cO t i).nodes.length+1:=by omega
  rw[this]
  rw[sw,hp]
theorem Km (t u:Tree) (hw:t.lows.length=t.nodes.length) (hz:tot aI t.nodes+t.nodes.length≤1073700000) (E:p5 t=none→t=u)
 (N: ∀i,p5 t=some i→ah C dA ak 4 0 (jG ((0:Nat):Int) ((cO t i).lows.map bq) ((cO t i).nodes.map aH)) (fun x st=>au C dA ak x st fun r fs=>r=c8 u∧fs=[])):
 ∀d i,i+d=t.nodes.length→sR t d i=p5 t→ah C dA ak 4 0 (jG (i:Int) (t.lows.map bq) (t.nodes.map aH)) (fun x st=>au C dA ak x st fun r fs=>r=c8 u∧fs=[]):=by
 intro d
 induction d with
 |zero=>
  intro i h he
  have ea:ay (i:Int) 1=(i:Int)+1:=aB (by omega)
  refine Cs _ _ _ _ ?_
  rw[ea]
  exact an (by simp<;>omega) (Ct _ _ _ _ _ ⟨by rw[E (by rw[←he];rfl)],rfl⟩)
 |succ d ih=>
  intro i h he
  have ea:ay (i:Int) 1=(i:Int)+1:=aB (by omega)
  have ec:(i:Int)+1=((i+1:Nat):Int):=by omega
  unfold sR at he
  refine Cs _ _ _ _ ?_
  rw[ea,ec]
  by_cases h1:i+1<t.nodes.length
  ·rw[if_pos h1] at he
   obtain⟨a,ha⟩: ∃a,t.nodes[i]?=some a:=⟨_,List.getElem?_eq_getElem (by omega)⟩
   obtain⟨b,hb⟩: ∃b,t.nodes[i+1]?=some b:=⟨_,List.getElem?_eq_getElem h1⟩
   have za:a.length+tot bH a≤tot aI t.nodes:=lB (w:=aI) ha
   have zb:b.length+tot bH b≤tot aI t.nodes:=lB (w:=aI) hb
   have la:=cX a
   have lb:=cX b
   rw[ia ha,ia hb] at he
   have ra:rowAt (t.nodes.map aH) (i:Int)=some [TC.sub 1 (a.map bX)]:=by rw[bD,aE,ha];rfl
   have rb:rowAt (t.nodes.map aH) ((i+1:Nat):Int)=some [TC.sub 1 (b.map bX)]:=by rw[bD,aE,hb];rfl
   refine ai (by simp<;>omega) ⟨_,ra,_,ra,_,rb,_,rb,_,(jC a (by omega) (by omega) _).2 rfl,_,(jC b (by omega) (by omega) _).2 rfl,ai (by rw[kN,cZ (by simp only[List.length_map,Nat.add_eq];omega)];rfl) ?_⟩
   rw[ku]
   by_cases h2:(aK a).length+(aK b).length≤6
   ·rw[if_pos h2] at he
    have hlo:i<t.lows.length:=by omega
    have hlw:rowAt (t.lows.map bq) (i:Int)=some [iI (t.lows.getD i 0)]:=by
     rw[bD,aE,List.getD_eq_getElem?_getD,List.getElem?_eq_getElem hlo];rfl
    have hnn:=oq (aK a++aK b) (by rw[List.length_append];omega)
    have hrp:=rP t i 2 [t.lows.getD i 0] [cF (aK a++aK b)] (by omega) (by omega) (by omega) (by omega) (by simp) (by simp)
    have ej:lC t i 2 [t.lows.getD i 0] [cF (aK a++aK b)]=cO t i:=by unfold cO;rw[ia ha,ia hb]
    rw[ej] at hrp
    have hN:=N i he.symm
    rw[←show ay (-1) 1=((0:Nat):Int) from by rw[aB (by omega)];rfl] at hN
    exact ai (by simp[gD]<;>omega) ⟨_,hlw,_,hlw,_,hnn,_,_,hrp,⟨_,hnn,_,_,hrp,⟨_,_,hrp,rfl⟩,rfl⟩,hN⟩
   ·rw[if_neg h2] at he
    exact an (by simp[gD]<;>omega) (ih (i+1) (by omega) he)
  ·rw[if_neg h1] at he
   exact an (by simp<;>omega) (Ct _ _ _ _ _ ⟨by rw[E he.symm],rfl⟩)
theorem KN (t0:Tree) (hw0:t0.lows.length=t0.nodes.length) (hz0:tot aI t0.nodes+t0.nodes.length≤1073700000):aa C dA [c8 t0] (c8 (lD t0.nodes.length t0)) []:=by
 refine(Qp _ _ _ ?_).run
 have key: ∀(m:Nat) (t:Tree),t.nodes.length=m→t.lows.length=t.nodes.length→tot aI t.nodes+t.nodes.length≤1073700000→ah C dA ak 4 0 (jG ((0:Nat):Int) (t.lows.map bq) (t.nodes.map aH)) (fun x st=>au C dA ak x st fun r fs=>r=c8 (lD m t)∧fs=[]):=by
  intro m
  induction m with
  |zero=>
   intro t hm hw hz
   exact Km t (lD 0 t) hw hz (fun _=>rfl) (fun i hi=>by have:=(sv hi).1;omega) t.nodes.length 0 (by omega) rfl
  |succ m ih=>
   intro t hm hw hz
   refine Km t (lD (m+1) t) hw hz (fun h=>(VK h).symm) (fun i hi=> ?_) t.nodes.length 0 (by omega) rfl
   have h1:=um (sv hi).1
   have h2:=wA (sv hi).1
   have:=ih (cO t i) (by omega) (E1 (sv hi).1 hw) (by omega)
   rw[sw,hi]
   exact this
 exact key t0.nodes.length t0 rfl hw0 hz0
theorem VR {t:Tree} {i:Nat} {n:List (List Key)} (h1:i<t.lows.length) (h2:i<t.nodes.length):lC t i 1 [t.lows.getD i 0] [n]=⟨t.lows,t.nodes.set i n⟩:=by
 unfold lC
 rw[List.set_eq_take_append_cons_drop,if_pos h2,List.getD_eq_getElem?_getD,List.getElem?_eq_getElem h1]
 have e:t.lows.take i++[t.lows[i]]++t.lows.drop (i+1)=t.lows:=by
  rw[List.append_assoc,List.singleton_append,←List.drop_eq_getElem_cons h1,List.take_append_drop]
 simp only[Option.getD_some,e,List.append_assoc,List.singleton_append]
theorem adv {n:Nat} (h:n≤1073741824):gf .i64 (ay (Int.ofNat n) 1) 2=(((n+1)/2:Nat):Int):=by
 rw[aB (by simp;omega)]
 unfold gf
 rw[Int.tdiv_eq_ediv_of_nonneg (by simp;omega),show IntKind.wrap .i64 ((Int.ofNat n+1)/2)=(Int.ofNat n+1)/2 from IntWalk.i64_in _ (by simp;omega)]
 simp
theorem sy (t:Tree) (k:Key) (hz:cz t≤4194304):aa C rL [c8 t,ru k] (zW (bg t k)) []:=by
 have hN:=wJ hz
 have hcp:aa C bE [c8 t] (c8 t) []:=wI t hN.1 hN.2
 refine(OH _ _ _ _ _ _ _ _ ⟨_,tH t (by omega),?_⟩).run
 cases h1:eK t with
 |false=>exact ai rfl ⟨_,_,hcp,⟨by unfold bg;rw[if_neg (by rw[h1];simp)],rfl⟩⟩
 |true=>
 refine an rfl ⟨_,(G2 _ _ _ _ _ _).2 rfl,?_⟩
 change az (!gY k) _ _
 cases h2:gY k with
 |false=>exact ai rfl ⟨_,_,hcp,⟨by unfold bg;rw[if_neg (by rw[h2];simp)],rfl⟩⟩
 |true=>
 obtain⟨i,hi,hil⟩:=NS h1 h2
 have hlen:=qR h1
 have hw:aa C fO [c8 t,vI k.b,vI k.a] (vI (i:Int)) []:=by rw[←hi];exact yR t k.b k.a (by omega)
 have hrow:rowAt (t.nodes.map aH) (i:Int)=some [TC.sub 1 (t.nodes[i].map bX)]:=by rw[bD,aE,List.getElem?_eq_getElem hil];rfl
 have hlow:rowAt (t.lows.map bq) (i:Int)=some [iI (t.lows.getD i 0)]:=by
  rw[bD,aE,List.getD_eq_getElem?_getD,List.getElem?_eq_getElem (by omega)];rfl
 have hg:t.nodes.getD i []=t.nodes[i]:=by rw[List.getD_eq_getElem?_getD,List.getElem?_eq_getElem hil];rfl
 have hok:=wu h1 (List.getElem_mem hil)
 have hsz:=EB hok
 have hps:=Ds t.nodes[i] k
 have hpt:=Dt t.nodes[i] k
 have hkl:=pG t.nodes[i] k
 have hnk:=cX t.nodes[i]
 obtain⟨hp1,hp2,hp3⟩:=Ux (k:=k) h1 hil
 have hR:bg t k=if eK (lD (kL t i k).nodes.length (kL t i k))=true then(lD (kL t i k).nodes.length (kL t i k),true) else(t,false):=by
  unfold bg;rw[if_pos ⟨h1,h2⟩,hi,Int.toNat_natCast]
 have fin: ∀Q:QV,Q (zW (bg t k)) []→ ∃(l39 l40:RR),aa C dA [c8 (kL t i k)] (.ag [.sub 1 l39,.sub 1 l40]) []∧(∃b:Bool,aa C bY [.ag [.sub 1 l39,.sub 1 l40]] (vB b) []∧(az (!b) (∃(l42 l43:RR),aa C bE [c8 t] (.ag [.sub 1 l42,.sub 1 l43]) []∧Q (.tu [(1,[.sub 1 l42,.sub 1 l43]),(0,[iB false])]) []) (Q (.tu [(1,[.sub 1 l39,.sub 1 l40]),(0,[iB true])]) []))):=by
  intro Q hQ
  refine⟨_,_,KN (kL t i k) hp2 (by omega),_,tH _ (by omega),?_⟩
  rw[hR] at hQ
  cases h3:eK (lD (kL t i k).nodes.length (kL t i k)) with
  |true=>rw[if_pos h3] at hQ;exact an rfl hQ
  |false=>rw[if_neg (by rw[h3];simp)] at hQ;exact ai rfl ⟨_,_,hcp,hQ⟩
 have np:=IZ t.nodes[i] k (by omega) (by omega)
 refine an rfl ⟨_,hw,_,_,hcp,_,hrow,_,hrow,?_⟩
 cases hp:(cj t.nodes[i] k).2 with
 |false=>
  have hno:=(NP hok h2 hp).1
  have cno:(!(cj t.nodes[i] k).2)=true:=by rw[hp];rfl
  obtain⟨ks,hks⟩: ∃ks,ks=ct t.nodes[i] k:=⟨_,rfl⟩
  rw[←hks] at hno hkl
  have hh:=WE hno
  obtain⟨h,hhe⟩: ∃h,h=(ks.length+1)/2:=⟨_,rfl⟩
  have hq:gf .i64 (ay (Int.ofNat (List.length (ks.map bw))) 1) 2=(h:Int):=by rw[List.length_map,adv (by omega),hhe]
  have hkk:rowAt (ks.map bw) (h:Int)=some [iI (ks.getD h eo).b,iI (ks.getD h eo).a,iI (ks.getD h eo).k,iI (ks.getD h eo).c,iI (ks.getD h eo).g]:=by
   rw[bD,aE,List.getD_eq_getElem?_getD,List.getElem?_eq_getElem (by omega)];rfl
  have ep:kL t i k=lC t i 1 [t.lows.getD i 0,gZ (ks.getD h eo).b (ks.getD h eo).a] [cF (ks.take h),cF (ks.drop h)]:=by
   unfold kL;rw[hg,if_neg (by rw[hp];simp),←hks,←hhe]
  have rp:=rP t i 1 [t.lows.getD i 0,gZ (ks.getD h eo).b (ks.getD h eo).a] [cF (ks.take h),cF (ks.drop h)] (by omega) (by omega) (by omega) (by omega) (by simp) (by simp)
  rw[←ep] at rp
  have e1:aA (ks.map bw) 0 (h:Int)=(ks.take h).map bw:=by rw[cv];rfl
  have e2:aA (ks.map bw) (h:Int) (Int.ofNat (List.length (ks.map bw)))=(ks.drop h).map bw:=by
   rw[cv,List.length_map,Int.toNat_natCast,show(Int.ofNat ks.length).toNat=ks.length from rfl,List.take_length]
  have nn1:aa C dm [.c (.sub 5 (aA (ks.map bw) 0 (h:Int)))] (gz (cF (ks.take h))) []:=by rw[e1];exact oq _ (by rw[List.length_take];omega)
  have nn2:aa C dm [.c (.sub 5 (aA (ks.map bw) (h:Int) (Int.ofNat (List.length (ks.map bw)))))] (gz (cF (ks.drop h))) []:=by rw[e2];exact oq _ (by rw[List.length_drop];omega)
  have c1:eU 0 (h:Int) (Int.ofNat (List.length (ks.map bw)))=true:=by rw[Dj];simp;omega
  have c2:eU (h:Int) (Int.ofNat (List.length (ks.map bw))) (Int.ofNat (List.length (ks.map bw)))=true:=by rw[Dj];simp;omega
  have kw:aa C fA [gz t.nodes[i],ru k] (cM ks) []:=by
   rw[hks];exact wL t.nodes[i] k (by omega) (by omega)
  clear hks hhe hR
  repeat' first
   |refine⟨_,hrow,?_⟩
   |refine⟨_,hlow,?_⟩
   |refine⟨_,_,np,?_⟩
   |refine ai cno ?_
   |refine⟨_,kw,?_⟩
   |refine an (by rw[aD];rfl) ?_
   |rw[hq]
   |refine⟨_,_,_,_,_,hkk,?_⟩
   |refine ai c1 ?_
   |refine ai c2 ?_
   |refine⟨_,(yt _ _ _).2 rfl,?_⟩
   |refine⟨_,nn1,?_⟩
   |refine⟨_,nn2,?_⟩
   |refine⟨_,_,rp,?_⟩
   |refine⟨(zW (bg t k),([]:List TV)),?_,?_,rfl⟩
   |refine⟨(zW (bg t k),([]:List TV)),?_,?_,⟨rfl,by first|rfl|trivial⟩⟩
   |exact fin (fun a b=>(a,b)=(zW (bg t k),([]:List TV))) rfl
   |exact fin (fun r fs=>r=zW (bg t k)∧fs=[]) ⟨rfl,by first|rfl|trivial⟩
 |true=>
  have cno:(!(cj t.nodes[i] k).2)=false:=by rw[hp];rfl
  by_cases hc:0<i∧(aK (cj t.nodes[i] k).1).length=0
  ·have ci:bI 0 (i:Int)=true:=by rw[dK];simp;omega
   have nk:=(jC (cj t.nodes[i] k).1 (by omega) (by omega) _).2 rfl
   have cl:dF (Int.ofNat (List.length ((aK (cj t.nodes[i] k).1).map bw))) 0=true:=by rw[aD,List.length_map,hc.2];rfl
   have ep:kL t i k=lC t i 1 [] []:=by unfold kL;rw[hg,if_pos hp,if_pos hc]
   have rp:=rP t i 1 [] [] (by omega) (by omega) (by omega) (by omega) (by simp) (by simp)
   rw[←ep] at rp
   clear hR
   repeat' first
   |refine⟨_,hrow,?_⟩
   |refine⟨_,hlow,?_⟩
   |refine⟨_,_,np,?_⟩
   |refine an cno ?_
   |refine ai ci ?_
   |refine⟨_,nk,?_⟩
   |refine ai cl ?_
   |refine⟨_,_,rp,?_⟩
   |refine⟨(zW (bg t k),([]:List TV)),?_,?_,rfl⟩
   |refine⟨(zW (bg t k),([]:List TV)),?_,?_,⟨rfl,by first|rfl|trivial⟩⟩
   |exact fin (fun a b=>(a,b)=(zW (bg t k),([]:List TV))) rfl
   |exact fin (fun r fs=>r=zW (bg t k)∧fs=[]) ⟨rfl,by first|rfl|trivial⟩
  ·have eset:kL t i k=⟨t.lows,t.nodes.set i (cj t.nodes[i] k).1⟩:=by
    unfold kL;rw[hg,if_pos hp,if_neg hc,VR (by omega) hil]
   have es:setRow (t.nodes.map aH) (i:Int) 0 [TC.sub 1 ((cj t.nodes[i] k).1.map bX)]=(t.nodes.set i (cj t.nodes[i] k).1).map aH:=Ue (a:=t.nodes[i]) (by rw[aE,List.getElem?_eq_getElem hil]) rfl
   clear hR
   by_cases hi0:0<i
   ·have ci:bI 0 (i:Int)=true:=by rw[dK];simp;omega
    have nk:=(jC (cj t.nodes[i] k).1 (by omega) (by omega) _).2 rfl
    have cl:dF (Int.ofNat (List.length ((aK (cj t.nodes[i] k).1).map bw))) 0=false:=by
     rw[aD,List.length_map];exact decide_eq_false fun e=>hc ⟨hi0,by have e:((aK (cj t.nodes[i] k).1).length:Int)=0:=e;omega⟩
    repeat' first
   |refine⟨_,hrow,?_⟩
   |refine⟨_,hlow,?_⟩
   |refine⟨_,_,np,?_⟩
   |refine an cno ?_
   |refine ai ci ?_
   |refine⟨_,nk,?_⟩
   |refine an cl ?_
   |refine⟨(zW (bg t k),([]:List TV)),?_,?_,rfl⟩
   |refine⟨(zW (bg t k),([]:List TV)),?_,?_,⟨rfl,by first|rfl|trivial⟩⟩
   |exact fin (fun a b=>(a,b)=(zW (bg t k),([]:List TV))) rfl
   |exact fin (fun r fs=>r=zW (bg t k)∧fs=[]) ⟨rfl,by first|rfl|trivial⟩
   |(rw[es];rw[eset] at fin;exact fin (fun a b=>(a,b)=(zW (bg t k),([]:List TV))) rfl)
   |(rw[es];rw[eset] at fin;exact fin (fun r fs=>r=zW (bg t k)∧fs=[]) ⟨rfl,by first|rfl|trivial⟩)
   ·have ci:bI 0 (i:Int)=false:=by rw[dK];simp;omega
    repeat' first
   |refine⟨_,hrow,?_⟩
   |refine⟨_,hlow,?_⟩
   |refine⟨_,_,np,?_⟩
   |refine an cno ?_
   |refine an ci ?_
   |refine⟨(zW (bg t k),([]:List TV)),?_,?_,rfl⟩
   |refine⟨(zW (bg t k),([]:List TV)),?_,?_,⟨rfl,by first|rfl|trivial⟩⟩
   |exact fin (fun a b=>(a,b)=(zW (bg t k),([]:List TV))) rfl
   |exact fin (fun r fs=>r=zW (bg t k)∧fs=[]) ⟨rfl,by first|rfl|trivial⟩
   |(rw[es];rw[eset] at fin;exact fin (fun a b=>(a,b)=(zW (bg t k),([]:List TV))) rfl)
   |(rw[es];rw[eset] at fin;exact fin (fun r fs=>r=zW (bg t k)∧fs=[]) ⟨rfl,by first|rfl|trivial⟩)
theorem sA (t:Tree) (k:Key) (hz:cz t≤4194304):aa C m6 [c8 t,ru k] (zW (bg t k)) []:=by
 have hN:=wJ hz
 have hcp:aa C cH [c8 t] (c8 t) []:=A4 t hN.1 hN.2
 refine(Oc _ _ _ _ _ _ _ _ ⟨_,_,hcp,_,tG t (by omega),?_⟩).run
 cases h1:eK t with
 |false=>exact ai rfl ⟨by unfold bg;rw[if_neg (by rw[h1];simp)],rfl⟩
 |true=>
 refine an rfl ⟨_,(G3 _ _ _ _ _ _).2 rfl,?_⟩
 change az (!gY k) _ _
 cases h2:gY k with
 |false=>exact ai rfl ⟨by unfold bg;rw[if_neg (by rw[h2];simp)],rfl⟩
 |true=>
 obtain⟨i,hi,hil⟩:=NS h1 h2
 have hlen:=qR h1
 have hw:aa C eM [c8 t,vI k.b,vI k.a] (vI (i:Int)) []:=by rw[←hi];exact yQ t k.b k.a (by omega)
 have hrow:rowAt (t.nodes.map aH) (i:Int)=some [TC.sub 1 (t.nodes[i].map bX)]:=by rw[bD,aE,List.getElem?_eq_getElem hil];rfl
 have hlow:rowAt (t.lows.map bq) (i:Int)=some [iI (t.lows.getD i 0)]:=by
  rw[bD,aE,List.getD_eq_getElem?_getD,List.getElem?_eq_getElem (by omega)];rfl
 have hg:t.nodes.getD i []=t.nodes[i]:=by rw[List.getD_eq_getElem?_getD,List.getElem?_eq_getElem hil];rfl
 have hok:=wu h1 (List.getElem_mem hil)
 have hsz:=EB hok
 have hps:=Ds t.nodes[i] k
 have hpt:=Dt t.nodes[i] k
 have hkl:=pG t.nodes[i] k
 have hnk:=cX t.nodes[i]
 obtain⟨hp1,hp2,hp3⟩:=Ux (k:=k) h1 hil
 have hR:bg t k=if eK (lD (kL t i k).nodes.length (kL t i k))=true then(lD (kL t i k).nodes.length (kL t i k),true) else(t,false):=by
  unfold bg;rw[if_pos ⟨h1,h2⟩,hi,Int.toNat_natCast]
 have fin: ∀Q:QV,Q (zW (bg t k)) []→ ∃(l39 l40:RR),aa C aU [c8 (kL t i k)] (.ag [.sub 1 l39,.sub 1 l40]) []∧(∃b:Bool,aa C aP [.ag [.sub 1 l39,.sub 1 l40]] (vB b) []∧(az (!b) (Q (.tu [(1,Wz t),(0,[iB false])]) []) (Q (.tu [(1,[.sub 1 l39,.sub 1 l40]),(0,[iB true])]) []))):=by
  intro Q hQ
  refine⟨_,_,KM (kL t i k) hp2 (by omega),_,tG _ (by omega),?_⟩
  rw[hR] at hQ
  cases h3:eK (lD (kL t i k).nodes.length (kL t i k)) with
  |true=>rw[if_pos h3] at hQ;exact an rfl hQ
  |false=>rw[if_neg (by rw[h3];simp)] at hQ;exact ai rfl hQ
 have np:=I0 t.nodes[i] k (by omega) (by omega)
 have hx:=u7 t i [t.lows.getD i 0] [(cj t.nodes[i] k).1] (by omega) (by omega) (by omega) (by omega) (by simp) (by simp)
 refine an rfl ⟨_,hw,_,hrow,?_⟩
 cases hp:(cj t.nodes[i] k).2 with
 |false=>
  have hno:=(NP hok h2 hp).1
  have cno:(!(cj t.nodes[i] k).2)=true:=by rw[hp];rfl
  obtain⟨ks,hks⟩: ∃ks,ks=ct t.nodes[i] k:=⟨_,rfl⟩
  rw[←hks] at hno hkl
  have hh:=WE hno
  obtain⟨h,hhe⟩: ∃h,h=(ks.length+1)/2:=⟨_,rfl⟩
  have hq:gf .i64 (ay (Int.ofNat (List.length (ks.map bw))) 1) 2=(h:Int):=by rw[List.length_map,adv (by omega),hhe]
  have hkk:rowAt (ks.map bw) (h:Int)=some [iI (ks.getD h eo).b,iI (ks.getD h eo).a,iI (ks.getD h eo).k,iI (ks.getD h eo).c,iI (ks.getD h eo).g]:=by
   rw[bD,aE,List.getD_eq_getElem?_getD,List.getElem?_eq_getElem (by omega)];rfl
  have ep:kL t i k=lC t i 1 [t.lows.getD i 0,gZ (ks.getD h eo).b (ks.getD h eo).a] [cF (ks.take h),cF (ks.drop h)]:=by
   unfold kL;rw[hg,if_neg (by rw[hp];simp),←hks,←hhe]
  have rp:=u7 t i [t.lows.getD i 0,gZ (ks.getD h eo).b (ks.getD h eo).a] [cF (ks.take h),cF (ks.drop h)] (by omega) (by omega) (by omega) (by omega) (by simp) (by simp)
  rw[←ep] at rp
  have e1:aA (ks.map bw) 0 (h:Int)=(ks.take h).map bw:=by rw[cv];rfl
  have e2:aA (ks.map bw) (h:Int) (Int.ofNat (List.length (ks.map bw)))=(ks.drop h).map bw:=by
   rw[cv,List.length_map,Int.toNat_natCast,show(Int.ofNat ks.length).toNat=ks.length from rfl,List.take_length]
  have nn1:aa C aL [.c (.sub 5 (aA (ks.map bw) 0 (h:Int)))] (gz (cF (ks.take h))) []:=by rw[e1];exact jw _ (by rw[List.length_take];omega)
  have nn2:aa C aL [.c (.sub 5 (aA (ks.map bw) (h:Int) (Int.ofNat (List.length (ks.map bw)))))] (gz (cF (ks.drop h))) []:=by rw[e2];exact jw _ (by rw[List.length_drop];omega)
  have c1:eU 0 (h:Int) (Int.ofNat (List.length (ks.map bw)))=true:=by rw[Dj];simp;omega
  have c2:eU (h:Int) (Int.ofNat (List.length (ks.map bw))) (Int.ofNat (List.length (ks.map bw)))=true:=by rw[Dj];simp;omega
  have kw:aa C dB [cM (fJ (aK t.nodes[i]) k)] (cM ks) []:=by
   rw[hks];exact yq (fJ (aK t.nodes[i]) k) (by have:=oV (aK t.nodes[i]) k;omega)
  clear hks hhe hR
  repeat' first
   |refine⟨_,hrow,?_⟩
   |refine⟨_,hlow,?_⟩
   |refine⟨_,_,np,?_⟩
   |refine⟨_,_,hx,?_⟩
   |refine ai cno ?_
   |refine⟨_,kw,?_⟩
   |refine⟨_,(eP t.nodes[i] (by omega) (by omega) _).2 rfl,?_⟩
   |refine⟨_,nr (aK t.nodes[i]) k (by omega),?_⟩
   |refine an (by rw[aD];rfl) ?_
   |rw[hq]
   |refine⟨_,_,_,_,_,hkk,?_⟩
   |refine ai c1 ?_
   |refine ai c2 ?_
   |refine⟨_,(E6 _ _ _ _ _ _).2 rfl,?_⟩
   |refine⟨_,nn1,?_⟩
   |refine⟨_,nn2,?_⟩
   |refine⟨_,_,rp,?_⟩
   |refine⟨(zW (bg t k),([]:List TV)),?_,?_,rfl⟩
   |refine⟨(zW (bg t k),([]:List TV)),?_,?_,⟨rfl,by first|rfl|trivial⟩⟩
   |exact fin (fun a b=>(a,b)=(zW (bg t k),([]:List TV))) rfl
   |exact fin (fun r fs=>r=zW (bg t k)∧fs=[]) ⟨rfl,by first|rfl|trivial⟩
 |true=>
  have cno:(!(cj t.nodes[i] k).2)=false:=by rw[hp];rfl
  by_cases hc:0<i∧(aK (cj t.nodes[i] k).1).length=0
  ·have ci:bI 0 (i:Int)=true:=by rw[dK];simp;omega
   have nk:=(eP (cj t.nodes[i] k).1 (by omega) (by omega) _).2 rfl
   have cl:dF (Int.ofNat (List.length ((aK (cj t.nodes[i] k).1).map bw))) 0=true:=by rw[aD,List.length_map,hc.2];rfl
   have ep:kL t i k=lC t i 1 [] []:=by unfold kL;rw[hg,if_pos hp,if_pos hc]
   have rp:=u7 t i [] [] (by omega) (by omega) (by omega) (by omega) (by simp) (by simp)
   rw[←ep] at rp
   clear hR
   repeat' first
   |refine⟨_,hrow,?_⟩
   |refine⟨_,hlow,?_⟩
   |refine⟨_,_,np,?_⟩
   |refine⟨_,_,hx,?_⟩
   |refine an cno ?_
   |refine ai ci ?_
   |refine⟨_,nk,?_⟩
   |refine ai cl ?_
   |refine⟨_,_,rp,?_⟩
   |refine⟨(zW (bg t k),([]:List TV)),?_,?_,rfl⟩
   |refine⟨(zW (bg t k),([]:List TV)),?_,?_,⟨rfl,by first|rfl|trivial⟩⟩
   |exact fin (fun a b=>(a,b)=(zW (bg t k),([]:List TV))) rfl
   |exact fin (fun r fs=>r=zW (bg t k)∧fs=[]) ⟨rfl,by first|rfl|trivial⟩
  ·have ep:lC t i 1 [t.lows.getD i 0] [(cj t.nodes[i] k).1]=kL t i k:=by
    unfold kL;rw[hg,if_pos hp,if_neg hc]
   rw[ep] at hx
   clear hR
   by_cases hi0:0<i
   ·have ci:bI 0 (i:Int)=true:=by rw[dK];simp;omega
    have nk:=(eP (cj t.nodes[i] k).1 (by omega) (by omega) _).2 rfl
    have cl:dF (Int.ofNat (List.length ((aK (cj t.nodes[i] k).1).map bw))) 0=false:=by
     rw[aD,List.length_map];exact decide_eq_false fun e=>hc ⟨hi0,by have e:((aK (cj t.nodes[i] k).1).length:Int)=0:=e;omega⟩
    repeat' first
   |refine⟨_,hrow,?_⟩
   |refine⟨_,hlow,?_⟩
   |refine⟨_,_,np,?_⟩
   |refine⟨_,_,hx,?_⟩
   |refine an cno ?_
   |refine ai ci ?_
   |refine⟨_,nk,?_⟩
   |refine an cl ?_
   |refine⟨(zW (bg t k),([]:List TV)),?_,?_,rfl⟩
   |refine⟨(zW (bg t k),([]:List TV)),?_,?_,⟨rfl,by first|rfl|trivial⟩⟩
   |exact fin (fun a b=>(a,b)=(zW (bg t k),([]:List TV))) rfl
   |exact fin (fun r fs=>r=zW (bg t k)∧fs=[]) ⟨rfl,by first|rfl|trivial⟩
   ·have ci:bI 0 (i:Int)=false:=by rw[dK];simp;omega
    repeat' first
   |refine⟨_,hrow,?_⟩
   |refine⟨_,hlow,?_⟩
   |refine⟨_,_,np,?_⟩
   |refine⟨_,_,hx,?_⟩
   |refine an cno ?_
   |refine an ci ?_
   |refine⟨(zW (bg t k),([]:List TV)),?_,?_,rfl⟩
   |refine⟨(zW (bg t k),([]:List TV)),?_,?_,⟨rfl,by first|rfl|trivial⟩⟩
   |exact fin (fun a b=>(a,b)=(zW (bg t k),([]:List TV))) rfl
   |exact fin (fun r fs=>r=zW (bg t k)∧fs=[]) ⟨rfl,by first|rfl|trivial⟩
theorem I1 (p:Pool) (k:Key) (b:Bool) (hc:p.cells.length≤1073741824):aa C AE [.bx (jX p),ru k,vB b] (.tu []) [.bx (jX ⟨p.t,p.ages,if b=true∧k.k=1 then gQ p.cells k.c else p.cells,p.vols,p.next⟩)]:=by
 refine(Oh _ _ _ _ _ _ _ _ _ _ _ _ _ ?_).run
 cases b with
 |false=>exact an rfl ⟨rfl,by first|rfl|trivial⟩
 |true=>
  refine ai rfl ?_
  by_cases h:k.k=1
  ·exact ai (by rw[aD];exact decide_eq_true h) ⟨_,G6 p.cells k.c hc,rfl,by rw[if_pos ⟨rfl,h⟩]⟩
  ·exact an (by rw[aD];exact decide_eq_false h) ⟨rfl,by rw[if_neg fun e=>h e.2]⟩
theorem KO (p:Pool) (hS:cc p≤4194304) (k:Key):aa C DD [.bx (jX p),ru k] (vB (iX p k).2) [.bx (jX (iX p k).1)]:=by
 have hP:=fu hS
 have ta:=AY p.t k.b k.a (by omega)
 have tp:=sA p.t k (by omega)
 obtain⟨T,b,hT⟩: ∃T b,bg p.t k=(T,b):=⟨_,_,rfl⟩
 obtain⟨o,f,hO⟩: ∃o f,uS p.t k.b k.a=(o,f):=⟨_,_,rfl⟩
 have e:iX p k=if b=true then(⟨T,p.ages,if f=true∧o.k=1 then gQ p.cells o.c else p.cells,p.vols,p.next⟩,true) else(p,false):=by
  unfold iX Dw;rw[hT,hO]
 have hno:=FB (t:=p.t) (k:=k)
 rw[hT] at tp hno
 rw[hO] at ta
 rw[e]
 refine(PF _ _ _ _ _ _ _ _ _ _ _ _ ?_).run
 cases b with
 |false=>
  have hno:T=p.t:=hno rfl
  subst hno
  rw[if_neg (by simp)]
  repeat' first
   |refine⟨_,_,_,_,_,_,ta,?_⟩
   |refine⟨_,_,_,tp,?_⟩
   |refine⟨(vB false,[TV.bx (jX p)]),?_,?_,rfl⟩
   |refine⟨(vB false,[TV.bx (jX p)]),?_,?_,⟨rfl,by first|rfl|trivial⟩⟩
   |exact rfl
   |exact⟨rfl,by first|rfl|trivial⟩
   |refine ai (by first|rfl|(rw[aD];rfl)) ?_
   |refine an (by first|rfl|(rw[aD];rfl)) ?_
 |true=>
  rw[if_pos rfl]
  have dr:=I1 ⟨T,p.ages,p.cells,p.vols,p.next⟩ o f (by simp only[];omega)
  repeat' first
   |refine⟨_,_,_,_,_,_,ta,?_⟩
   |refine⟨_,_,_,tp,?_⟩
   |refine⟨_,_,_,_,_,_,dr,?_⟩
   |refine⟨(vB true,[TV.bx (jX ⟨T,p.ages,if f=true∧o.k=1 then gQ p.cells o.c else p.cells,p.vols,p.next⟩)]),?_,?_,rfl⟩
   |refine⟨(vB true,[TV.bx (jX ⟨T,p.ages,if f=true∧o.k=1 then gQ p.cells o.c else p.cells,p.vols,p.next⟩)]),?_,?_,⟨rfl,by first|rfl|trivial⟩⟩
   |exact rfl
   |exact⟨rfl,by first|rfl|trivial⟩
   |refine ai (by first|rfl|(rw[aD];rfl)) ?_
   |refine an (by first|rfl|(rw[aD];rfl)) ?_
theorem CV (p:Pool) (hS:cc p≤4194304) (k:Key):aa C rM [.bx (jX p),ru k] (vB (iX p k).2) [.bx (jX (iX p k).1)]:=by
 have hP:=fu hS
 have ta:=tI p.t k.b k.a (by omega)
 have tp:=sy p.t k (by omega)
 obtain⟨T,b,hT⟩: ∃T b,bg p.t k=(T,b):=⟨_,_,rfl⟩
 obtain⟨o,f,hO⟩: ∃o f,uS p.t k.b k.a=(o,f):=⟨_,_,rfl⟩
 have e:iX p k=if b=true then(⟨T,p.ages,if f=true∧o.k=1 then gQ p.cells o.c else p.cells,p.vols,p.next⟩,true) else(p,false):=by
  unfold iX Dw;rw[hT,hO]
 have hno:=FB (t:=p.t) (k:=k)
 rw[hT] at tp hno
 rw[hO] at ta
 rw[e]
 refine(EN _ _ _ _ _ _ _ _ _ _ _ _ ?_).run
 cases b with
 |false=>
  have hno:T=p.t:=hno rfl
  subst hno
  rw[if_neg (by simp)]
  repeat' first
   |refine⟨_,_,_,_,_,_,ta,?_⟩
   |refine⟨_,_,_,tp,?_⟩
   |refine⟨(vB false,[TV.bx (jX p)]),?_,?_,rfl⟩
   |refine⟨(vB false,[TV.bx (jX p)]),?_,?_,⟨rfl,by first|rfl|trivial⟩⟩
   |exact rfl
   |exact⟨rfl,by first|rfl|trivial⟩
   |refine ai (by first|rfl|(rw[aD];rfl)) ?_
   |refine an (by first|rfl|(rw[aD];rfl)) ?_
 |true=>
  rw[if_pos rfl]
  cases f with
  |false=>
   rw[if_neg (by simp)]
   repeat' first
    |refine⟨_,_,_,_,_,_,ta,?_⟩
    |refine⟨_,_,_,tp,?_⟩
    |refine⟨(vB true,[TV.bx (jX ⟨T,p.ages,p.cells,p.vols,p.next⟩)]),?_,?_,rfl⟩
    |refine⟨(vB true,[TV.bx (jX ⟨T,p.ages,p.cells,p.vols,p.next⟩)]),?_,?_,⟨rfl,by first|rfl|trivial⟩⟩
    |exact rfl
    |exact⟨rfl,by first|rfl|trivial⟩
    |refine ai (by first|rfl|(rw[aD];rfl)) ?_
    |refine an (by first|rfl|(rw[aD];rfl)) ?_
  |true=>
   by_cases ho:o.k=1
   ·rw[if_pos ⟨rfl,ho⟩]
    have ce:dF o.k 1=true:=by rw[aD];exact decide_eq_true ho
    have fc:=G7 p.cells o.c (by omega)
    repeat' first
     |refine⟨_,_,_,_,_,_,ta,?_⟩
     |refine⟨_,_,_,tp,?_⟩
     |refine ai ce ?_
     |refine⟨_,fc,?_⟩
     |refine⟨(vB true,[TV.bx (jX ⟨T,p.ages,gQ p.cells o.c,p.vols,p.next⟩)]),?_,?_,rfl⟩
     |refine⟨(vB true,[TV.bx (jX ⟨T,p.ages,gQ p.cells o.c,p.vols,p.next⟩)]),?_,?_,⟨rfl,by first|rfl|trivial⟩⟩
     |exact rfl
     |exact⟨rfl,by first|rfl|trivial⟩
     |refine ai (by first|rfl|(rw[aD];rfl)) ?_
     |refine an (by first|rfl|(rw[aD];rfl)) ?_
   ·rw[if_neg fun e=>ho e.2]
    have ce:dF o.k 1=false:=by rw[aD];exact decide_eq_false ho
    repeat' first
     |refine⟨_,_,_,_,_,_,ta,?_⟩
     |refine⟨_,_,_,tp,?_⟩
     |refine an ce ?_
     |refine⟨(vB true,[TV.bx (jX ⟨T,p.ages,p.cells,p.vols,p.next⟩)]),?_,?_,rfl⟩
     |refine⟨(vB true,[TV.bx (jX ⟨T,p.ages,p.cells,p.vols,p.next⟩)]),?_,?_,⟨rfl,by first|rfl|trivial⟩⟩
     |exact rfl
     |exact⟨rfl,by first|rfl|trivial⟩
     |refine ai (by first|rfl|(rw[aD];rfl)) ?_
     |refine an (by first|rfl|(rw[aD];rfl)) ?_
theorem rQ {p:Pool} {x:Pool×Bool} (h:x.2=false):E0 p x=(p,false):=by
 unfold E0;rw[if_neg fun e=>by rw[h] at e;cases e.1]
theorem q9 {p:Pool} {x:Pool×Bool} (h:jk x.1=false):E0 p x=(p,false):=by
 unfold E0;rw[if_neg fun e=>by rw[h] at e;cases e.2]
theorem rj {p:Pool} {x:Pool×Bool} (h1:x.2=true) (h2:jk x.1=true):E0 p x=(x.1,true):=by
 unfold E0;rw[if_pos ⟨h1,h2⟩]
theorem Kn {l:List Age} {id:Int} {a:Age} (h:gX l=true) (ha:fT l (eg l id)=some a):qS l id=((mm l id a.fr).take (eg l id).toNat++(mm l id a.fr).drop ((eg l id).toNat+1),true):=by
 unfold qS;rw[if_pos h,ha]
theorem Ko {l:List Age} {id:Int} (ha:fT l (eg l id)=none):qS l id=(l,false):=by
 unfold qS
 split
 ·rw[ha]
 ·rfl
theorem N3 {l:List Age} {id:Int} (h:gX l=false):qS l id=(l,false):=by
 unfold qS;rw[if_neg (by rw[h];simp)]
theorem N4 {α:Type} (f:α→α): ∀(l1:List α) (x:α) (l2:List α),(l1++x::l2).modify l1.length f=l1++f x::l2
 |[],x,l2=>List.modify_zero_cons _ _ _
 |a::r,x,l2=>by rw[List.cons_append,List.length_cons,List.modify_succ_cons,N4 f r x l2];rfl
theorem VS {l:List Age} {id fr:Int} {j:Nat} {x:Age} (h:l[j]?=some x):(mm l id fr)[j]?=some (if x.fr=id then {x with fr:=fr} else x):=by
 unfold mm;rw[List.getElem?_map,h];rfl
theorem KP (l:List Age) (id:Int) (hl:l.length≤1073741800):aa C dI [fG l,vI id] (TV.tu [(0,[TC.sub 2 ((qS l id).1.map bT)]),(0,[iB (qS l id).2])]) []:=by
 have hat:=rN l id (by omega)
 have hok:aa C dy [fG l] (vB (gX l)) []:=AV l (by omega)
 have hcp:(bS (l.map bT)&&fits (Nat.add 0 (List.length (l.map bT))) 16)=true:=by rw[yL,cZ (by simp<;>omega)];rfl
 refine(P1 _ _ _ ?_).run
 by_cases h1:eg l id<0
 ·have cl:bI (eg l id) 0=true:=by rw[dK];exact decide_eq_true h1
  rw[Ko (pE (by omega))]
  repeat' first
   |refine⟨_,hat,?_⟩
   |refine ai cl ?_
   |refine ai hcp ?_
   |exact rfl
   |exact⟨rfl,by first|rfl|trivial⟩
   |refine ai (by first|rfl|(rw[aD];rfl)) ?_
   |refine an (by first|rfl|(rw[aD];rfl)) ?_
 ·have cl:bI (eg l id) 0=false:=by rw[dK];exact decide_eq_false h1
  cases hg:gX l with
  |false=>
   rw[hg] at hok
   rw[N3 hg]
   repeat' first
    |refine⟨_,hat,?_⟩
    |refine an cl ?_
    |refine⟨_,hok,?_⟩
    |refine ai hcp ?_
    |exact rfl
    |exact⟨rfl,by first|rfl|trivial⟩
    |refine ai (by first|rfl|(rw[aD];rfl)) ?_
    |refine an (by first|rfl|(rw[aD];rfl)) ?_
  |true=>
   rw[hg] at hok
   obtain⟨a,ha,_⟩:=Ez l id h1
   rw[Kn hg ha]
   have hlt:=Uj l id
   obtain⟨k,hk⟩: ∃k:Nat,eg l id=k:=⟨(eg l id).toNat,by omega⟩
   rw[hk] at hat ha cl hlt ⊢
   rw[Int.toNat_natCast]
   have hra:rowAt (l.map bT) (k:Int)=some [iI a.id,iI a.fr]:=by rw[bD,ha];rfl
   obtain⟨W,hW⟩: ∃W,W=mm l id a.fr:=⟨_,rfl⟩
   have hWl:W.length=l.length:=by rw[hW];exact Ay _ _ _
   rw[←hW]
   obtain⟨U,hU⟩: ∃U,U=W.take k++W.drop (k+1):=⟨_,rfl⟩
   have hUl:U.length≤l.length:=by rw[hU,List.length_append,List.length_take,List.length_drop];omega
   rw[←hU]
   have key: ∀acc:List Age,acc++(if 0≤k then(W.drop 0).take (k-0)++W.drop (k+1) else W.drop 0)=U→ah C dI bn 4 0 (fD (l.map bT) id (k:Int) ((0:Nat):Int) (acc.map bT)) (fun x st=>au C dI bn x st fun r fs=>r=(TV.tu [(0,[TC.sub 2 (U.map bT)]),(0,[iB true])])∧fs=[]):=by
    refine aW l (fun j=> ∀acc:List Age,acc++(if j≤k then(W.drop j).take (k-j)++W.drop (k+1) else W.drop j)=U→ah C dI bn 4 0 (fD (l.map bT) id (k:Int) (j:Int) (acc.map bT)) (fun x st=>au C dI bn x st fun r fs=>r=(TV.tu [(0,[TC.sub 2 (U.map bT)]),(0,[iB true])])∧fs=[])) ?_ ?_
    ·intro acc h0
     have hk2: ¬l.length≤k:=by omega
     rw[if_neg hk2,←hWl,List.drop_length,List.append_nil] at h0
     exact Cb _ _ _ _ _ _ (an (by simp) (Ln _ _ _ _ _ _ _ ⟨by rw[h0],rfl⟩))
    ·intro j x hj hx hd ht hn acc h0
     have hlen:=congrArg List.length h0
     rw[List.length_append] at hlen
     have hr:rowAt (l.map bT) (j:Int)=some [iI x.id,iI x.fr]:=by rw[bD,aE,hx];rfl
     have hadd:ay (j:Int) 1=(j:Int)+1:=aB (by omega)
     have hw:=VS (id:=id) (fr:=a.fr) hx
     rw[←hW] at hw
     obtain⟨y,hy⟩: ∃y:Age,y=if x.fr=id then {x with fr:=a.fr} else x:=⟨_,rfl⟩
     rw[←hy] at hw
     obtain⟨hjw,hwe⟩:=List.getElem?_eq_some_iff.1 hw
     have hdw:W.drop j=y::W.drop (j+1):=by rw[List.drop_eq_getElem_cons hjw,hwe]
     have nx: ¬j=k→ah C dI bn 4 0 (fD (l.map bT) id (k:Int) ((j:Int)+1) ((acc++[y]).map bT)) (fun x st=>au C dI bn x st fun r fs=>r=(TV.tu [(0,[TC.sub 2 (U.map bT)]),(0,[iB true])])∧fs=[]):=by
      intro hne
      refine hn (acc++[y]) ?_
      rw[←h0]
      by_cases h:j≤k
      ·rw[if_pos h,if_pos (by omega),hdw,show k-j=(k-(j+1))+1 from by omega,List.take_succ_cons];simp
      ·rw[if_neg h,if_neg (by omega),hdw];simp
     have sk:j=k→ah C dI bn 4 0 (fD (l.map bT) id (k:Int) ((j:Int)+1) (acc.map bT)) (fun x st=>au C dI bn x st fun r fs=>r=(TV.tu [(0,[TC.sub 2 (U.map bT)]),(0,[iB true])])∧fs=[]):=by
      intro he
      refine hn acc ?_
      rw[←h0,he,if_pos (Nat.le_refl _),if_neg (by omega),Nat.sub_self,List.take_zero,List.nil_append]
     refine Cb _ _ _ _ _ _ (ai (by simp<;>omega) ⟨_,_,hr,?_⟩)
     rw[hadd]
     have hfit: ∀u v:Int,(bS [[iI u,iI v]]&&fits (Nat.succ (List.length (acc.map bT))) 16)=true:=fun u v=>by rw[NK,cZ (by simp<;>omega)];rfl
     by_cases hf:x.fr=id
     ·rw[if_pos hf] at hy
      subst hy
      refine ai (by rw[aD];exact decide_eq_true hf) ⟨_,_,hra,?_⟩
      rw[WC]
      by_cases hjk:j=k
      ·exact an (by rw[aD,hjk];simp) (sk hjk)
      ·exact ai (by rw[aD];simp;omega) (ai (hfit _ _) (nx hjk))
     ·rw[if_neg hf] at hy
      subst hy
      refine an (by rw[aD];exact decide_eq_false hf) ?_
      rw[WC]
      by_cases hjk:j=k
      ·exact an (by rw[aD,hjk];simp) (sk hjk)
      ·exact ai (by rw[aD];simp;omega) (ai (hfit _ _) (nx hjk))
   have k0:=key [] (by rw[if_pos (Nat.zero_le _),List.nil_append,List.drop_zero,Nat.sub_zero,hU])
   repeat' first
    |exact k0
    |refine⟨_,hat,?_⟩
    |refine an cl ?_
    |refine⟨_,hok,?_⟩
    |exact rfl
    |exact⟨rfl,by first|rfl|trivial⟩
    |refine ai (by first|rfl|(rw[aD];rfl)) ?_
    |refine an (by first|rfl|(rw[aD];rfl)) ?_
theorem N5 (l:List Age) (k:Nat) (hk:k<l.length):aa C wE [fG l,vI (k:Int),vI ((k:Int)+1)] (fG (l.take k++l.drop (k+1))) []:=by
 refine aa.ext (p:=ZA 2) rfl ?_
 unfold ZA
 simp only[]
 rw[if_pos ⟨trivial,by omega,by simp<;>omega,trivial⟩,Int.toNat_natCast,show((k:Int)+1).toNat=k+1 from by omega]
 unfold fG
 rw[List.map_append,List.map_take,List.map_drop]
theorem KQ (l:List Age) (id:Int) (hl:l.length≤1073741800):aa C gR [fG l,vI id] (TV.tu [(0,[TC.sub 2 ((qS l id).1.map bT)]),(0,[iB (qS l id).2])]) []:=by
 have hat:=u5 l id (by omega)
 have hcp:=wH l (by omega)
 have hok:aa C dz [fG l] (vB (gX l)) []:=AW l (by omega)
 refine(Qa _ _ _ ?_).run
 by_cases h1:eg l id<0
 ·have cl:bI (eg l id) 0=true:=by rw[dK];exact decide_eq_true h1
  rw[Ko (pE (by omega))]
  repeat' first
   |refine⟨_,hat,?_⟩
   |refine⟨_,hcp,?_⟩
   |refine ai cl ?_
   |exact rfl
   |exact⟨rfl,by first|rfl|trivial⟩
   |refine ai (by first|rfl|(rw[aD];rfl)) ?_
   |refine an (by first|rfl|(rw[aD];rfl)) ?_
 ·have cl:bI (eg l id) 0=false:=by rw[dK];exact decide_eq_false h1
  cases hg:gX l with
  |false=>
   rw[hg] at hok
   rw[N3 hg]
   repeat' first
    |refine⟨_,hat,?_⟩
    |refine⟨_,hcp,?_⟩
    |refine an cl ?_
    |refine⟨_,hok,?_⟩
    |exact rfl
    |exact⟨rfl,by first|rfl|trivial⟩
    |refine ai (by first|rfl|(rw[aD];rfl)) ?_
    |refine an (by first|rfl|(rw[aD];rfl)) ?_
  |true=>
   rw[hg] at hok
   obtain⟨a,ha,_⟩:=Ez l id h1
   rw[Kn hg ha]
   have hlt:=Uj l id
   obtain⟨k,hk⟩: ∃k:Nat,eg l id=k:=⟨(eg l id).toNat,by omega⟩
   rw[hk] at hat ha cl hlt ⊢
   rw[Int.toNat_natCast]
   have hra:rowAt (l.map bT) (k:Int)=some [iI a.id,iI a.fr]:=by rw[bD,ha];rfl
   have key: ∀M:List Age,M=mm (l.take 0) id a.fr++l.drop 0→ah C gR bn 4 0 (kQ (l.map bT) id (k:Int) (l.map bT) ((0:Nat):Int) (M.map bT)) (fun x st=>au C gR bn x st fun r fs=>r=(TV.tu [(0,[TC.sub 2 (((mm l id a.fr).take k++(mm l id a.fr).drop (k+1)).map bT)]),(0,[iB true])])∧fs=[]):=by
    refine aW l (fun j=> ∀M:List Age,M=mm (l.take j) id a.fr++l.drop j→ah C gR bn 4 0 (kQ (l.map bT) id (k:Int) (l.map bT) (j:Int) (M.map bT)) (fun x st=>au C gR bn x st fun r fs=>r=(TV.tu [(0,[TC.sub 2 (((mm l id a.fr).take k++(mm l id a.fr).drop (k+1)).map bT)]),(0,[iB true])])∧fs=[])) ?_ ?_
    ·intro M hM
     rw[List.take_length,List.drop_length,List.append_nil] at hM
     subst hM
     have hdl:=N5 (mm l id a.fr) k (by rw[Ay];omega)
     have hadd:ay (k:Int) 1=(k:Int)+1:=aB (by omega)
     rw[←hadd] at hdl
     exact Ck _ _ _ _ _ _ _ (an (by simp) (LA _ _ _ _ _ _ _ _ ⟨_,hdl,rfl,rfl⟩))
    ·intro j x hj hx hd ht hn M hM
     have hml:(mm (l.take j) id a.fr).length=j:=by rw[Ay,List.length_take];omega
     have hmj:M[j]?=some x:=by rw[hM,List.getElem?_append_right (by omega),hml,Nat.sub_self,hd];rfl
     have hr:rowAt (M.map bT) (j:Int)=some [iI x.id,iI x.fr]:=by rw[bD,aE,hmj];rfl
     have hadd:ay (j:Int) 1=(j:Int)+1:=aB (by omega)
     have hre:mm (l.take (j+1)) id a.fr=mm (l.take j) id a.fr++[if x.fr=id then {x with fr:=a.fr} else x]:=by
      rw[ht];unfold mm;rw[List.map_append];rfl
     refine Ck _ _ _ _ _ _ _ (ai (by simp<;>omega) ⟨_,_,hr,_,_,hr,?_⟩)
     rw[hadd]
     by_cases hf:x.fr=id
     ·refine ai (by rw[aD];exact decide_eq_true hf) ⟨_,_,hra,_,_,hr,_,_,hr,?_⟩
      rw[Rz]
      refine hn _ ?_
      rw[hre,if_pos hf,hM,hd,Int.toNat_natCast]
      have hmm:=N4 (fun z:Age=>{z with fr:=a.fr}) (mm (l.take j) id a.fr) x (l.drop (j+1))
      rw[hml] at hmm
      rw[hmm]
      simp
     ·refine an (by rw[aD];exact decide_eq_false hf) (hn M ?_)
      rw[hre,if_neg hf,hM,hd];simp
   have k0:=key l rfl
   repeat' first
    |exact k0
    |refine⟨_,hat,?_⟩
    |refine⟨_,hcp,?_⟩
    |refine an cl ?_
    |refine⟨_,hok,?_⟩
    |exact rfl
    |exact⟨rfl,by first|rfl|trivial⟩
    |refine ai (by first|rfl|(rw[aD];rfl)) ?_
    |refine an (by first|rfl|(rw[aD];rfl)) ?_
theorem DV (p:Pool):cm p=(0,0)∨(∃i k,(cm p=(1,i)∨cm p=(2,i))∧fT (aC p.t) i=some k)∨
 (∃i k x,cm p=(3,i)∧fT (aC p.t) i=some k∧fT (c7 p.ages k.a) 0=some x∧yO p k.a=x)∨ ∃i a,cm p=(4,i)∧fT p.ages i=some a:=by
 unfold cm
 split
 ·split
  ·rename_i h
   obtain⟨k,hk,_⟩:=Dn (oh p 1) (aC p.t) (by unfold jO at h;omega)
   exact .inr (.inl ⟨_,k,.inl rfl,hk⟩)
  ·split
   ·rename_i h
    obtain⟨k,hk,_⟩:=Dn (oh p 2) (aC p.t) (by unfold jO at h;omega)
    exact .inr (.inl ⟨_,k,.inr rfl,hk⟩)
   ·split
    ·rename_i h
     obtain⟨k,hk,h3⟩:=Dn (oh p 3) (aC p.t) (by unfold jO at h;omega)
     have h3:RD p k=true:=h3
     unfold RD at h3
     split at h3
     ·cases h3
     ·rename_i h0
      have hx: ∃x,fT (c7 p.ages k.a) 0=some x∧yO p k.a=x:=by
       unfold yO at h0 ⊢
       split
       ·rename_i hh
        obtain⟨x,hx⟩:=pz (l:=c7 p.ages k.a) (i:=0) (by omega) (by omega)
        exact⟨x,hx,by rw[hx]⟩
       ·rename_i hh;rw[if_neg hh] at h0;exact absurd rfl h0
      obtain⟨x,hx1,hx2⟩:=hx
      exact .inr (.inr (.inl ⟨_,k,x,rfl,hk,hx1,hx2⟩))
    ·split
     ·rename_i h
      obtain⟨a,ha,_⟩:=Dn (qn p) p.ages (by unfold Fx at h;omega)
      exact .inr (.inr (.inr ⟨_,a,rfl,ha⟩))
     ·exact .inl rfl
 ·exact .inl rfl
theorem UB (p:Pool) (k:Key):cc (wz p k).1≤cc p+520:=by
 have h1:=uT p.t (dY k)
 have h2:=uT (bg p.t (dY k)).1 (Az p k)
 unfold wz cc;simp only[];omega
theorem WH (p:Pool) (id:Int):cc (O9 p id).1≤cc p:=by
 have:=VJ p.ages id
 unfold O9 cc;simp only[];omega
theorem lO {p:Pool} {j i:Int} {X:Pool×Bool} (h:cm p=(j,i)) (hj: ¬j=0) (hX:Kj p j i=X):hJ p=E0 p X:=by
 unfold hJ;rw[h,if_neg hj,hX]
theorem EH {p:Pool} {j i:Int} {k:Key} (hj:j=1∨j=2) (hk:fT (aC p.t) i=some k):Kj p j i=iX p (dY k):=by
 unfold Kj MN
 rw[if_neg (by omega),if_neg (by omega),hk]
theorem N6 {p:Pool} {i:Int} {k:Key} (hk:fT (aC p.t) i=some k):Kj p 3 i=wz p k:=by
 unfold Kj MN
 rw[if_neg (by omega),if_pos rfl,hk]
theorem RL {p:Pool} {i:Int} {a:Age} (ha:fT p.ages i=some a):Kj p 4 i=O9 p a.id:=by
 unfold Kj
 rw[if_pos rfl,ha]
theorem yT (p:Pool) (hS:cc p≤4194304) (k:Key):aa C uq [.bx (jX p),ru k] (vB (iX p (dY k)).2) [.bx (jX (iX p (dY k)).1)]:=
 (OT _ _ _ _ _ _ _ _ _ _ _ _ ⟨_,_,_,_,_,_,_,KO p hS (dY k),rfl,by first|rfl|trivial⟩).run
theorem pY (p:Pool) (hS:cc p≤4194304) (j i:Int) (k:Key) (hj:j=1∨j=2) (hk:fT (aC p.t) i=some k):aa C lI [.bx (jX p),vI j,vI i] (vB (iX p (dY k)).2) [.bx (jX (iX p (dY k)).1)]:=by
 have hP:=fu hS
 have htl:=eJ p.t
 have hkk:=jv p.t (by omega)
 have hrk:rowAt ((aC p.t).map bw) i=some [iI k.b,iI k.a,iI k.k,iI k.c,iI k.g]:=by rw[bD,hk];rfl
 have pk:=CV p hS (dY k)
 generalize iX p (dY k)=X at*
 refine(mE _ _ _ _ _ _ _ _ _ ?_).run
 have c1:dF j 4=false:=by rw[aD];exact decide_eq_false (by omega)
 have c2:(!dF j 3)=true:=by rw[aD,decide_eq_false (by omega)];rfl
 repeat' first
  |refine an c1 ?_
  |refine ai c2 ?_
  |refine⟨_,hkk,?_⟩
  |refine⟨_,_,_,_,_,hrk,?_⟩
  |refine⟨_,_,_,_,_,_,_,pk,?_⟩
  |exact rfl
  |exact⟨rfl,by first|rfl|trivial⟩
theorem vN (p:Pool) (hS:cc p≤4194304) (i:Int) (a:Age) (ha:fT p.ages i=some a):aa C lI [.bx (jX p),vI 4,vI i] (vB (O9 p a.id).2) [.bx (jX (O9 p a.id).1)]:=by
 have hP:=fu hS
 have hra:rowAt (p.ages.map bT) i=some [iI a.id,iI a.fr]:=by rw[bD,ha];rfl
 have ca:=KQ p.ages a.id (by omega)
 refine(mE _ _ _ _ _ _ _ _ _ ?_).run
 unfold O9
 repeat' first
  |refine⟨_,_,hra,?_⟩
  |refine⟨_,_,ca,?_⟩
  |exact rfl
  |exact⟨rfl,by first|rfl|trivial⟩
  |refine ai (by first|rfl|(rw[aD];rfl)) ?_
  |refine an (by first|rfl|(rw[aD];rfl)) ?_
theorem u9 (p:Pool) (hS:cc p≤4194304) (i:Int) (k:Key) (x:Int) (hk:fT (aC p.t) i=some k) (hx:fT (c7 p.ages k.a) 0=some x) (he:yO p k.a=x): ∃X:Pool,aa C lI [.bx (jX p),vI 3,vI i] (vB (wz p k).2) [.bx (jX X)]∧((wz p k).2=true→X=(wz p k).1):=by
 have hP:=fu hS
 have htl:=eJ p.t
 have hkk:=jv p.t (by omega)
 have hkd:=qp p.ages k.a (by omega)
 have hrk:rowAt ((aC p.t).map bw) i=some [iI k.b,iI k.a,iI k.k,iI k.c,iI k.g]:=by rw[bD,hk];rfl
 have hrx:rowAt ((c7 p.ages k.a).map bq) 0=some [iI x]:=by rw[bD,hx];rfl
 have h1:=uT p.t (dY k)
 have tp:=sy p.t (dY k) (by omega)
 have tq:=sy (bg p.t (dY k)).1 (Az p k) (by omega)
 have hkk2:Az p k=⟨k.b,x,k.k,k.c,k.g⟩:=by unfold Az;rw[he]
 rw[hkk2] at tq
 unfold wz
 rw[hkk2]
 obtain⟨T,b,hT⟩: ∃T b,bg p.t (dY k)=(T,b):=⟨_,_,rfl⟩
 rw[hT] at tp tq ⊢
 obtain⟨U,c,hU⟩: ∃U c,bg T ⟨k.b,x,k.k,k.c,k.g⟩=(U,c):=⟨_,_,rfl⟩
 simp only[] at tq ⊢
 rw[hU] at tq ⊢
 simp only[]
 cases b with
 |false=>
  refine⟨p,?_,fun h=>by cases h⟩
  refine(mE _ _ _ _ _ _ _ _ _ ?_).run
  repeat' first
   |refine⟨_,hkk,?_⟩
   |refine⟨_,_,_,_,_,hrk,?_⟩
   |refine⟨_,hkd,?_⟩
   |refine⟨_,hrx,?_⟩
   |refine⟨_,_,_,tp,?_⟩
   |refine⟨_,_,_,tq,?_⟩
   |refine⟨(vB false,[TV.bx (jX p)]),?_,?_,rfl⟩
   |refine⟨(vB false,[TV.bx (jX p)]),?_,?_,⟨rfl,by first|rfl|trivial⟩⟩
   |exact rfl
   |exact⟨rfl,by first|rfl|trivial⟩
   |refine ai (by first|rfl|(rw[aD];rfl)) ?_
   |refine an (by first|rfl|(rw[aD];rfl)) ?_
 |true=>
  refine⟨⟨U,p.ages,p.cells,p.vols,p.next⟩,?_,fun _=>rfl⟩
  refine(mE _ _ _ _ _ _ _ _ _ ?_).run
  repeat' first
   |refine⟨_,hkk,?_⟩
   |refine⟨_,_,_,_,_,hrk,?_⟩
   |refine⟨_,hkd,?_⟩
   |refine⟨_,hrx,?_⟩
   |refine⟨_,_,_,tp,?_⟩
   |refine⟨_,_,_,tq,?_⟩
   |refine⟨(vB c,[TV.bx (jX ⟨U,p.ages,p.cells,p.vols,p.next⟩)]),?_,?_,rfl⟩
   |refine⟨(vB c,[TV.bx (jX ⟨U,p.ages,p.cells,p.vols,p.next⟩)]),?_,?_,⟨rfl,by first|rfl|trivial⟩⟩
   |exact rfl
   |exact⟨rfl,by first|rfl|trivial⟩
   |refine ai (by first|rfl|(rw[aD];rfl)) ?_
   |refine an (by first|rfl|(rw[aD];rfl)) ?_
theorem va (p:Pool) (hS:cc p≤1048576):aa C rK [eX p] (tPB (hJ p)) []:=by
 have hS2:cc p≤4194304:=by omega
 have hP:=fu hS2
 have htl:=eJ p.t
 have hcp:=yS p hS2
 have hns:=G8 p hS2
 have hkk:=ju p.t (by omega)
 refine(JD _ _ _ _ _ _ _ ?_).run
 rcases DV p with h0|⟨i,k,hn,hk⟩|⟨i,k,x,hn,hk,hx,he⟩|⟨i,a,hn,ha⟩
 ·have hps:hJ p=(p,false):=by unfold hJ;rw[h0];rfl
  rw[h0] at hns
  rw[hps]
  repeat' first
   |refine⟨_,_,_,_,_,_,hcp,?_⟩
   |refine⟨_,_,hns,?_⟩
   |refine⟨_,hkk,?_⟩
   |exact rfl
   |exact⟨rfl,by first|rfl|trivial⟩
   |refine ai (by first|rfl|(rw[aD];rfl)) ?_
   |refine an (by first|rfl|(rw[aD];rfl)) ?_
 ·have hrk:rowAt ((aC p.t).map bw) i=some [iI k.b,iI k.a,iI k.k,iI k.c,iI k.g]:=by rw[bD,hk];rfl
  rcases hn with hn|hn
  ·rw[hn] at hns
   have hj:(1:Int)=1∨(1:Int)=2:= .inl rfl
   have hps:=lO hn (by omega) rfl
   rw[hps]
   have hsz:=Ax p (dY k)
   have hrun:=yT p hS2 k
   rw[EH hj hk]
   generalize iX p (dY k)=X at*
   have pk:=nt X.1 (by omega)
   cases hb:X.2 with
   |false=>
    rw[hb] at hrun
    rw[rQ hb]
    repeat' first
     |refine⟨_,_,_,_,_,_,hcp,?_⟩
     |refine⟨_,_,hns,?_⟩
     |refine⟨_,hkk,?_⟩
     |refine⟨_,_,_,_,_,hrk,?_⟩
     |refine⟨_,_,_,_,_,_,_,hrun,?_⟩
     |exact rfl
     |exact⟨rfl,by first|rfl|trivial⟩
     |refine ai (by first|rfl|(rw[aD];rfl)) ?_
     |refine an (by first|rfl|(rw[aD];rfl)) ?_
   |true=>
    rw[hb] at hrun
    cases hg:jk X.1 with
    |false=>
     rw[hg] at pk
     rw[q9 hg]
     repeat' first
      |refine⟨_,_,_,_,_,_,hcp,?_⟩
      |refine⟨_,_,hns,?_⟩
      |refine⟨_,hkk,?_⟩
      |refine⟨_,_,_,_,_,hrk,?_⟩
      |refine⟨_,_,_,_,_,_,_,hrun,?_⟩
      |refine⟨_,pk,?_⟩
      |exact rfl
      |exact⟨rfl,by first|rfl|trivial⟩
      |refine ai (by first|rfl|(rw[aD];rfl)) ?_
      |refine an (by first|rfl|(rw[aD];rfl)) ?_
    |true=>
     rw[hg] at pk
     rw[rj hb hg]
     repeat' first
      |refine⟨_,_,_,_,_,_,hcp,?_⟩
      |refine⟨_,_,hns,?_⟩
      |refine⟨_,hkk,?_⟩
      |refine⟨_,_,_,_,_,hrk,?_⟩
      |refine⟨_,_,_,_,_,_,_,hrun,?_⟩
      |refine⟨_,pk,?_⟩
      |exact rfl
      |exact⟨rfl,by first|rfl|trivial⟩
      |refine ai (by first|rfl|(rw[aD];rfl)) ?_
      |refine an (by first|rfl|(rw[aD];rfl)) ?_
  ·rw[hn] at hns
   have hj:(2:Int)=1∨(2:Int)=2:= .inr rfl
   have hps:=lO hn (by omega) rfl
   rw[hps]
   have hsz:=Ax p (dY k)
   have hrun:=yT p hS2 k
   rw[EH hj hk]
   generalize iX p (dY k)=X at*
   have pk:=nt X.1 (by omega)
   cases hb:X.2 with
   |false=>
    rw[hb] at hrun
    rw[rQ hb]
    repeat' first
     |refine⟨_,_,_,_,_,_,hcp,?_⟩
     |refine⟨_,_,hns,?_⟩
     |refine⟨_,hkk,?_⟩
     |refine⟨_,_,_,_,_,hrk,?_⟩
     |refine⟨_,_,_,_,_,_,_,hrun,?_⟩
     |exact rfl
     |exact⟨rfl,by first|rfl|trivial⟩
     |refine ai (by first|rfl|(rw[aD];rfl)) ?_
     |refine an (by first|rfl|(rw[aD];rfl)) ?_
   |true=>
    rw[hb] at hrun
    cases hg:jk X.1 with
    |false=>
     rw[hg] at pk
     rw[q9 hg]
     repeat' first
      |refine⟨_,_,_,_,_,_,hcp,?_⟩
      |refine⟨_,_,hns,?_⟩
      |refine⟨_,hkk,?_⟩
      |refine⟨_,_,_,_,_,hrk,?_⟩
      |refine⟨_,_,_,_,_,_,_,hrun,?_⟩
      |refine⟨_,pk,?_⟩
      |exact rfl
      |exact⟨rfl,by first|rfl|trivial⟩
      |refine ai (by first|rfl|(rw[aD];rfl)) ?_
      |refine an (by first|rfl|(rw[aD];rfl)) ?_
    |true=>
     rw[hg] at pk
     rw[rj hb hg]
     repeat' first
      |refine⟨_,_,_,_,_,_,hcp,?_⟩
      |refine⟨_,_,hns,?_⟩
      |refine⟨_,hkk,?_⟩
      |refine⟨_,_,_,_,_,hrk,?_⟩
      |refine⟨_,_,_,_,_,_,_,hrun,?_⟩
      |refine⟨_,pk,?_⟩
      |exact rfl
      |exact⟨rfl,by first|rfl|trivial⟩
      |refine ai (by first|rfl|(rw[aD];rfl)) ?_
      |refine an (by first|rfl|(rw[aD];rfl)) ?_
 ·have hrk:rowAt ((aC p.t).map bw) i=some [iI k.b,iI k.a,iI k.k,iI k.c,iI k.g]:=by rw[bD,hk];rfl
  rw[hn] at hns
  have hps:=lO hn (by omega) (N6 hk)
  have hsz:=UB p k
  have h1:=uT p.t (dY k)
  have tp:=sA p.t (dY k) (by omega)
  have tq:=sA (bg p.t (dY k)).1 (Az p k) (by omega)
  have kd:=AZ p hS2 k.a
  have pk:=nt (wz p k).1 (by omega)
  rw[hps]
  unfold Az at tq
  cases hb1:(bg p.t (dY k)).2 with
  |false=>
   rw[rQ (by unfold wz;simp only[];rw[hb1];rfl)]
   obtain⟨T,hT⟩: ∃T,bg p.t (dY k)=(T,false):=⟨(bg p.t (dY k)).1,by rw[←hb1]⟩
   rw[hT] at tp tq
   repeat' first
    |refine⟨_,_,_,_,_,_,hcp,?_⟩
    |refine⟨_,_,hns,?_⟩
    |refine⟨_,hkk,?_⟩
    |refine⟨_,_,_,_,_,hrk,?_⟩
    |refine⟨_,_,_,tp,?_⟩
    |refine⟨_,kd,?_⟩
    |refine⟨_,_,_,tq,?_⟩
    |exact rfl
    |exact⟨rfl,by first|rfl|trivial⟩
    |refine ai (by first|rfl|(rw[aD];rfl)) ?_
    |refine an (by first|rfl|(rw[aD];rfl)) ?_
  |true=>
   obtain⟨T,hT⟩: ∃T,bg p.t (dY k)=(T,true):=⟨(bg p.t (dY k)).1,by rw[←hb1]⟩
   rw[hT] at tp tq
   simp only[] at tq
   obtain⟨U,c,hU⟩: ∃U c,bg T ⟨k.b,yO p k.a,k.k,k.c,k.g⟩=(U,c):=⟨_,_,rfl⟩
   rw[hU] at tq
   have hM:wz p k=(⟨U,p.ages,p.cells,p.vols,p.next⟩,c):=by unfold wz Az;rw[hT];simp only[];rw[hU];rfl
   rw[hM] at pk ⊢
   cases c with
   |false=>
    rw[rQ rfl]
    repeat' first
     |refine⟨_,_,_,_,_,_,hcp,?_⟩
     |refine⟨_,_,hns,?_⟩
     |refine⟨_,hkk,?_⟩
     |refine⟨_,_,_,_,_,hrk,?_⟩
     |refine⟨_,_,_,tp,?_⟩
     |refine⟨_,kd,?_⟩
     |refine⟨_,_,_,tq,?_⟩
     |exact rfl
     |exact⟨rfl,by first|rfl|trivial⟩
     |refine ai (by first|rfl|(rw[aD];rfl)) ?_
     |refine an (by first|rfl|(rw[aD];rfl)) ?_
   |true=>
    cases hg:jk ⟨U,p.ages,p.cells,p.vols,p.next⟩ with
    |false=>
     rw[q9 hg]
     rw[hg] at pk
     repeat' first
      |refine⟨_,_,_,_,_,_,hcp,?_⟩
      |refine⟨_,_,hns,?_⟩
      |refine⟨_,hkk,?_⟩
      |refine⟨_,_,_,_,_,hrk,?_⟩
      |refine⟨_,_,_,tp,?_⟩
      |refine⟨_,kd,?_⟩
      |refine⟨_,_,_,tq,?_⟩
      |refine⟨_,pk,?_⟩
      |exact rfl
      |exact⟨rfl,by first|rfl|trivial⟩
      |refine ai (by first|rfl|(rw[aD];rfl)) ?_
      |refine an (by first|rfl|(rw[aD];rfl)) ?_
    |true=>
     rw[rj rfl hg]
     rw[hg] at pk
     repeat' first
      |refine⟨_,_,_,_,_,_,hcp,?_⟩
      |refine⟨_,_,hns,?_⟩
      |refine⟨_,hkk,?_⟩
      |refine⟨_,_,_,_,_,hrk,?_⟩
      |refine⟨_,_,_,tp,?_⟩
      |refine⟨_,kd,?_⟩
      |refine⟨_,_,_,tq,?_⟩
      |refine⟨_,pk,?_⟩
      |exact rfl
      |exact⟨rfl,by first|rfl|trivial⟩
      |refine ai (by first|rfl|(rw[aD];rfl)) ?_
      |refine an (by first|rfl|(rw[aD];rfl)) ?_
 ·have hra:rowAt (p.ages.map bT) i=some [iI a.id,iI a.fr]:=by rw[bD,ha];rfl
  rw[hn] at hns
  have hps:=lO hn (by omega) (RL ha)
  have hrun:=KP p.ages a.id (by omega)
  have hsz:=WH p a.id
  have pk:=nt (O9 p a.id).1 (by omega)
  rw[hps]
  unfold O9 at pk ⊢
  generalize qS p.ages a.id=Y at*
  obtain⟨Y,b⟩:=Y
  cases b with
  |false=>
   rw[rQ rfl]
   repeat' first
    |refine⟨_,_,_,_,_,_,hcp,?_⟩
    |refine⟨_,_,hns,?_⟩
    |refine⟨_,hkk,?_⟩
    |refine⟨_,_,hra,?_⟩
    |refine⟨_,_,hrun,?_⟩
    |exact rfl
    |exact⟨rfl,by first|rfl|trivial⟩
    |refine ai (by first|rfl|(rw[aD];rfl)) ?_
    |refine an (by first|rfl|(rw[aD];rfl)) ?_
  |true=>
   cases hg:jk ⟨p.t,Y,p.cells,p.vols,p.next⟩ with
   |false=>
    rw[q9 hg]
    simp only[] at pk
    rw[hg] at pk
    repeat' first
     |refine⟨_,_,_,_,_,_,hcp,?_⟩
     |refine⟨_,_,hns,?_⟩
     |refine⟨_,hkk,?_⟩
     |refine⟨_,_,hra,?_⟩
     |refine⟨_,_,hrun,?_⟩
     |refine⟨_,pk,?_⟩
     |exact rfl
     |exact⟨rfl,by first|rfl|trivial⟩
     |refine ai (by first|rfl|(rw[aD];rfl)) ?_
     |refine an (by first|rfl|(rw[aD];rfl)) ?_
   |true=>
    rw[rj rfl hg]
    simp only[] at pk
    rw[hg] at pk
    repeat' first
     |refine⟨_,_,_,_,_,_,hcp,?_⟩
     |refine⟨_,_,hns,?_⟩
     |refine⟨_,hkk,?_⟩
     |refine⟨_,_,hra,?_⟩
     |refine⟨_,_,hrun,?_⟩
     |refine⟨_,pk,?_⟩
     |exact rfl
     |exact⟨rfl,by first|rfl|trivial⟩
     |refine ai (by first|rfl|(rw[aD];rfl)) ?_
     |refine an (by first|rfl|(rw[aD];rfl)) ?_
theorem FU (p:Pool) (hS:cc p≤1048576):aa C uU [eX p] (tPB (hJ p)) []:=by
 have hS2:cc p≤4194304:=by omega
 have hP:=fu hS2
 have htl:=eJ p.t
 have hcp:=wK p hS2
 have hns:=G9 p hS2
 have hkk:=jv p.t (by omega)
 refine(JO _ _ _ _ _ _ _ ?_).run
 rcases DV p with h0|⟨i,k,hn,hk⟩|⟨i,k,x,hn,hk,hx,he⟩|⟨i,a,hn,ha⟩
 ·have hps:hJ p=(p,false):=by unfold hJ;rw[h0];rfl
  rw[h0] at hns
  rw[hps]
  repeat' first
   |refine⟨_,_,_,_,_,_,hcp,?_⟩
   |refine⟨_,_,hns,?_⟩
   |exact rfl
   |exact⟨rfl,by first|rfl|trivial⟩
   |refine ai (by first|rfl|(rw[aD];rfl)) ?_
   |refine an (by first|rfl|(rw[aD];rfl)) ?_
 ·have hrk:rowAt ((aC p.t).map bw) i=some [iI k.b,iI k.a,iI k.k,iI k.c,iI k.g]:=by rw[bD,hk];rfl
  rcases hn with hn|hn
  ·rw[hn] at hns
   have hj:(1:Int)=1∨(1:Int)=2:= .inl rfl
   have hps:=lO hn (by omega) rfl
   rw[hps]
   have hsz:=Ax p (dY k)
   have hrun:=pY p hS2 _ i k hj hk
   rw[EH hj hk]
   generalize iX p (dY k)=X at*
   have pk:=nu X.1 (by omega)
   cases hb:X.2 with
   |false=>
    rw[hb] at hrun
    rw[rQ hb]
    repeat' first
     |refine⟨_,_,_,_,_,_,hcp,?_⟩
     |refine⟨_,_,hns,?_⟩
     |refine⟨_,_,_,_,_,_,_,hrun,?_⟩
     |exact rfl
     |exact⟨rfl,by first|rfl|trivial⟩
     |refine ai (by first|rfl|(rw[aD];rfl)) ?_
     |refine an (by first|rfl|(rw[aD];rfl)) ?_
   |true=>
    rw[hb] at hrun
    cases hg:jk X.1 with
    |false=>
     rw[hg] at pk
     rw[q9 hg]
     repeat' first
      |refine⟨_,_,_,_,_,_,hcp,?_⟩
      |refine⟨_,_,hns,?_⟩
      |refine⟨_,_,_,_,_,_,_,hrun,?_⟩
      |refine⟨_,pk,?_⟩
      |exact rfl
      |exact⟨rfl,by first|rfl|trivial⟩
      |refine ai (by first|rfl|(rw[aD];rfl)) ?_
      |refine an (by first|rfl|(rw[aD];rfl)) ?_
    |true=>
     rw[hg] at pk
     rw[rj hb hg]
     repeat' first
      |refine⟨_,_,_,_,_,_,hcp,?_⟩
      |refine⟨_,_,hns,?_⟩
      |refine⟨_,_,_,_,_,_,_,hrun,?_⟩
      |refine⟨_,pk,?_⟩
      |exact rfl
      |exact⟨rfl,by first|rfl|trivial⟩
      |refine ai (by first|rfl|(rw[aD];rfl)) ?_
      |refine an (by first|rfl|(rw[aD];rfl)) ?_
  ·rw[hn] at hns
   have hj:(2:Int)=1∨(2:Int)=2:= .inr rfl
   have hps:=lO hn (by omega) rfl
   rw[hps]
   have hsz:=Ax p (dY k)
   have hrun:=pY p hS2 _ i k hj hk
   rw[EH hj hk]
   generalize iX p (dY k)=X at*
   have pk:=nu X.1 (by omega)
   cases hb:X.2 with
   |false=>
    rw[hb] at hrun
    rw[rQ hb]
    repeat' first
     |refine⟨_,_,_,_,_,_,hcp,?_⟩
     |refine⟨_,_,hns,?_⟩
     |refine⟨_,_,_,_,_,_,_,hrun,?_⟩
     |exact rfl
     |exact⟨rfl,by first|rfl|trivial⟩
     |refine ai (by first|rfl|(rw[aD];rfl)) ?_
     |refine an (by first|rfl|(rw[aD];rfl)) ?_
   |true=>
    rw[hb] at hrun
    cases hg:jk X.1 with
    |false=>
     rw[hg] at pk
     rw[q9 hg]
     repeat' first
      |refine⟨_,_,_,_,_,_,hcp,?_⟩
      |refine⟨_,_,hns,?_⟩
      |refine⟨_,_,_,_,_,_,_,hrun,?_⟩
      |refine⟨_,pk,?_⟩
      |exact rfl
      |exact⟨rfl,by first|rfl|trivial⟩
      |refine ai (by first|rfl|(rw[aD];rfl)) ?_
      |refine an (by first|rfl|(rw[aD];rfl)) ?_
    |true=>
     rw[hg] at pk
     rw[rj hb hg]
     repeat' first
      |refine⟨_,_,_,_,_,_,hcp,?_⟩
      |refine⟨_,_,hns,?_⟩
      |refine⟨_,_,_,_,_,_,_,hrun,?_⟩
      |refine⟨_,pk,?_⟩
      |exact rfl
      |exact⟨rfl,by first|rfl|trivial⟩
      |refine ai (by first|rfl|(rw[aD];rfl)) ?_
      |refine an (by first|rfl|(rw[aD];rfl)) ?_
 ·have hrk:rowAt ((aC p.t).map bw) i=some [iI k.b,iI k.a,iI k.k,iI k.c,iI k.g]:=by rw[bD,hk];rfl
  rw[hn] at hns
  have hps:=lO hn (by omega) (N6 hk)
  have hsz:=UB p k
  have pk:=nu (wz p k).1 (by omega)
  obtain⟨X0,hrun,hX0⟩:=u9 p hS2 i k x hk hx he
  rw[hps]
  generalize wz p k=X at*
  cases hb:X.2 with
  |false=>
   rw[hb] at hrun
   rw[rQ hb]
   repeat' first
    |refine⟨_,_,_,_,_,_,hcp,?_⟩
    |refine⟨_,_,hns,?_⟩
    |refine⟨_,_,_,_,_,_,_,hrun,?_⟩
    |exact rfl
    |exact⟨rfl,by first|rfl|trivial⟩
    |refine ai (by first|rfl|(rw[aD];rfl)) ?_
    |refine an (by first|rfl|(rw[aD];rfl)) ?_
  |true=>
   have hX0:=hX0 hb
   subst hX0
   rw[hb] at hrun
   cases hg:jk X.1 with
   |false=>
    rw[hg] at pk
    rw[q9 hg]
    repeat' first
     |refine⟨_,_,_,_,_,_,hcp,?_⟩
     |refine⟨_,_,hns,?_⟩
     |refine⟨_,_,_,_,_,_,_,hrun,?_⟩
     |refine⟨_,pk,?_⟩
     |exact rfl
     |exact⟨rfl,by first|rfl|trivial⟩
     |refine ai (by first|rfl|(rw[aD];rfl)) ?_
     |refine an (by first|rfl|(rw[aD];rfl)) ?_
   |true=>
    rw[hg] at pk
    rw[rj hb hg]
    repeat' first
     |refine⟨_,_,_,_,_,_,hcp,?_⟩
     |refine⟨_,_,hns,?_⟩
     |refine⟨_,_,_,_,_,_,_,hrun,?_⟩
     |refine⟨_,pk,?_⟩
     |exact rfl
     |exact⟨rfl,by first|rfl|trivial⟩
     |refine ai (by first|rfl|(rw[aD];rfl)) ?_
     |refine an (by first|rfl|(rw[aD];rfl)) ?_
 ·have hra:rowAt (p.ages.map bT) i=some [iI a.id,iI a.fr]:=by rw[bD,ha];rfl
  rw[hn] at hns
  have hps:=lO hn (by omega) (RL ha)
  have hrun:=vN p hS2 i a ha
  have hsz:=WH p a.id
  rw[hps]
  generalize O9 p a.id=X at*
  have pk:=nu X.1 (by omega)
  cases hb:X.2 with
  |false=>
   rw[hb] at hrun
   rw[rQ hb]
   repeat' first
    |refine⟨_,_,_,_,_,_,hcp,?_⟩
    |refine⟨_,_,hns,?_⟩
    |refine⟨_,_,_,_,_,_,_,hrun,?_⟩
    |exact rfl
    |exact⟨rfl,by first|rfl|trivial⟩
    |refine ai (by first|rfl|(rw[aD];rfl)) ?_
    |refine an (by first|rfl|(rw[aD];rfl)) ?_
  |true=>
   rw[hb] at hrun
   cases hg:jk X.1 with
   |false=>
    rw[hg] at pk
    rw[q9 hg]
    repeat' first
     |refine⟨_,_,_,_,_,_,hcp,?_⟩
     |refine⟨_,_,hns,?_⟩
     |refine⟨_,_,_,_,_,_,_,hrun,?_⟩
     |refine⟨_,pk,?_⟩
     |exact rfl
     |exact⟨rfl,by first|rfl|trivial⟩
     |refine ai (by first|rfl|(rw[aD];rfl)) ?_
     |refine an (by first|rfl|(rw[aD];rfl)) ?_
   |true=>
    rw[hg] at pk
    rw[rj hb hg]
    repeat' first
     |refine⟨_,_,_,_,_,_,hcp,?_⟩
     |refine⟨_,_,hns,?_⟩
     |refine⟨_,_,_,_,_,_,_,hrun,?_⟩
     |refine⟨_,pk,?_⟩
     |exact rfl
     |exact⟨rfl,by first|rfl|trivial⟩
     |refine ai (by first|rfl|(rw[aD];rfl)) ?_
     |refine an (by first|rfl|(rw[aD];rfl)) ?_
theorem He (p:Pool) (hS:cc p≤1048576):aa C cQ [eX p] (eX (yP p)) []:=by
 unfold yP
 obtain⟨Z,hZe⟩: ∃Z,Z=oW 1000 p:=⟨_,rfl⟩
 rw[←hZe]
 have key: ∀(n:Nat),n≤1000→ ∀(z:Int) (X:Pool),z=1000-(n:Int)→cc X≤1048576→oW n X=Z→ah C cQ aj 4 0 (jx z (X.t.lows.map bq) (X.t.nodes.map aH) (X.ages.map bT) (X.cells.map bR) (X.vols.map dh) X.next) (fun x st=>au C cQ aj x st fun r fs=>r=eX Z∧fs=[]):=by
  intro n
  induction n with
  |zero=>
   intro hn24 z X hz hX hZ
   exact xA _ _ _ _ _ _ _ _ (an (by rw[dK];exact decide_eq_false (by omega)) (Hl _ _ _ _ _ _ _ _ ⟨by rw[←hZ];rfl,rfl⟩))
  |succ n ih=>
   intro hn24 z X hz hX hZ
   ·have hnx: ∀X:Pool,cc X≤1048576→oW n X=Z→ah C cQ aj 4 0 (jx (ay z 1) (X.t.lows.map bq) (X.t.nodes.map aH) (X.ages.map bT) (X.cells.map bR) (X.vols.map dh) X.next) (fun x st=>au C cQ aj x st fun r fs=>r=eX Z∧fs=[]):=fun X h1 h2=>by
     rw[aB (by omega)];exact ih (by omega) (z+1) X (by omega) h1 h2
    have ms:=va X (by omega)
    have msz:=uo X
    unfold oW at hZ
    generalize hJ X=Y at*
    obtain⟨Y,b⟩:=Y
    refine xA _ _ _ _ _ _ _ _ (ai (by rw[dK];exact decide_eq_true (by omega)) ⟨_,_,_,_,_,_,_,ms,?_⟩)
    cases b with
    |false=>
     rw[if_neg (by simp)] at hZ
     exact ai rfl (xz _ _ _ _ _ _ _ _ _ _ _ _ _ _ _ _ _ _ _ ⟨by rw[hZ],rfl⟩)
    |true=>
     rw[if_pos rfl] at hZ
     exact an rfl (hnx Y (by simp only[] at msz;omega) hZ)
 have k0: ∀X:Pool,cc X≤1048576→oW 1000 X=Z→ah C cQ aj 4 0 (rR (X.t.lows.map bq) (X.t.nodes.map aH) (X.ages.map bT) (X.cells.map bR) X.next (X.vols.map dh)) (fun x st=>au C cQ aj x st fun r fs=>r=eX Z∧fs=[]):=by
  intro X hX hZ
  · ·have hnx: ∀X:Pool,cc X≤1048576→oW 999 X=Z→ah C cQ aj 4 0 (jx (ay 0 1) (X.t.lows.map bq) (X.t.nodes.map aH) (X.ages.map bT) (X.cells.map bR) (X.vols.map dh) X.next) (fun x st=>au C cQ aj x st fun r fs=>r=eX Z∧fs=[]):=fun X h1 h2=>by
      rw[show ay 0 1=1 from by rw[aB (by omega)];rfl]
      exact key 999 (by omega) 1 X rfl h1 h2
     have ms:=va X (by omega)
     have msz:=uo X
     unfold oW at hZ
     generalize hJ X=Y at*
     obtain⟨Y,b⟩:=Y
     refine Hj _ _ _ _ _ _ _ (ai (by first|rfl|(rw[dK];rfl)) ⟨_,_,_,_,_,_,_,ms,?_⟩)
     cases b with
     |false=>
      rw[if_neg (by simp)] at hZ
      exact ai rfl (xz _ _ _ _ _ _ _ _ _ _ _ _ _ _ _ _ _ _ _ ⟨by rw[hZ],rfl⟩)
     |true=>
      rw[if_pos rfl] at hZ
      exact an rfl (hnx Y (by simp only[] at msz;omega) hZ)
 exact(KX _ _ _ _ _ _ _ ⟨_,_,_,_,_,_,yS p (by omega),k0 p hS hZe.symm⟩).run
theorem N7 (p:Pool) (hS:cc p≤1048576): ∃c,aa C g6 [eX p] (tPI (oW 1000 p,c)) []:=by
 obtain⟨Z,hZe⟩: ∃Z,Z=oW 1000 p:=⟨_,rfl⟩
 rw[←hZe]
 have key: ∀(n:Nat),n≤1000→ ∀(z:Int) (X:Pool),z=1000-(n:Int)→cc X≤1048576→oW n X=Z→ah C g6 aj 4 0 (o5 z X.next (X.t.lows.map bq) (X.t.nodes.map aH) (X.ages.map bT) (X.cells.map bR) (X.vols.map dh)) (fun x st=>au C g6 aj x st fun r fs=> ∃c,r=tPI (Z,c)∧fs=[]):=by
  intro n
  induction n with
  |zero=>
   intro hn24 z X hz hX hZ
   exact Eb _ _ _ _ _ _ _ _ (an (by rw[dK];exact decide_eq_false (by omega)) (Ov _ _ _ _ _ _ _ _ ⟨_,by rw[←hZ];rfl,rfl⟩))
  |succ n ih=>
   intro hn24 z X hz hX hZ
   ·have hnx: ∀X:Pool,cc X≤1048576→oW n X=Z→ah C g6 aj 4 0 (o5 (ay z 1) X.next (X.t.lows.map bq) (X.t.nodes.map aH) (X.ages.map bT) (X.cells.map bR) (X.vols.map dh)) (fun x st=>au C g6 aj x st fun r fs=> ∃c,r=tPI (Z,c)∧fs=[]):=fun X h1 h2=>by
     rw[aB (by omega)];exact ih (by omega) (z+1) X (by omega) h1 h2
    have ms:=FU X (by omega)
    have msz:=uo X
    unfold oW at hZ
    generalize hJ X=Y at*
    obtain⟨Y,b⟩:=Y
    refine Eb _ _ _ _ _ _ _ _ (ai (by rw[dK];exact decide_eq_true (by omega)) ⟨_,_,_,_,_,_,_,ms,?_⟩)
    cases b with
    |false=>
     rw[if_neg (by simp)] at hZ
     exact ai rfl (Ou _ _ _ _ _ _ _ _ _ _ _ _ _ _ ⟨_,by rw[←hZ],rfl⟩)
    |true=>
     rw[if_pos rfl] at hZ
     exact an rfl (hnx Y (by simp only[] at msz;omega) hZ)
 have h:aV C g6 [eX p] (fun r fs=> ∃c,r=tPI (Z,c)∧fs=[]):=SY _ _ _ _ _ _ _ ⟨_,_,_,_,_,_,wK p (by omega),key 1000 (by omega) 0 p rfl hS hZe.symm⟩
 obtain⟨r,fs,h1,c,rfl,rfl⟩:=h
 exact⟨c,h1⟩
theorem wM (p:Pool) (hS:cc p≤1048576):aa C sG [eX p] (eX (yP p)) []:=by
 obtain⟨c,hc⟩:=N7 p hS
 exact(LI _ _ _ _ _ _ _ ⟨_,_,_,_,_,_,_,hc,rfl,by first|rfl|trivial⟩).run
attribute [local semireducible] Kr in
theorem adH (l:List Y9):aA (l.map Su) 0 (Kr (Int.ofNat (List.length (l.map Su))) 200)=(l.take 200).map Su∧eU 0 (Kr (Int.ofNat (List.length (l.map Su))) 200) (Int.ofNat (List.length (l.map Su)))=true:=by
 rw[List.length_map]
 have hm:Kr (Int.ofNat l.length) 200=((min l.length 200:Nat):Int):=by
  unfold Kr
  rw[Int.ofNat_eq_natCast]
  split<;>omega
 rw[hm,cv,Dj]
 refine⟨?_,decide_eq_true (by simp only[Int.ofNat_eq_natCast];omega)⟩
 rw[Int.toNat_natCast,show(0:Int).toNat=0 from rfl,List.drop_zero]
 by_cases h:l.length≤200
 ·rw[List.take_of_length_le (by omega),List.take_of_length_le h]
 ·rw[show min l.length 200=200 from by omega]
theorem E7:dF 3 0=false:=by simp
theorem ZE:dF 10 0=false:=by simp
def FV:Nat→Int→ByteArray→ByteArray
 |0,_,out=>out
 |n+1,k,out=>if k≤0 then out else FV n (gf .i64 k 10) (O0 (CX [tT .u8 (48+x8 k 10)]) out)
def WI (k:Int):ByteArray:=if k≤0 then⟨#[109,48]⟩ else O0 ⟨#[109]⟩ (FV 19 k bs0)
attribute [local semireducible] ry CX O0 in
theorem Xv (n:Int):ry [[TC.sc (.int .u8 n)]]=some [n]:=rfl
attribute [local semireducible] CX in
theorem ZF (n:Int):(CX [n]).size=1:=rfl
attribute [local semireducible] O0 in
theorem Xw (a b:ByteArray):(O0 a b).size=a.size+b.size:=by show(a++b).size=_;simp
attribute [local semireducible] gf in
theorem WJ {a b:Int} (h0:0≤a) (h1:a≤9223372036854775807):gf .i64 a 10=a/10:=by
 show IntKind.i64.wrap (a.tdiv 10)=_
 rw[Int.tdiv_eq_ediv_of_nonneg h0]
 exact IntWalk.i64_in _ (by omega)
theorem VT (n:Nat) (k:Int) (out:ByteArray) (h:k≤0):FV n k out=out:=by cases n<;>simp[FV,h]
theorem SN (k:Int) (hk:k≤2305843009213693952):aa C fz [vI k] (vS (WI k)) []:=by
 refine(K0 _ _ ?_).run
 unfold WI
 simp only[gD,bu]
 by_cases h:k≤0
 ·rw[if_pos h,if_pos h];exact⟨rfl,by first|rfl|trivial⟩
 ·rw[if_neg h,if_neg h]
  have key: ∀(F:ByteArray) (n:Nat) (k':Int) (out:ByteArray),k'<10 ^ n→k'≤2305843009213693952→out.size+n≤100→FV n k' out=F→ah C fz qT 4 0 (ot k' out) (fun u st=>au C fz qT u st fun r fs=>r=vS (O0 ⟨#[109]⟩ F)∧fs=[]):=by
   intro F n
   induction n with
   |zero=>
    intro k' out h1 h2 h3 h4
    refine rU _ _ _ (an (by simp at h1 ⊢;omega) (xB _ _ _ _ ?_))
    simp only[FV] at h4
    subst h4
    refine ai (cZ (by simp only[natAdd,Iw];omega)) ⟨rfl,by first|rfl|trivial⟩
   |succ n ih=>
    intro k' out h1 h2 h3 h4
    by_cases h0:k'≤0
    ·rw[VT _ _ _ h0] at h4
     subst h4
     exact rU _ _ _ (an (by simp;omega) (xB _ _ _ _ (ai (cZ (by simp only[natAdd,Iw];omega)) ⟨rfl,by first|rfl|trivial⟩)))
    ·simp only[FV,if_neg h0] at h4
     have hr:0≤x8 k' 10∧x8 k' 10≤9:=by rw[aaB,Int.tmod_eq_emod_of_nonneg (by omega)];omega
     refine rU _ _ _ (ai (by simp;omega) (an ZE ⟨_,Xv _,ai (cZ (by simp only[natAdd,Iw,ZF];omega)) (an ZE ?_)⟩))
     rw[aB (by omega)]
     refine ih _ _ ?_ ?_ ?_ h4
     ·rw[WJ (b:=0) (by omega) (by omega)]
      have:(10:Int) ^ (n+1)=10 ^ n*10:=Int.pow_succ ..
      omega
     ·rw[WJ (b:=0) (by omega) (by omega)];omega
     ·rw[Xw,ZF];omega
  exact key _ 19 k bs0 (by rw[show(10:Int) ^ 19=10000000000000000000 from by decide];omega) hk (by decide) rfl
theorem N8 (k:Int) (hk:k≤2305843009213693952) (q:ByteArray):aa C fz [vI k] (vS q) []↔q=WI k:=adW (SN k hk)
def mkInt (_:Int) (k:Int):Int:=k
def Hf (_:Int):Nat:=1
theorem ZG (l:List (Int)) (k:Int) (h0:0≤k) (hk:k+tot Hf l≤2305843009213693952) (hl:l.length≤1099511627776):aa C jc [lz l,vI k] (vI (k+tot Hf l)) [lz (gC mkInt Hf l k)]:=by
 refine(Mf _ _ _ ?_).run
 refine uB (e:=bq) mkInt Hf (fun k i rows=>ah C jc ak 4 0 (oG k i rows) _) 2305843009213693952 ?_ l [] k h0 hk (by simpa using hl) ?_
 ·intro d a r k h0 hk hd hn
  have hw:Hf a=1:=rfl
  rw[hw] at hk hn
  refine xY _ _ _ _ (ai (by simp;omega) ?_)
  simp (disch:=omega) only[aB]
  simp only[rE,acg,qe,jY,lA,Option.some.injEq,exists_eq_left',exists_eq_left,mod_mod,E7,mI,bJ]
  rw[At]
  rw[show(k+1:Int)=k+((1:Nat):Int) by omega]
  exact hn
 ·refine xY _ _ _ _ (an (by simp[mJ]) (HT _ _ _ _ _ ⟨rfl,by first|rfl|trivial⟩))
theorem ZH (l:List (Int)) (k:Int) (h0:0≤k) (hk:k+tot Hf l≤2305843009213693952) (hl:l.length≤1099511627776):aa C jd [lz (gC mkInt Hf l k),vI k] (vI (k+tot Hf l)) []:=by
 refine(Lq _ _ _ ?_).run
 refine uC (e:=bq) mkInt Hf (fun k i rows=>ah C jd ak 4 0 (oB rows k i) _) 2305843009213693952 ?_ l [] k h0 hk (by simpa using hl) ?_
 ·intro d a r k h0 hk hd hn
  have hw:Hf a=1:=rfl
  rw[hw] at hk hn
  refine xL _ _ _ _ (ai (by simp;omega) ?_)
  simp (disch:=omega) only[aB]
  simp only[rE,qe,jY,lA,Option.some.injEq,exists_eq_left',exists_eq_left,mod_mod,E7,mI,bJ,mkInt,aD,NC,NA,bu,if_true,decide_true,Bool.not_true]
  rw[show(k+1:Int)=k+((1:Nat):Int) by omega]
  exact hn
 ·refine xL _ _ _ _ (an (by simp[mJ]) (HB _ _ _ _ _ ⟨rfl,by first|rfl|trivial⟩))
def mkKey (_:Key) (k:Int):Key:=⟨k,k+1,k+1+1,k+1+1+1,k+1+1+1+1⟩
def FW (_:Key):Nat:=5
theorem ZI (l:List (Key)) (k:Int) (h0:0≤k) (hk:k+tot FW l≤2305843009213693952) (hl:l.length≤1099511627776):aa C jf [cM l,vI k] (vI (k+tot FW l)) [cM (gC mkKey FW l k)]:=by
 refine(Mx _ _ _ ?_).run
 refine uB (e:=bw) mkKey FW (fun k i rows=>ah C jf ak 4 0 (oH k i rows) _) 2305843009213693952 ?_ l [] k h0 hk (by simpa using hl) ?_
 ·intro d a r k h0 hk hd hn
  have hw:FW a=5:=rfl
  rw[hw] at hk hn
  refine xZ _ _ _ _ (ai (by simp;omega) ?_)
  simp (disch:=omega) only[aB]
  simp only[jj,Zd,Ze,Zf,Zg,Zh,ab8,qe,jY,lA,Option.some.injEq,exists_eq_left',exists_eq_left,mod_mod,E7,mI,bJ]
  rw[At]
  rw[show(k+1+1+1+1+1:Int)=k+((5:Nat):Int) by omega]
  exact hn
 ·refine xZ _ _ _ _ (an (by simp[mJ]) (HU _ _ _ _ _ ⟨rfl,by first|rfl|trivial⟩))
theorem ZJ (l:List (Key)) (k:Int) (h0:0≤k) (hk:k+tot FW l≤2305843009213693952) (hl:l.length≤1099511627776):aa C jg [cM (gC mkKey FW l k),vI k] (vI (k+tot FW l)) []:=by
 refine(Ld _ _ _ ?_).run
 refine uC (e:=bw) mkKey FW (fun k i rows=>ah C jg ak 4 0 (ov rows k i) _) 2305843009213693952 ?_ l [] k h0 hk (by simpa using hl) ?_
 ·intro d a r k h0 hk hd hn
  have hw:FW a=5:=rfl
  rw[hw] at hk hn
  refine xE _ _ _ _ (ai (by simp;omega) ?_)
  simp (disch:=omega) only[aB]
  simp only[jj,qe,jY,lA,Option.some.injEq,exists_eq_left',exists_eq_left,mod_mod,E7,mI,bJ,mkKey,aD,NC,NA,bu,if_true,decide_true,Bool.not_true]
  rw[show(k+1+1+1+1+1:Int)=k+((5:Nat):Int) by omega]
  exact hn
 ·refine xE _ _ _ _ (an (by simp[mJ]) (Hq _ _ _ _ _ ⟨rfl,by first|rfl|trivial⟩))
def RM (_:Age) (k:Int):Age:=⟨k,k+1⟩
def FX (_:Age):Nat:=2
theorem ZK (l:List (Age)) (k:Int) (h0:0≤k) (hk:k+tot FX l≤2305843009213693952) (hl:l.length≤1099511627776):aa C iY [fG l,vI k] (vI (k+tot FX l)) [fG (gC RM FX l k)]:=by
 refine(L8 _ _ _ ?_).run
 refine uB (e:=bT) RM FX (fun k i rows=>ah C iY ak 4 0 (oE k i rows) _) 2305843009213693952 ?_ l [] k h0 hk (by simpa using hl) ?_
 ·intro d a r k h0 hk hd hn
  have hw:FX a=2:=rfl
  rw[hw] at hk hn
  refine xW _ _ _ _ (ai (by simp;omega) ?_)
  simp (disch:=omega) only[aB]
  simp only[rF,Xc,Rz,ab9,qe,jY,lA,Option.some.injEq,exists_eq_left',exists_eq_left,mod_mod,E7,mI,bJ]
  rw[At]
  rw[show(k+1+1:Int)=k+((2:Nat):Int) by omega]
  exact hn
 ·refine xW _ _ _ _ (an (by simp[mJ]) (HR _ _ _ _ _ ⟨rfl,by first|rfl|trivial⟩))
theorem ZL (l:List (Age)) (k:Int) (h0:0≤k) (hk:k+tot FX l≤2305843009213693952) (hl:l.length≤1099511627776):aa C ja [fG (gC RM FX l k),vI k] (vI (k+tot FX l)) []:=by
 refine(L9 _ _ _ ?_).run
 refine uC (e:=bT) RM FX (fun k i rows=>ah C ja ak 4 0 (oF rows k i) _) 2305843009213693952 ?_ l [] k h0 hk (by simpa using hl) ?_
 ·intro d a r k h0 hk hd hn
  have hw:FX a=2:=rfl
  rw[hw] at hk hn
  refine xX _ _ _ _ (ai (by simp;omega) ?_)
  simp (disch:=omega) only[aB]
  simp only[rF,qe,jY,lA,Option.some.injEq,exists_eq_left',exists_eq_left,mod_mod,E7,mI,bJ,RM,aD,NC,NA,bu,if_true,decide_true,Bool.not_true]
  rw[show(k+1+1:Int)=k+((2:Nat):Int) by omega]
  exact hn
 ·refine xX _ _ _ _ (an (by simp[mJ]) (HS _ _ _ _ _ ⟨rfl,by first|rfl|trivial⟩))
def FY (_:Cell) (k:Int):Cell:=⟨k,dF (x8 (k+1) 3) 0,k+1+1⟩
def wN (_:Cell):Nat:=3
theorem Xx (l:List (Cell)) (k:Int) (h0:0≤k) (hk:k+tot wN l≤2305843009213693952) (hl:l.length≤1099511627776):aa C g7 [iD l,vI k] (vI (k+tot wN l)) [iD (gC FY wN l k)]:=by
 refine(Jb _ _ _ ?_).run
 refine uB (e:=bR) FY wN (fun k i rows=>ah C g7 ak 4 0 (m7 k i rows) _) 2305843009213693952 ?_ l [] k h0 hk (by simpa using hl) ?_
 ·intro d a r k h0 hk hd hn
  have hw:wN a=3:=rfl
  rw[hw] at hk hn
  refine vv _ _ _ _ (ai (by simp;omega) ?_)
  simp (disch:=omega) only[aB]
  simp only[qm,Xd,Xe,Xf,Sw,qe,jY,lA,Option.some.injEq,exists_eq_left',exists_eq_left,mod_mod,E7,mI,bJ]
  rw[At]
  rw[show(k+1+1+1:Int)=k+((3:Nat):Int) by omega]
  exact hn
 ·refine vv _ _ _ _ (an (by simp[mJ]) (F3 _ _ _ _ _ ⟨rfl,by first|rfl|trivial⟩))
theorem Xy (l:List (Cell)) (k:Int) (h0:0≤k) (hk:k+tot wN l≤2305843009213693952) (hl:l.length≤1099511627776):aa C g8 [iD (gC FY wN l k),vI k] (vI (k+tot wN l)) []:=by
 refine(Jc _ _ _ ?_).run
 refine uC (e:=bR) FY wN (fun k i rows=>ah C g8 ak 4 0 (m8 rows k i) _) 2305843009213693952 ?_ l [] k h0 hk (by simpa using hl) ?_
 ·intro d a r k h0 hk hd hn
  have hw:wN a=3:=rfl
  rw[hw] at hk hn
  refine vw _ _ _ _ (ai (by simp;omega) ?_)
  simp (disch:=omega) only[aB]
  simp only[qm,qe,jY,lA,Option.some.injEq,exists_eq_left',exists_eq_left,mod_mod,E7,mI,bJ,FY,aD,NC,NA,bu,if_true,decide_true,Bool.not_true]
  rw[show(k+1+1+1:Int)=k+((3:Nat):Int) by omega]
  simpa [FY] using hn
 ·refine vw _ _ _ _ (an (by simp[mJ]) (F4 _ _ _ _ _ ⟨rfl,by first|rfl|trivial⟩))
def N9 (_:Vol) (k:Int):Vol:=⟨WI (k),k+1,k+1+1,dF (x8 (k+1+1+1) 3) 0⟩
def I2 (_:Vol):Nat:=4
theorem ZM (l:List (Vol)) (k:Int) (h0:0≤k) (hk:k+tot I2 l≤2305843009213693952) (hl:l.length≤1099511627776):aa C iZ [yK l,vI k] (vI (k+tot I2 l)) [yK (gC N9 I2 l k)]:=by
 refine(Lg _ _ _ ?_).run
 refine uB (e:=dh) N9 I2 (fun k i rows=>ah C iZ ak 4 0 (oy k i rows) _) 2305843009213693952 ?_ l [] k h0 hk (by simpa using hl) ?_
 ·intro d a r k h0 hk hd hn
  have hw:I2 a=4:=rfl
  rw[hw] at hk hn
  refine xF _ _ _ _ (ai (by simp;omega) ?_)
  simp (disch:=omega) only[aB]
  simp only[yj,Uf,VC,Ug,Xg,acd,N8 (k) (by omega),qe,jY,lA,Option.some.injEq,exists_eq_left',exists_eq_left,mod_mod,E7,mI,bJ]
  rw[At]
  rw[show(k+1+1+1+1:Int)=k+((4:Nat):Int) by omega]
  exact hn
 ·refine xF _ _ _ _ (an (by simp[mJ]) (Hr _ _ _ _ _ ⟨rfl,by first|rfl|trivial⟩))
theorem ZN (l:List (Vol)) (k:Int) (h0:0≤k) (hk:k+tot I2 l≤2305843009213693952) (hl:l.length≤1099511627776):aa C jb [yK (gC N9 I2 l k),vI k] (vI (k+tot I2 l)) []:=by
 refine(Lh _ _ _ ?_).run
 refine uC (e:=dh) N9 I2 (fun k i rows=>ah C jb ak 4 0 (oz rows k i) _) 2305843009213693952 ?_ l [] k h0 hk (by simpa using hl) ?_
 ·intro d a r k h0 hk hd hn
  have hw:I2 a=4:=rfl
  rw[hw] at hk hn
  refine xG _ _ _ _ (ai (by simp;omega) ?_)
  simp (disch:=omega) only[aB]
  simp only[yj,N8 (k) (by omega),qe,jY,lA,Option.some.injEq,exists_eq_left',exists_eq_left,mod_mod,E7,mI,bJ,N9,aD,NC,NA,bu,if_true,decide_true,Bool.not_true]
  rw[show(k+1+1+1+1:Int)=k+((4:Nat):Int) by omega]
  simpa [N9] using hn
 ·refine xG _ _ _ _ (an (by simp[mJ]) (Hs _ _ _ _ _ ⟨rfl,by first|rfl|trivial⟩))
def AK (s:List Key) (k:Int):List Key:=gC mkKey FW s k
def kz (s:List Key):Nat:=tot FW s
theorem Xz: ∀(l:List (List Key)) (k:Int) (h0:0≤k) (hk:k+tot kz l≤2305843009213693952) (hl:l.length≤1099511627776) (hs: ∀s∈l,s.length≤1099511627776),aa C gl [GP l,vI k] (vI (k+tot kz l)) [GP (gC AK kz l k)]:=by
 intro l k h0 hk hl hs
 refine(JJ _ _ _ ?_).run
 have key: ∀(r d:List (List Key)) (k:Int),0≤k→k+tot kz r≤2305843009213693952→d.length+r.length≤1099511627776→(∀s∈r,s.length≤1099511627776)→ ∀(R:TV) (F:List TV),vI (k+tot kz r)=R→[GP (d++gC AK kz r k)]=F→ah C gl ak 4 0 (ng k (d.length:Int) ((d++r).map bX)) (fun u st=>au C gl ak u st fun r fs=>r=R∧fs=F):=by
  intro r
  induction r with
  |nil=>
   intro d k h0 hk hl hs R F hR hF
   subst hR hF
   refine vE _ _ _ _ (an (by simp) (Ga _ _ _ _ _ ⟨by simp[tot],by simp[gC]⟩))
  |cons a r ih=>
   intro d k h0 hk hl hs R F hR hF
   simp only[tot,List.length_cons] at hk hl
   have hca:=hs a (.head _)
   have hu:tot FW a=kz a:=rfl
   refine vE _ _ _ _ (ai (by simp;omega) ?_)
   simp only[su,lA,Option.some.injEq,exists_eq_left']
   refine⟨_,_,ZI a k h0 (by omega) hca,?_⟩
   simp only[ach]
   rw[At,aB (by omega)]
   have:=ih (d++[AK a k]) (k+kz a) (by omega) (by omega) (by simp;omega) (fun s h=>hs s (.tail _ h)) R F (by rw[←hR];simp only[tot];rw[show k+(kz a:Int)+(tot kz r:Int)=k+((kz a+tot kz r:Nat):Int) by omega]) (by rw[←hF];simp[gC])
   rw[←hu] at this
   simpa [AK] using this
 exact key l [] k h0 hk (by simpa using hl) hs _ _ rfl (by simp)
theorem XA: ∀(l:List (List Key)) (k:Int) (h0:0≤k) (hk:k+tot kz l≤2305843009213693952) (hl:l.length≤1099511627776) (hs: ∀s∈l,s.length≤1099511627776),aa C gm [GP (gC AK kz l k),vI k] (vI (k+tot kz l)) []:=by
 intro l k h0 hk hl hs
 refine(JV _ _ _ ?_).run
 have key: ∀(r d:List (List Key)) (k:Int),0≤k→k+tot kz r≤2305843009213693952→d.length+r.length≤1099511627776→(∀s∈r,s.length≤1099511627776)→ ∀(R:TV),vI (k+tot kz r)=R→ah C gm ak 4 0 (nh ((d++gC AK kz r k).map bX) k (d.length:Int)) (fun u st=>au C gm ak u st fun r fs=>r=R∧fs=[]):=by
  intro r
  induction r with
  |nil=>
   intro d k h0 hk hl hs R hR
   subst hR
   refine vJ _ _ _ _ (an (by simp[gC]) (Gf _ _ _ _ _ ⟨by simp[tot],rfl⟩))
  |cons a r ih=>
   intro d k h0 hk hl hs R hR
   simp only[tot,List.length_cons] at hk hl
   have hca:=hs a (.head _)
   have hu:tot FW a=kz a:=rfl
   simp only[gC]
   refine vJ _ _ _ _ (ai (by simp;omega) ?_)
   simp only[su,lA,Option.some.injEq,exists_eq_left']
   refine⟨_,ZJ a k h0 (by omega) hca,an (by simp;omega) ?_⟩
   rw[aB (by omega)]
   have:=ih (d++[AK a k]) (k+kz a) (by omega) (by omega) (by simp;omega) (fun s h=>hs s (.tail _ h)) R (by rw[←hR];simp only[tot];rw[show k+(kz a:Int)+(tot kz r:Int)=k+((kz a+tot kz r:Nat):Int) by omega])
   rw[hu]
   simpa [AK] using this
 exact key l [] k h0 hk (by simpa using hl) hs _ rfl
def mkNode (s:List (List Key)) (k:Int):List (List Key):=gC AK kz s k
def mw (s:List (List Key)):Nat:=tot kz s
theorem XC: ∀(l:List (List (List Key))) (k:Int) (h0:0≤k) (hk:k+tot mw l≤2305843009213693952) (hl:l.length≤1099511627776) (hs: ∀s∈l,G1 s),aa C gi [uR l,vI k] (vI (k+tot mw l)) [uR (gC mkNode mw l k)]:=by
 intro l k h0 hk hl hs
 refine(Jd _ _ _ ?_).run
 have key: ∀(r d:List (List (List Key))) (k:Int),0≤k→k+tot mw r≤2305843009213693952→d.length+r.length≤1099511627776→(∀s∈r,G1 s)→ ∀(R:TV) (F:List TV),vI (k+tot mw r)=R→[uR (d++gC mkNode mw r k)]=F→ah C gi ak 4 0 (m9 k (d.length:Int) ((d++r).map aH)) (fun u st=>au C gi ak u st fun r fs=>r=R∧fs=F):=by
  intro r
  induction r with
  |nil=>
   intro d k h0 hk hl hs R F hR hF
   subst hR hF
   refine vz _ _ _ _ (an (by simp) (F5 _ _ _ _ _ ⟨by simp[tot],by simp[gC]⟩))
  |cons a r ih=>
   intro d k h0 hk hl hs R F hR hF
   simp only[tot,List.length_cons] at hk hl
   have hca:=hs a (.head _)
   have hu:tot kz a=mw a:=rfl
   refine vz _ _ _ _ (ai (by simp;omega) ?_)
   simp only[rG,lA,Option.some.injEq,exists_eq_left']
   refine⟨_,_,Xz a k h0 (by omega) hca.1 hca.2,?_⟩
   simp only[aaI]
   rw[At,aB (by omega)]
   have:=ih (d++[mkNode a k]) (k+mw a) (by omega) (by omega) (by simp;omega) (fun s h=>hs s (.tail _ h)) R F (by rw[←hR];simp only[tot];rw[show k+(mw a:Int)+(tot mw r:Int)=k+((mw a+tot mw r:Nat):Int) by omega]) (by rw[←hF];simp[gC])
   rw[←hu] at this
   simpa [mkNode] using this
 exact key l [] k h0 hk (by simpa using hl) hs _ _ rfl (by simp)
theorem XD: ∀(l:List (List (List Key))) (k:Int) (h0:0≤k) (hk:k+tot mw l≤2305843009213693952) (hl:l.length≤1099511627776) (hs: ∀s∈l,G1 s),aa C gj [uR (gC mkNode mw l k),vI k] (vI (k+tot mw l)) []:=by
 intro l k h0 hk hl hs
 refine(JF _ _ _ ?_).run
 have key: ∀(r d:List (List (List Key))) (k:Int),0≤k→k+tot mw r≤2305843009213693952→d.length+r.length≤1099511627776→(∀s∈r,G1 s)→ ∀(R:TV),vI (k+tot mw r)=R→ah C gj ak 4 0 (nc ((d++gC mkNode mw r k).map aH) k (d.length:Int)) (fun u st=>au C gj ak u st fun r fs=>r=R∧fs=[]):=by
  intro r
  induction r with
  |nil=>
   intro d k h0 hk hl hs R hR
   subst hR
   refine vD _ _ _ _ (an (by simp[gC]) (F9 _ _ _ _ _ ⟨by simp[tot],rfl⟩))
  |cons a r ih=>
   intro d k h0 hk hl hs R hR
   simp only[tot,List.length_cons] at hk hl
   have hca:=hs a (.head _)
   have hu:tot kz a=mw a:=rfl
   simp only[gC]
   refine vD _ _ _ _ (ai (by simp;omega) ?_)
   simp only[rG,lA,Option.some.injEq,exists_eq_left']
   refine⟨_,XA a k h0 (by omega) hca.1 hca.2,an (by simp;omega) ?_⟩
   rw[aB (by omega)]
   have:=ih (d++[mkNode a k]) (k+mw a) (by omega) (by omega) (by simp;omega) (fun s h=>hs s (.tail _ h)) R (by rw[←hR];simp only[tot];rw[show k+(mw a:Int)+(tot mw r:Int)=k+((mw a+tot mw r:Nat):Int) by omega])
   rw[hu]
   simpa [mkNode] using this
 exact key l [] k h0 hk (by simpa using hl) hs _ rfl
def A5 (t:Tree):Nat:=tot Hf t.lows+tot mw t.nodes
def VU (t:Tree) (k:Int):Tree:=⟨gC mkInt Hf t.lows k,gC mkNode mw t.nodes (k+tot Hf t.lows)⟩
theorem ZO (t:Tree) (k:Int) (h0:0≤k) (hk:k+A5 t≤2305843009213693952) (h:RJ t):aa C yl [c8 t,vI k] (vI (k+A5 t)) [c8 (VU t k)]:=by
 unfold A5 at*
 refine(LK _ _ _ _ ⟨_,_,ZG t.lows k h0 (by omega) h.1,_,_,XC t.nodes _ (by omega) (by omega) h.2.1 h.2.2,?_⟩).run
 exact⟨by congr 2;omega,rfl⟩
theorem ZP (t:Tree) (k:Int) (h0:0≤k) (hk:k+A5 t≤2305843009213693952) (h:RJ t):aa C ym [c8 (VU t k),vI k] (vI (k+A5 t)) []:=by
 unfold A5 at*
 refine(LL _ _ _ _ ⟨_,ZH t.lows k h0 (by omega) h.1,an (by simp;omega) ⟨_,XD t.nodes _ (by omega) (by omega) h.2.1 h.2.2,an (by simp;omega) ?_⟩⟩).run
 exact⟨by congr 2;omega,rfl⟩
def Kq (p:Pool):Nat:=A5 p.t+tot FX p.ages+tot wN p.cells+tot I2 p.vols
def ZQ (p:Pool) (k:Int):Pool:=⟨VU p.t k,gC RM FX p.ages (k+A5 p.t),gC FY wN p.cells (k+A5 p.t+tot FX p.ages),gC N9 I2 p.vols (k+A5 p.t+tot FX p.ages+tot wN p.cells),p.next⟩
theorem UC (p:Pool) (k:Int) (h0:0≤k) (hk:k+Kq p≤2305843009213693952) (h:Uz p):aa C sH [eX p,vI k] (vI (k+Kq p)) [eX (ZQ p k)]:=by
 unfold Kq at*
 refine(KY _ _ _ _ _ _ _ _ ⟨_,_,_,ZO p.t k h0 (by omega) h.t,_,_,ZK p.ages _ (by omega) (by omega) h.ages,_,_,Xx p.cells _ (by omega) (by omega) h.cells,_,_,ZM p.vols _ (by omega) (by omega) h.vols,?_⟩).run
 exact⟨by congr 2;omega,rfl⟩
theorem UD (p:Pool) (k:Int) (h0:0≤k) (hk:k+Kq p≤2305843009213693952) (h:Uz p):aa C sJ [eX (ZQ p k),vI k] (vI (k+Kq p)) []:=by
 unfold Kq at*
 refine(Le _ _ _ _ _ _ _ _ ⟨_,ZP p.t k h0 (by omega) h.t,an (by simp;omega) ⟨_,ZL p.ages _ (by omega) (by omega) h.ages,an (by simp;omega) ⟨_,Xy p.cells _ (by omega) (by omega) h.cells,an (by simp;omega) ⟨_,ZN p.vols _ (by omega) (by omega) h.vols,an (by simp;omega) ?_⟩⟩⟩⟩).run
 exact⟨by congr 2;omega,rfl⟩
theorem FZ {n z:Nat} (h:n*z≤reachBytes) (hz:1≤z):n≤140737488355328:=by
 have:reachBytes≤140737488355328:=by decide
 have h2:n*1≤n*z:=Nat.mul_le_mul_left n hz
 omega
theorem acJ {n:Int} (h:(Lit.int .i64 n).wf=true):n≤9223372036854775807:=by
 have:=(ab6 h).2
 omega
theorem ZR {r:List TC} (h:uA C.tt abz r): ∃n:Int,r=bq n∧True:=by
 obtain⟨n,rfl,_⟩:=h.ql (k:= .i64) (by kernel_rfl)
 exact⟨n,rfl,trivial⟩
theorem acK {r:List TC} (h:uA C.tt NU r): ∃x:Key,r=bw x∧True:=by
 obtain⟨q0,r0,rfl,h0,k0⟩:=(h.qQ (fs:=[(0,3),(1,3),(2,3),(3,3),(4,3)]) (by kernel_rfl)).cons_inv
 obtain⟨q1,r1,rfl,h1,k1⟩:=k0.cons_inv
 obtain⟨q2,r2,rfl,h2,k2⟩:=k1.cons_inv
 obtain⟨q3,r3,rfl,h3,k3⟩:=k2.cons_inv
 obtain⟨q4,r4,rfl,h4,k4⟩:=k3.cons_inv
 have e:=k4.As
 subst e
 obtain⟨v0,rfl,u0⟩:=h0.ql (k:= .i64) (by kernel_rfl)
 obtain⟨v1,rfl,u1⟩:=h1.ql (k:= .i64) (by kernel_rfl)
 obtain⟨v2,rfl,u2⟩:=h2.ql (k:= .i64) (by kernel_rfl)
 obtain⟨v3,rfl,u3⟩:=h3.ql (k:= .i64) (by kernel_rfl)
 obtain⟨v4,rfl,u4⟩:=h4.ql (k:= .i64) (by kernel_rfl)
 exact⟨⟨v0,v1,v2,v3,v4⟩,rfl,trivial⟩
theorem acL {r:List TC} (h:uA C.tt NT r): ∃x:Age,r=bT x∧True:=by
 obtain⟨q0,r0,rfl,h0,k0⟩:=(h.qQ (fs:=[(0,3),(1,3)]) (by kernel_rfl)).cons_inv
 obtain⟨q1,r1,rfl,h1,k1⟩:=k0.cons_inv
 have e:=k1.As
 subst e
 obtain⟨v0,rfl,u0⟩:=h0.ql (k:= .i64) (by kernel_rfl)
 obtain⟨v1,rfl,u1⟩:=h1.ql (k:= .i64) (by kernel_rfl)
 exact⟨⟨v0,v1⟩,rfl,trivial⟩
theorem aa0 {r:List TC} (h:uA C.tt Kk r): ∃x:Cell,r=bR x∧True:=by
 obtain⟨q0,r0,rfl,h0,k0⟩:=(h.qQ (fs:=[(0,3),(1,4),(2,3)]) (by kernel_rfl)).cons_inv
 obtain⟨q1,r1,rfl,h1,k1⟩:=k0.cons_inv
 obtain⟨q2,r2,rfl,h2,k2⟩:=k1.cons_inv
 have e:=k2.As
 subst e
 obtain⟨v0,rfl,u0⟩:=h0.ql (k:= .i64) (by kernel_rfl)
 obtain⟨v1,rfl⟩:=h1.Ub (by kernel_rfl)
 obtain⟨v2,rfl,u2⟩:=h2.ql (k:= .i64) (by kernel_rfl)
 exact⟨⟨v0,v1,v2⟩,rfl,trivial⟩
theorem acM {r:List TC} (h:uA C.tt NV r): ∃x:Vol,r=dh x∧x.name.size≤140737488355328∧x.size≤9223372036854775807:=by
 obtain⟨q0,r0,rfl,h0,k0⟩:=(h.qQ (fs:=[(0,9),(1,3),(2,3),(3,4)]) (by kernel_rfl)).cons_inv
 obtain⟨q1,r1,rfl,h1,k1⟩:=k0.cons_inv
 obtain⟨q2,r2,rfl,h2,k2⟩:=k1.cons_inv
 obtain⟨q3,r3,rfl,h3,k3⟩:=k2.cons_inv
 have e:=k3.As
 subst e
 obtain⟨v0,rfl,z0⟩:=h0.aaC (by kernel_rfl)
 obtain⟨v1,rfl,u1⟩:=h1.ql (k:= .i64) (by kernel_rfl)
 obtain⟨v2,rfl,u2⟩:=h2.ql (k:= .i64) (by kernel_rfl)
 obtain⟨v3,rfl⟩:=h3.Ub (by kernel_rfl)
 exact⟨⟨v0,v1,v2,v3⟩,rfl,⟨Nat.le_trans z0 (by decide),acJ u2⟩⟩
theorem XE {r:List TC} (h:uA C.tt aaP r): ∃l:List (Int),r=[.sub 1 (l.map bq)]∧l.length≤140737488355328∧ ∀x∈l,True:=by
 obtain⟨w,rfl,y,z⟩:=h.sr (e:=abz) (by kernel_rfl)
 obtain⟨l,rfl,hl⟩:=oT fun r hr=>ZR (y r hr)
 rw[List.length_map] at z
 exact⟨l,rfl,FZ z (by decide+kernel),hl⟩
theorem XF {r:List TC} (h:uA C.tt AH r): ∃l:List (Key),r=[.sub 5 (l.map bw)]∧l.length≤140737488355328∧ ∀x∈l,True:=by
 obtain⟨w,rfl,y,z⟩:=h.sr (e:=NU) (by kernel_rfl)
 obtain⟨l,rfl,hl⟩:=oT fun r hr=>acK (y r hr)
 rw[List.length_map] at z
 exact⟨l,rfl,FZ z (by decide+kernel),hl⟩
theorem XG {r:List TC} (h:uA C.tt SF r): ∃l:List (Age),r=[.sub 2 (l.map bT)]∧l.length≤140737488355328∧ ∀x∈l,True:=by
 obtain⟨w,rfl,y,z⟩:=h.sr (e:=NT) (by kernel_rfl)
 obtain⟨l,rfl,hl⟩:=oT fun r hr=>acL (y r hr)
 rw[List.length_map] at z
 exact⟨l,rfl,FZ z (by decide+kernel),hl⟩
theorem VV {r:List TC} (h:uA C.tt Pc r): ∃l:List (Cell),r=[.sub 3 (l.map bR)]∧l.length≤140737488355328∧ ∀x∈l,True:=by
 obtain⟨w,rfl,y,z⟩:=h.sr (e:=Kk) (by kernel_rfl)
 obtain⟨l,rfl,hl⟩:=oT fun r hr=>aa0 (y r hr)
 rw[List.length_map] at z
 exact⟨l,rfl,FZ z (by decide+kernel),hl⟩
theorem XH {r:List TC} (h:uA C.tt SG r): ∃l:List (Vol),r=[.sub 4 (l.map dh)]∧l.length≤140737488355328∧ ∀x∈l,x.name.size≤140737488355328∧x.size≤9223372036854775807:=by
 obtain⟨w,rfl,y,z⟩:=h.sr (e:=NV) (by kernel_rfl)
 obtain⟨l,rfl,hl⟩:=oT fun r hr=>acM (y r hr)
 rw[List.length_map] at z
 exact⟨l,rfl,FZ z (by decide+kernel),hl⟩
theorem acN {r:List TC} (h:uA C.tt AH r): ∃s:List Key,r=bX s∧s.length≤140737488355328:=by
 obtain⟨l,rfl,hl,_⟩:=XF h
 exact⟨l,rfl,hl⟩
theorem XI {r:List TC} (h:uA C.tt Pb r): ∃l:List (List Key),r=[.sub 1 (l.map bX)]∧l.length≤140737488355328∧ ∀x∈l,x.length≤140737488355328:=by
 obtain⟨w,rfl,y,z⟩:=h.sr (e:=AH) (by kernel_rfl)
 obtain⟨l,rfl,hl⟩:=oT fun r hr=>acN (y r hr)
 rw[List.length_map] at z
 exact⟨l,rfl,FZ z (by decide+kernel),hl⟩
theorem aa1 {r:List TC} (h:uA C.tt Kl r): ∃n:List (List Key),r=aH n∧(n.length≤140737488355328∧ ∀s∈n,s.length≤140737488355328):=by
 obtain⟨q0,r0,rfl,h0,k0⟩:=(h.qQ (fs:=[(0,178)]) (by kernel_rfl)).cons_inv
 have e:=k0.As
 subst e
 obtain⟨l,rfl,hl,hs⟩:=XI h0
 exact⟨l,rfl,hl,hs⟩
theorem VW {r:List TC} (h:uA C.tt Pd r): ∃l:List (List (List Key)),r=[.sub 1 (l.map aH)]∧l.length≤140737488355328∧ ∀x∈l,x.length≤140737488355328∧ ∀s∈x,s.length≤140737488355328:=by
 obtain⟨w,rfl,y,z⟩:=h.sr (e:=Kl) (by kernel_rfl)
 obtain⟨l,rfl,hl⟩:=oT fun r hr=>aa1 (y r hr)
 rw[List.length_map] at z
 exact⟨l,rfl,FZ z (by decide+kernel),hl⟩
theorem aa2 {r:List TC} (h:uA C.tt Uy r): ∃t:Tree,r=Wz t∧ZC t:=by
 obtain⟨q0,r0,rfl,h0,k0⟩:=(h.qQ (fs:=[(0,22),(1,23)]) (by kernel_rfl)).cons_inv
 obtain⟨q1,r1,rfl,h1,k1⟩:=k0.cons_inv
 have e:=k1.As
 subst e
 obtain⟨l,rfl,hl,_⟩:=XE h0
 obtain⟨n,rfl,hn,hs⟩:=VW h1
 exact⟨⟨l,n⟩,rfl,⟨hl,hn,hs⟩⟩
theorem aa3 {r:List TC} (h:uA C.tt sZ r): ∃p:Pool,r=jX p∧WG p:=by
 obtain⟨q0,r0,rfl,h0,k0⟩:=(h.qQ (fs:=[(0,25),(2,26),(3,27),(4,28),(5,3)]) (by kernel_rfl)).cons_inv
 obtain⟨q1,r1,rfl,h1,k1⟩:=k0.cons_inv
 obtain⟨q2,r2,rfl,h2,k2⟩:=k1.cons_inv
 obtain⟨q3,r3,rfl,h3,k3⟩:=k2.cons_inv
 obtain⟨q4,r4,rfl,h4,k4⟩:=k3.cons_inv
 have e:=k4.As
 subst e
 obtain⟨t,rfl,ht⟩:=aa2 h0
 obtain⟨a,rfl,ha,_⟩:=XG h1
 obtain⟨c,rfl,hc,_⟩:=VV h2
 obtain⟨v,rfl,hv,hw⟩:=XH h3
 obtain⟨n,rfl,_⟩:=ZR h4
 exact⟨⟨t,a,c,v,n⟩,rfl,⟨ht,ha,hc,hv,fun v h=>(hw v h).1,fun v h=>(hw v h).2⟩⟩
theorem acO {v:TV} (h:WfV C.tt sZ v): ∃x:Pool,v=eX x∧WG x:=by
 have ht:(C.tt sZ).ti= .struct [(0,25),(2,26),(3,27),(4,28),(5,3)]:=by kernel_rfl
 cases h with
 |c hs hw=>exact absurd ht (hs _)
 |ag _ hw=>
  obtain⟨x,rfl,hx⟩:=aa3 hw
  exact⟨x,rfl,hx⟩
theorem acP {a:Int} {n:Nat} (h:bI (m4 a n) 0=false) (h0:0≤a∧a≤1048576):(n:Int)≤a∧(0≤m4 a n∧m4 a n≤1048576)∧m4 a n=a-n:=by
 rw[dK] at h
 have h: ¬m4 a n<0:=of_decide_eq_false h
 unfold m4 at*
 split at h<;>simp_all<;>omega
theorem ZS {t:Tree} (h:cz t≤4194304):RJ t:=by
 unfold cz rH at h
 refine⟨by omega,by omega,fun n hn=> ?_⟩
 have h1:=oe (w:=aI) hn
 have e:aI n=n.length+tot bH n:=rfl
 exact⟨by omega,fun s hs=>by
  have h2:=oe (w:=bH) hs
  have e2:bH s=s.length:=rfl
  omega⟩
theorem ZT (l:List Key):tot FW l=5*l.length:=uD 5 l
theorem ZU (n:List (List Key)):tot kz n≤5*tot bH n:=by
 induction n with
 |nil=>simp[tot]
 |cons s r ih=>
  simp only[tot]
  have:kz s=5*s.length:=ZT s
  have e:bH s=s.length:=rfl
  omega
theorem XJ (l:List (List (List Key))):tot mw l≤5*tot aI l:=by
 induction l with
 |nil=>simp[tot]
 |cons n r ih=>
  simp only[tot]
  have h1:=ZU n
  have h2:aI n=n.length+tot bH n:=rfl
  have h3:mw n=tot kz n:=rfl
  omega
theorem ZV (t:Tree):A5 t≤5*cz t:=by
 have h1:=XJ t.nodes
 have h2:tot Hf t.lows=1*t.lows.length:=uD 1 t.lows
 unfold A5 cz rH
 omega
theorem UE {p:Pool} (h:cc p≤4194304):Uz p:=by
 unfold cc Iz at h
 exact⟨ZS (by omega),by omega,by omega,by omega⟩
theorem UF (p:Pool):Kq p≤5*cc p:=by
 have h1:=ZV p.t
 have h2:tot FX p.ages=2*p.ages.length:=uD 2 p.ages
 have h3:tot wN p.cells=3*p.cells.length:=uD 3 p.cells
 have h4:tot I2 p.vols=4*p.vols.length:=uD 4 p.vols
 unfold Kq cc Iz
 omega
theorem SO (p:Pool) (w_p:WG p):aa C oX [eX p] (vB true) []:=by
 refine(AM _ _ _ _ _ _ _ ?_).run
 refine⟨_,VQ _ _ (by first|omega|assumption) (by assumption),?_⟩
 refine qd (fun _=>⟨rfl,by first|rfl|trivial⟩) fun hz0=> ?_
 obtain⟨hz0a,hz0b,hz0c⟩:=acP hz0 (by first|omega|assumption)
 have hB:=UE (p:=p) (by omega)
 have hS:cc p≤4194304:=by omega
 have hP:=fu hS
 have hsz:cc (yP p)≤4194304:=Nat.le_trans (RI 1000 p) (by omega)
 have hB2:=UE (p:=(yP p)) hsz
 have hw:=UF p
 have hw2:=UF (yP p)
 refine⟨_,_,_,_,_,_,SH _ (by assumption),?_⟩
 refine⟨_,_,_,_,_,_,He p (by omega),?_⟩
 refine⟨_,_,_,_,_,_,SH _ (by assumption),?_⟩
 refine⟨_,_,_,_,_,_,wM p (by omega),?_⟩
 refine⟨_,SI _ (by assumption),?_⟩
 refine an (by first|rfl|(simp;done)|(simp;omega)) ?_
 refine⟨_,_,_,_,_,_,SH _ (by assumption),?_⟩
 refine⟨_,SI _ (by assumption),?_⟩
 refine an (by first|rfl|(simp;done)|(simp;omega)) ?_
 refine⟨_,_,_,_,_,_,_,UC _ 1 (by omega) (by omega) (by assumption),?_⟩
 refine an (by first|rfl|(simp;done)|(simp;omega)) ?_
 refine⟨_,SI _ (by assumption),?_⟩
 refine an (by first|rfl|(simp;done)|(simp;omega)) ?_
 refine⟨_,_,_,_,_,_,_,UC _ 1 (by omega) (by omega) (by assumption),?_⟩
 refine⟨_,UD _ 1 (by omega) (by omega) (by assumption),?_⟩
 refine an (by first|rfl|(simp;done)|(simp;omega)) ?_
 refine an (by first|rfl|(simp;done)|(simp;omega)) ?_
 refine⟨_,_,_,_,_,_,SH _ (by assumption),?_⟩
 refine⟨_,_,_,_,_,_,wM p (by omega),?_⟩
 refine⟨_,SI _ (by assumption),?_⟩
 refine an (by first|rfl|(simp;done)|(simp;omega)) ?_
 refine⟨_,UD _ 1 (by omega) (by omega) (by assumption),?_⟩
 refine an (by first|rfl|(simp;done)|(simp;omega)) ?_
 refine an (by first|rfl|(simp;done)|(simp;omega)) ?_
 exact⟨rfl,by first|rfl|trivial⟩
theorem SP (vs:List TV) (h:T8 C.tt [sZ] vs): ∃k,jh C k oX vs (vB true) []:=by
 cases h with
 |cons h0 h=>
  cases h
  obtain⟨p,rfl,wp⟩:=acO h0
  exact SO p wp
end Go.T.R
