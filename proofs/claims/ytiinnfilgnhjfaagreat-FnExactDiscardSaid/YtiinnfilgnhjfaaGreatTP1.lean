/- What the functions answer. -/
import Derived.Test.YtiinnfilgnhjfaaGreatTP0
set_option linter.unusedVariables false
set_option linter.unusedSimpArgs false
set_option maxRecDepth 100000
set_option maxHeartbeats 4000000
namespace Go.T.R
open Go Go.T
theorem FW (t:Tree) (k:Key) (hz:cZ t≤4194304):aa C nX [dj t,AJ k] (xL (bO t k)) []:=by
 have hN:=uU hz
 have hcp:aa C aW [dj t] (dj t) []:=uT t hN.1 hN.2
 refine(Ls _ _ _ _ _ _ _ _ ⟨_,rV t (by omega),?_⟩).run
 cases h1:eg t with
 |false=>exact ai rfl ⟨_,_,hcp,⟨by unfold bO;rw[if_neg (by rw[h1];simp)],rfl⟩⟩
 |true=>
 refine aq rfl ⟨_,(Ey _ _ _ _ _ _).2 rfl,?_⟩
 change aD (!gl k) _ _
 cases h2:gl k with
 |false=>exact ai rfl ⟨_,_,hcp,⟨by unfold bO;rw[if_neg (by rw[h2];simp)],rfl⟩⟩
 |true=>
 obtain⟨i,hi,hil⟩:=KK h1 h2
 have hlen:=pX h1
 have hw:aa C eZ [dj t,vI k.b,vI k.a] (vI (i:Int)) []:=by rw[←hi];exact wN t k.b k.a (by omega)
 have hrow:rowAt (t.nodes.map aX) (i:Int)=some [TC.sub 1 (t.nodes[i].map cc)]:=by rw[bV,aL,List.getElem?_eq_getElem hil];rfl
 have hlow:rowAt (t.lows.map bP) (i:Int)=some [iI (t.lows.getD i 0)]:=by
  rw[bV,aL,List.getD_eq_getElem?_getD,List.getElem?_eq_getElem (by omega)];rfl
 have hg:t.nodes.getD i []=t.nodes[i]:=by rw[List.getD_eq_getElem?_getD,List.getElem?_eq_getElem hil];rfl
 have hok:=uM h1 (List.getElem_mem hil)
 have hsz:=Ct hok
 have hps:=Bj t.nodes[i] k
 have hpt:=Bk t.nodes[i] k
 have hkl:=nV t.nodes[i] k
 have hnk:=cP t.nodes[i]
 obtain⟨hp1,hp2,hp3⟩:=QS (k:=k) h1 hil
 have hR:bO t k=if eg (kf (jO t i k).nodes.length (jO t i k))=true then(kf (jO t i k).nodes.length (jO t i k),true) else(t,false):=by
  unfold bO;rw[if_pos ⟨h1,h2⟩,hi,Int.toNat_natCast]
 have fin: ∀Q:QV,Q (xL (bO t k)) []→ ∃(l39 l40:RR),aa C bX [dj (jO t i k)] (.ag [.sub 1 l39,.sub 1 l40]) []∧(∃b:Bool,aa C bI [.ag [.sub 1 l39,.sub 1 l40]] (vB b) []∧(aD (!b) (∃(l42 l43:RR),aa C aW [dj t] (.ag [.sub 1 l42,.sub 1 l43]) []∧Q (.tu [(1,[.sub 1 l42,.sub 1 l43]),(0,[iB false])]) []) (Q (.tu [(1,[.sub 1 l39,.sub 1 l40]),(0,[iB true])]) []))):=by
  intro Q hQ
  refine⟨_,_,HO (jO t i k) hp2 (by omega),_,rV _ (by omega),?_⟩
  rw[hR] at hQ
  cases h3:eg (kf (jO t i k).nodes.length (jO t i k)) with
  |true=>rw[if_pos h3] at hQ;exact aq rfl hQ
  |false=>rw[if_neg (by rw[h3];simp)] at hQ;exact ai rfl ⟨_,_,hcp,hQ⟩
 have np:=FU t.nodes[i] k (by omega) (by omega)
 refine aq rfl ⟨_,hw,_,_,hcp,_,hrow,_,hrow,?_⟩
 cases hp:(cj t.nodes[i] k).2 with
 |false=>
  have hno:=(KG hok h2 hp).1
  have cno:(!(cj t.nodes[i] k).2)=true:=by rw[hp];rfl
  obtain⟨ks,hks⟩: ∃ks,ks=cq t.nodes[i] k:=⟨_,rfl⟩
  rw[←hks] at hno hkl
  have hh:=S2 hno
  obtain⟨h,hhe⟩: ∃h,h=(ks.length+1)/2:=⟨_,rfl⟩
  have hq:bB .i64 (aA (Int.ofNat (List.length (ks.map bM))) 1) 2=(h:Int):=by rw[List.length_map,Y9 (by omega),hhe]
  have hkk:rowAt (ks.map bM) (h:Int)=some [iI (ks.getD h dV).b,iI (ks.getD h dV).a,iI (ks.getD h dV).k,iI (ks.getD h dV).c,iI (ks.getD h dV).g]:=by
   rw[bV,aL,List.getD_eq_getElem?_getD,List.getElem?_eq_getElem (by omega)];rfl
  have ep:jO t i k=ke t i 1 [t.lows.getD i 0,gm (ks.getD h dV).b (ks.getD h dV).a] [cA (ks.take h),cA (ks.drop h)]:=by
   unfold jO;rw[hg,if_neg (by rw[hp];simp),←hks,←hhe]
  have rp:=qu t i 1 [t.lows.getD i 0,gm (ks.getD h dV).b (ks.getD h dV).a] [cA (ks.take h),cA (ks.drop h)] (by omega) (by omega) (by omega) (by omega) (by simp) (by simp)
  rw[←ep] at rp
  have e1:ax (ks.map bM) 0 (h:Int)=(ks.take h).map bM:=by rw[cz];rfl
  have e2:ax (ks.map bM) (h:Int) (Int.ofNat (List.length (ks.map bM)))=(ks.drop h).map bM:=by
   rw[cz,List.length_map,Int.toNat_natCast,show(Int.ofNat ks.length).toNat=ks.length from rfl,List.take_length]
  have nn1:aa C bS [.c (.sub 5 (ax (ks.map bM) 0 (h:Int)))] (fK (cA (ks.take h))) []:=by rw[e1];exact mZ _ (by rw[List.length_take];omega)
  have nn2:aa C bS [.c (.sub 5 (ax (ks.map bM) (h:Int) (Int.ofNat (List.length (ks.map bM)))))] (fK (cA (ks.drop h))) []:=by rw[e2];exact mZ _ (by rw[List.length_drop];omega)
  have c1:cE 0 (h:Int) (Int.ofNat (List.length (ks.map bM)))=true:=by rw[Eg];simp;omega
  have c2:cE (h:Int) (Int.ofNat (List.length (ks.map bM))) (Int.ofNat (List.length (ks.map bM)))=true:=by rw[Eg];simp;omega
  have kw:aa C dm [fK t.nodes[i],AJ k] (cJ ks) []:=by
   rw[hks];exact uV t.nodes[i] k (by omega) (by omega)
  clear hks hhe hR
  repeat' first
   |refine⟨_,hrow,?_⟩
   |refine⟨_,hlow,?_⟩
   |refine⟨_,_,np,?_⟩
   |refine ai cno ?_
   |refine⟨_,kw,?_⟩
   |refine aq (by rw[aP];rfl) ?_
   |rw[hq]
   |refine⟨_,_,_,_,_,hkk,?_⟩
   |refine ai c1 ?_
   |refine ai c2 ?_
   |refine⟨_,(wj _ _ _).2 rfl,?_⟩
   |refine⟨_,nn1,?_⟩
   |refine⟨_,nn2,?_⟩
   |refine⟨_,_,rp,?_⟩
   |refine⟨(xL (bO t k),([]:List TV)),?_,?_,rfl⟩
   |refine⟨(xL (bO t k),([]:List TV)),?_,?_,⟨rfl,by first|rfl|trivial⟩⟩
   |exact fin (fun a b=>(a,b)=(xL (bO t k),([]:List TV))) rfl
   |exact fin (fun r fs=>r=xL (bO t k)∧fs=[]) ⟨rfl,by first|rfl|trivial⟩
 |true=>
  have cno:(!(cj t.nodes[i] k).2)=false:=by rw[hp];rfl
  by_cases hc:0<i∧(aR (cj t.nodes[i] k).1).length=0
  ·have ci:bK 0 (i:Int)=true:=by rw[ez];simp;omega
   have nk:=(iY (cj t.nodes[i] k).1 (by omega) (by omega) _).2 rfl
   have cl:cU (Int.ofNat (List.length ((aR (cj t.nodes[i] k).1).map bM))) 0=true:=by rw[aP,List.length_map,hc.2];rfl
   have ep:jO t i k=ke t i 1 [] []:=by unfold jO;rw[hg,if_pos hp,if_pos hc]
   have rp:=qu t i 1 [] [] (by omega) (by omega) (by omega) (by omega) (by simp) (by simp)
   rw[←ep] at rp
   clear hR
   repeat' first
   |refine⟨_,hrow,?_⟩
   |refine⟨_,hlow,?_⟩
   |refine⟨_,_,np,?_⟩
   |refine aq cno ?_
   |refine ai ci ?_
   |refine⟨_,nk,?_⟩
   |refine ai cl ?_
   |refine⟨_,_,rp,?_⟩
   |refine⟨(xL (bO t k),([]:List TV)),?_,?_,rfl⟩
   |refine⟨(xL (bO t k),([]:List TV)),?_,?_,⟨rfl,by first|rfl|trivial⟩⟩
   |exact fin (fun a b=>(a,b)=(xL (bO t k),([]:List TV))) rfl
   |exact fin (fun r fs=>r=xL (bO t k)∧fs=[]) ⟨rfl,by first|rfl|trivial⟩
  ·have eset:jO t i k=⟨t.lows,t.nodes.set i (cj t.nodes[i] k).1⟩:=by
    unfold jO;rw[hg,if_pos hp,if_neg hc,Sc (by omega) hil]
   have es:setRow (t.nodes.map aX) (i:Int) 0 [TC.sub 1 ((cj t.nodes[i] k).1.map cc)]=(t.nodes.set i (cj t.nodes[i] k).1).map aX:=Qu (a:=t.nodes[i]) (by rw[aL,List.getElem?_eq_getElem hil]) rfl
   clear hR
   by_cases hi0:0<i
   ·have ci:bK 0 (i:Int)=true:=by rw[ez];simp;omega
    have nk:=(iY (cj t.nodes[i] k).1 (by omega) (by omega) _).2 rfl
    have cl:cU (Int.ofNat (List.length ((aR (cj t.nodes[i] k).1).map bM))) 0=false:=by
     rw[aP,List.length_map];exact decide_eq_false fun e=>hc ⟨hi0,by have e:((aR (cj t.nodes[i] k).1).length:Int)=0:=e;omega⟩
    repeat' first
   |refine⟨_,hrow,?_⟩
   |refine⟨_,hlow,?_⟩
   |refine⟨_,_,np,?_⟩
   |refine aq cno ?_
   |refine ai ci ?_
   |refine⟨_,nk,?_⟩
   |refine aq cl ?_
   |refine⟨(xL (bO t k),([]:List TV)),?_,?_,rfl⟩
   |refine⟨(xL (bO t k),([]:List TV)),?_,?_,⟨rfl,by first|rfl|trivial⟩⟩
   |exact fin (fun a b=>(a,b)=(xL (bO t k),([]:List TV))) rfl
   |exact fin (fun r fs=>r=xL (bO t k)∧fs=[]) ⟨rfl,by first|rfl|trivial⟩
   |(rw[es];rw[eset] at fin;exact fin (fun a b=>(a,b)=(xL (bO t k),([]:List TV))) rfl)
   |(rw[es];rw[eset] at fin;exact fin (fun r fs=>r=xL (bO t k)∧fs=[]) ⟨rfl,by first|rfl|trivial⟩)
   ·have ci:bK 0 (i:Int)=false:=by rw[ez];simp;omega
    repeat' first
   |refine⟨_,hrow,?_⟩
   |refine⟨_,hlow,?_⟩
   |refine⟨_,_,np,?_⟩
   |refine aq cno ?_
   |refine aq ci ?_
   |refine⟨(xL (bO t k),([]:List TV)),?_,?_,rfl⟩
   |refine⟨(xL (bO t k),([]:List TV)),?_,?_,⟨rfl,by first|rfl|trivial⟩⟩
   |exact fin (fun a b=>(a,b)=(xL (bO t k),([]:List TV))) rfl
   |exact fin (fun r fs=>r=xL (bO t k)∧fs=[]) ⟨rfl,by first|rfl|trivial⟩
   |(rw[es];rw[eset] at fin;exact fin (fun a b=>(a,b)=(xL (bO t k),([]:List TV))) rfl)
   |(rw[es];rw[eset] at fin;exact fin (fun r fs=>r=xL (bO t k)∧fs=[]) ⟨rfl,by first|rfl|trivial⟩)
theorem FX (t:Tree) (k:Key) (hz:cZ t≤4194304):aa C nW [dj t,AJ k] (xL (bO t k)) []:=by
 have hN:=uU hz
 have hcp:aa C ct [dj t] (dj t) []:=yJ t hN.1 hN.2
 refine(K1 _ _ _ _ _ _ _ _ ⟨_,_,hcp,_,rU t (by omega),?_⟩).run
 cases h1:eg t with
 |false=>exact ai rfl ⟨by unfold bO;rw[if_neg (by rw[h1];simp)],rfl⟩
 |true=>
 refine aq rfl ⟨_,(Ez _ _ _ _ _ _).2 rfl,?_⟩
 change aD (!gl k) _ _
 cases h2:gl k with
 |false=>exact ai rfl ⟨by unfold bO;rw[if_neg (by rw[h2];simp)],rfl⟩
 |true=>
 obtain⟨i,hi,hil⟩:=KK h1 h2
 have hlen:=pX h1
 have hw:aa C ei [dj t,vI k.b,vI k.a] (vI (i:Int)) []:=by rw[←hi];exact wM t k.b k.a (by omega)
 have hrow:rowAt (t.nodes.map aX) (i:Int)=some [TC.sub 1 (t.nodes[i].map cc)]:=by rw[bV,aL,List.getElem?_eq_getElem hil];rfl
 have hlow:rowAt (t.lows.map bP) (i:Int)=some [iI (t.lows.getD i 0)]:=by
  rw[bV,aL,List.getD_eq_getElem?_getD,List.getElem?_eq_getElem (by omega)];rfl
 have hg:t.nodes.getD i []=t.nodes[i]:=by rw[List.getD_eq_getElem?_getD,List.getElem?_eq_getElem hil];rfl
 have hok:=uM h1 (List.getElem_mem hil)
 have hsz:=Ct hok
 have hps:=Bj t.nodes[i] k
 have hpt:=Bk t.nodes[i] k
 have hkl:=nV t.nodes[i] k
 have hnk:=cP t.nodes[i]
 obtain⟨hp1,hp2,hp3⟩:=QS (k:=k) h1 hil
 have hR:bO t k=if eg (kf (jO t i k).nodes.length (jO t i k))=true then(kf (jO t i k).nodes.length (jO t i k),true) else(t,false):=by
  unfold bO;rw[if_pos ⟨h1,h2⟩,hi,Int.toNat_natCast]
 have fin: ∀Q:QV,Q (xL (bO t k)) []→ ∃(l39 l40:RR),aa C au [dj (jO t i k)] (.ag [.sub 1 l39,.sub 1 l40]) []∧(∃b:Bool,aa C an [.ag [.sub 1 l39,.sub 1 l40]] (vB b) []∧(aD (!b) (Q (.tu [(1,SX t),(0,[iB false])]) []) (Q (.tu [(1,[.sub 1 l39,.sub 1 l40]),(0,[iB true])]) []))):=by
  intro Q hQ
  refine⟨_,_,HN (jO t i k) hp2 (by omega),_,rU _ (by omega),?_⟩
  rw[hR] at hQ
  cases h3:eg (kf (jO t i k).nodes.length (jO t i k)) with
  |true=>rw[if_pos h3] at hQ;exact aq rfl hQ
  |false=>rw[if_neg (by rw[h3];simp)] at hQ;exact ai rfl hQ
 have np:=FV t.nodes[i] k (by omega) (by omega)
 have hx:=tK t i [t.lows.getD i 0] [(cj t.nodes[i] k).1] (by omega) (by omega) (by omega) (by omega) (by simp) (by simp)
 refine aq rfl ⟨_,hw,_,hrow,?_⟩
 cases hp:(cj t.nodes[i] k).2 with
 |false=>
  have hno:=(KG hok h2 hp).1
  have cno:(!(cj t.nodes[i] k).2)=true:=by rw[hp];rfl
  obtain⟨ks,hks⟩: ∃ks,ks=cq t.nodes[i] k:=⟨_,rfl⟩
  rw[←hks] at hno hkl
  have hh:=S2 hno
  obtain⟨h,hhe⟩: ∃h,h=(ks.length+1)/2:=⟨_,rfl⟩
  have hq:bB .i64 (aA (Int.ofNat (List.length (ks.map bM))) 1) 2=(h:Int):=by rw[List.length_map,Y9 (by omega),hhe]
  have hkk:rowAt (ks.map bM) (h:Int)=some [iI (ks.getD h dV).b,iI (ks.getD h dV).a,iI (ks.getD h dV).k,iI (ks.getD h dV).c,iI (ks.getD h dV).g]:=by
   rw[bV,aL,List.getD_eq_getElem?_getD,List.getElem?_eq_getElem (by omega)];rfl
  have ep:jO t i k=ke t i 1 [t.lows.getD i 0,gm (ks.getD h dV).b (ks.getD h dV).a] [cA (ks.take h),cA (ks.drop h)]:=by
   unfold jO;rw[hg,if_neg (by rw[hp];simp),←hks,←hhe]
  have rp:=tK t i [t.lows.getD i 0,gm (ks.getD h dV).b (ks.getD h dV).a] [cA (ks.take h),cA (ks.drop h)] (by omega) (by omega) (by omega) (by omega) (by simp) (by simp)
  rw[←ep] at rp
  have e1:ax (ks.map bM) 0 (h:Int)=(ks.take h).map bM:=by rw[cz];rfl
  have e2:ax (ks.map bM) (h:Int) (Int.ofNat (List.length (ks.map bM)))=(ks.drop h).map bM:=by
   rw[cz,List.length_map,Int.toNat_natCast,show(Int.ofNat ks.length).toNat=ks.length from rfl,List.take_length]
  have nn1:aa C az [.c (.sub 5 (ax (ks.map bM) 0 (h:Int)))] (fK (cA (ks.take h))) []:=by rw[e1];exact iO _ (by rw[List.length_take];omega)
  have nn2:aa C az [.c (.sub 5 (ax (ks.map bM) (h:Int) (Int.ofNat (List.length (ks.map bM)))))] (fK (cA (ks.drop h))) []:=by rw[e2];exact iO _ (by rw[List.length_drop];omega)
  have c1:cE 0 (h:Int) (Int.ofNat (List.length (ks.map bM)))=true:=by rw[Eg];simp;omega
  have c2:cE (h:Int) (Int.ofNat (List.length (ks.map bM))) (Int.ofNat (List.length (ks.map bM)))=true:=by rw[Eg];simp;omega
  have kw:aa C bU [cJ (eX (aR t.nodes[i]) k)] (cJ ks) []:=by
   rw[hks];exact wh (eX (aR t.nodes[i]) k) (by have:=nI (aR t.nodes[i]) k;omega)
  clear hks hhe hR
  repeat' first
   |refine⟨_,hrow,?_⟩
   |refine⟨_,hlow,?_⟩
   |refine⟨_,_,np,?_⟩
   |refine⟨_,_,hx,?_⟩
   |refine ai cno ?_
   |refine⟨_,kw,?_⟩
   |refine⟨_,(eo t.nodes[i] (by omega) (by omega) _).2 rfl,?_⟩
   |refine⟨_,mh (aR t.nodes[i]) k (by omega),?_⟩
   |refine aq (by rw[aP];rfl) ?_
   |rw[hq]
   |refine⟨_,_,_,_,_,hkk,?_⟩
   |refine ai c1 ?_
   |refine ai c2 ?_
   |refine⟨_,(CM _ _ _ _ _ _).2 rfl,?_⟩
   |refine⟨_,nn1,?_⟩
   |refine⟨_,nn2,?_⟩
   |refine⟨_,_,rp,?_⟩
   |refine⟨(xL (bO t k),([]:List TV)),?_,?_,rfl⟩
   |refine⟨(xL (bO t k),([]:List TV)),?_,?_,⟨rfl,by first|rfl|trivial⟩⟩
   |exact fin (fun a b=>(a,b)=(xL (bO t k),([]:List TV))) rfl
   |exact fin (fun r fs=>r=xL (bO t k)∧fs=[]) ⟨rfl,by first|rfl|trivial⟩
 |true=>
  have cno:(!(cj t.nodes[i] k).2)=false:=by rw[hp];rfl
  by_cases hc:0<i∧(aR (cj t.nodes[i] k).1).length=0
  ·have ci:bK 0 (i:Int)=true:=by rw[ez];simp;omega
   have nk:=(eo (cj t.nodes[i] k).1 (by omega) (by omega) _).2 rfl
   have cl:cU (Int.ofNat (List.length ((aR (cj t.nodes[i] k).1).map bM))) 0=true:=by rw[aP,List.length_map,hc.2];rfl
   have ep:jO t i k=ke t i 1 [] []:=by unfold jO;rw[hg,if_pos hp,if_pos hc]
   have rp:=tK t i [] [] (by omega) (by omega) (by omega) (by omega) (by simp) (by simp)
   rw[←ep] at rp
   clear hR
   repeat' first
   |refine⟨_,hrow,?_⟩
   |refine⟨_,hlow,?_⟩
   |refine⟨_,_,np,?_⟩
   |refine⟨_,_,hx,?_⟩
   |refine aq cno ?_
   |refine ai ci ?_
   |refine⟨_,nk,?_⟩
   |refine ai cl ?_
   |refine⟨_,_,rp,?_⟩
   |refine⟨(xL (bO t k),([]:List TV)),?_,?_,rfl⟩
   |refine⟨(xL (bO t k),([]:List TV)),?_,?_,⟨rfl,by first|rfl|trivial⟩⟩
   |exact fin (fun a b=>(a,b)=(xL (bO t k),([]:List TV))) rfl
   |exact fin (fun r fs=>r=xL (bO t k)∧fs=[]) ⟨rfl,by first|rfl|trivial⟩
  ·have ep:ke t i 1 [t.lows.getD i 0] [(cj t.nodes[i] k).1]=jO t i k:=by
    unfold jO;rw[hg,if_pos hp,if_neg hc]
   rw[ep] at hx
   clear hR
   by_cases hi0:0<i
   ·have ci:bK 0 (i:Int)=true:=by rw[ez];simp;omega
    have nk:=(eo (cj t.nodes[i] k).1 (by omega) (by omega) _).2 rfl
    have cl:cU (Int.ofNat (List.length ((aR (cj t.nodes[i] k).1).map bM))) 0=false:=by
     rw[aP,List.length_map];exact decide_eq_false fun e=>hc ⟨hi0,by have e:((aR (cj t.nodes[i] k).1).length:Int)=0:=e;omega⟩
    repeat' first
   |refine⟨_,hrow,?_⟩
   |refine⟨_,hlow,?_⟩
   |refine⟨_,_,np,?_⟩
   |refine⟨_,_,hx,?_⟩
   |refine aq cno ?_
   |refine ai ci ?_
   |refine⟨_,nk,?_⟩
   |refine aq cl ?_
   |refine⟨(xL (bO t k),([]:List TV)),?_,?_,rfl⟩
   |refine⟨(xL (bO t k),([]:List TV)),?_,?_,⟨rfl,by first|rfl|trivial⟩⟩
   |exact fin (fun a b=>(a,b)=(xL (bO t k),([]:List TV))) rfl
   |exact fin (fun r fs=>r=xL (bO t k)∧fs=[]) ⟨rfl,by first|rfl|trivial⟩
   ·have ci:bK 0 (i:Int)=false:=by rw[ez];simp;omega
    repeat' first
   |refine⟨_,hrow,?_⟩
   |refine⟨_,hlow,?_⟩
   |refine⟨_,_,np,?_⟩
   |refine⟨_,_,hx,?_⟩
   |refine aq cno ?_
   |refine aq ci ?_
   |refine⟨(xL (bO t k),([]:List TV)),?_,?_,rfl⟩
   |refine⟨(xL (bO t k),([]:List TV)),?_,?_,⟨rfl,by first|rfl|trivial⟩⟩
   |exact fin (fun a b=>(a,b)=(xL (bO t k),([]:List TV))) rfl
   |exact fin (fun r fs=>r=xL (bO t k)∧fs=[]) ⟨rfl,by first|rfl|trivial⟩
theorem FY (p:Pool) (k:Key) (b:Bool) (hc:p.cells.length≤1073741824):aa C nY [.bx (ff p),AJ k,vB b] (.tu []) [.bx (ff ⟨p.t,p.ages,if b=true∧k.k=1 then fY p.cells k.c else p.cells,p.vols,p.next⟩)]:=by
 refine(K6 _ _ _ _ _ _ _ _ _ _ _ _ _ ?_).run
 cases b with
 |false=>exact aq rfl ⟨rfl,by first|rfl|trivial⟩
 |true=>
  refine ai rfl ?_
  by_cases h:k.k=1
  ·exact ai (by rw[aP];exact decide_eq_true h) ⟨_,EC p.cells k.c hc,rfl,by rw[if_pos ⟨rfl,h⟩]⟩
  ·exact aq (by rw[aP];exact decide_eq_false h) ⟨rfl,by rw[if_neg fun e=>h e.2]⟩
theorem yK (p:Pool) (hS:cO p≤4194304) (k:Key):aa C lJ [.bx (ff p),AJ k] (vB (iM p k).2) [.bx (ff (iM p k).1)]:=by
 have hP:=gU hS
 have ta:=yH p.t k.b k.a (by omega)
 have tp:=FX p.t k (by omega)
 obtain⟨T,b,hT⟩: ∃T b,bO p.t k=(T,b):=⟨_,_,rfl⟩
 obtain⟨o,f,hO⟩: ∃o f,rQ p.t k.b k.a=(o,f):=⟨_,_,rfl⟩
 have e:iM p k=if b=true then(⟨T,p.ages,if f=true∧o.k=1 then fY p.cells o.c else p.cells,p.vols,p.next⟩,true) else(p,false):=by
  unfold iM Bn;rw[hT,hO]
 have hno:=Db (t:=p.t) (k:=k)
 rw[hT] at tp hno
 rw[hO] at ta
 rw[e]
 refine(Mg _ _ _ _ _ _ _ _ _ _ _ _ ?_).run
 cases b with
 |false=>
  have hno:T=p.t:=hno rfl
  subst hno
  rw[if_neg (by simp)]
  repeat' first
   |refine⟨_,_,_,_,_,_,ta,?_⟩
   |refine⟨_,_,_,tp,?_⟩
   |refine⟨(vB false,[TV.bx (ff p)]),?_,?_,rfl⟩
   |refine⟨(vB false,[TV.bx (ff p)]),?_,?_,⟨rfl,by first|rfl|trivial⟩⟩
   |exact rfl
   |exact⟨rfl,by first|rfl|trivial⟩
   |refine ai (by first|rfl|(rw[aP];rfl)) ?_
   |refine aq (by first|rfl|(rw[aP];rfl)) ?_
 |true=>
  rw[if_pos rfl]
  have dr:=FY ⟨T,p.ages,p.cells,p.vols,p.next⟩ o f (by simp only[];omega)
  repeat' first
   |refine⟨_,_,_,_,_,_,ta,?_⟩
   |refine⟨_,_,_,tp,?_⟩
   |refine⟨_,_,_,_,_,_,dr,?_⟩
   |refine⟨(vB true,[TV.bx (ff ⟨T,p.ages,if f=true∧o.k=1 then fY p.cells o.c else p.cells,p.vols,p.next⟩)]),?_,?_,rfl⟩
   |refine⟨(vB true,[TV.bx (ff ⟨T,p.ages,if f=true∧o.k=1 then fY p.cells o.c else p.cells,p.vols,p.next⟩)]),?_,?_,⟨rfl,by first|rfl|trivial⟩⟩
   |exact rfl
   |exact⟨rfl,by first|rfl|trivial⟩
   |refine ai (by first|rfl|(rw[aP];rfl)) ?_
   |refine aq (by first|rfl|(rw[aP];rfl)) ?_
theorem qC (p:Pool) (hS:cO p≤4194304) (k:Key):aa C fj [.bx (ff p),AJ k] (vB (iM p k).2) [.bx (ff (iM p k).1)]:=by
 have hP:=gU hS
 have ta:=yI p.t k.b k.a (by omega)
 have tp:=FW p.t k (by omega)
 obtain⟨T,b,hT⟩: ∃T b,bO p.t k=(T,b):=⟨_,_,rfl⟩
 obtain⟨o,f,hO⟩: ∃o f,rQ p.t k.b k.a=(o,f):=⟨_,_,rfl⟩
 have e:iM p k=if b=true then(⟨T,p.ages,if f=true∧o.k=1 then fY p.cells o.c else p.cells,p.vols,p.next⟩,true) else(p,false):=by
  unfold iM Bn;rw[hT,hO]
 have hno:=Db (t:=p.t) (k:=k)
 rw[hT] at tp hno
 rw[hO] at ta
 rw[e]
 refine(Cw _ _ _ _ _ _ _ _ _ _ _ _ ?_).run
 cases b with
 |false=>
  have hno:T=p.t:=hno rfl
  subst hno
  rw[if_neg (by simp)]
  repeat' first
   |refine⟨_,_,_,_,_,_,ta,?_⟩
   |refine⟨_,_,_,tp,?_⟩
   |refine⟨(vB false,[TV.bx (ff p)]),?_,?_,rfl⟩
   |refine⟨(vB false,[TV.bx (ff p)]),?_,?_,⟨rfl,by first|rfl|trivial⟩⟩
   |exact rfl
   |exact⟨rfl,by first|rfl|trivial⟩
   |refine ai (by first|rfl|(rw[aP];rfl)) ?_
   |refine aq (by first|rfl|(rw[aP];rfl)) ?_
 |true=>
  rw[if_pos rfl]
  cases f with
  |false=>
   rw[if_neg (by simp)]
   repeat' first
    |refine⟨_,_,_,_,_,_,ta,?_⟩
    |refine⟨_,_,_,tp,?_⟩
    |refine⟨(vB true,[TV.bx (ff ⟨T,p.ages,p.cells,p.vols,p.next⟩)]),?_,?_,rfl⟩
    |refine⟨(vB true,[TV.bx (ff ⟨T,p.ages,p.cells,p.vols,p.next⟩)]),?_,?_,⟨rfl,by first|rfl|trivial⟩⟩
    |exact rfl
    |exact⟨rfl,by first|rfl|trivial⟩
    |refine ai (by first|rfl|(rw[aP];rfl)) ?_
    |refine aq (by first|rfl|(rw[aP];rfl)) ?_
  |true=>
   by_cases ho:o.k=1
   ·rw[if_pos ⟨rfl,ho⟩]
    have ce:cU o.k 1=true:=by rw[aP];exact decide_eq_true ho
    have fc:=ED p.cells o.c (by omega)
    repeat' first
     |refine⟨_,_,_,_,_,_,ta,?_⟩
     |refine⟨_,_,_,tp,?_⟩
     |refine ai ce ?_
     |refine⟨_,fc,?_⟩
     |refine⟨(vB true,[TV.bx (ff ⟨T,p.ages,fY p.cells o.c,p.vols,p.next⟩)]),?_,?_,rfl⟩
     |refine⟨(vB true,[TV.bx (ff ⟨T,p.ages,fY p.cells o.c,p.vols,p.next⟩)]),?_,?_,⟨rfl,by first|rfl|trivial⟩⟩
     |exact rfl
     |exact⟨rfl,by first|rfl|trivial⟩
     |refine ai (by first|rfl|(rw[aP];rfl)) ?_
     |refine aq (by first|rfl|(rw[aP];rfl)) ?_
   ·rw[if_neg fun e=>ho e.2]
    have ce:cU o.k 1=false:=by rw[aP];exact decide_eq_false ho
    repeat' first
     |refine⟨_,_,_,_,_,_,ta,?_⟩
     |refine⟨_,_,_,tp,?_⟩
     |refine aq ce ?_
     |refine⟨(vB true,[TV.bx (ff ⟨T,p.ages,p.cells,p.vols,p.next⟩)]),?_,?_,rfl⟩
     |refine⟨(vB true,[TV.bx (ff ⟨T,p.ages,p.cells,p.vols,p.next⟩)]),?_,?_,⟨rfl,by first|rfl|trivial⟩⟩
     |exact rfl
     |exact⟨rfl,by first|rfl|trivial⟩
     |refine ai (by first|rfl|(rw[aP];rfl)) ?_
     |refine aq (by first|rfl|(rw[aP];rfl)) ?_
theorem KV {l:List Vol} {s:ByteArray} (h:nJ l s<0):gP l (nJ l s)=none:=nT (by omega)
theorem EG (p:Pool) (s:ByteArray) (b:Int) (hS:cO p≤4194304) (hz:s.size≤140737488355328):aa C wg [fW p,vS s,vI b] (vI (oJ p s b)) []:=by
 have hP:=gU hS
 have hva:=tI p s (by omega)
 have hvl:=HM p s hS hz
 refine(IK _ _ _ _ _ _ _ _ _ ?_).run
 unfold oJ
 by_cases h1:Ep p s=true
 ·rw[if_pos h1] at hvl ⊢
  by_cases h2:nJ p.vols s<0
  ·rw[if_pos h2] at hvl
   rw[KV h2]
   repeat' first
    |refine⟨_,hvl,?_⟩
    |exact rfl
    |exact⟨rfl,by first|rfl|trivial⟩
    |refine ai (by first|rfl|(rw[aP];rfl)) ?_
    |refine aq (by first|rfl|(rw[aP];rfl)) ?_
  ·rw[if_neg h2] at hvl
   obtain⟨v,hv⟩:=KU h2
   have hsz:=G5 (Bi (by unfold Ep at h1;simp only[Bool.and_eq_true] at h1;exact h1.1)) hv
   have hrv:rowAt (p.vols.map eA) (nJ p.vols s)=some [iS v.name,iI v.age,iI v.size,iB v.fx]:=by rw[bV,hv];rfl
   have hin:=wL b 0 (v.size-1)
   have hsub:cV v.size 1=v.size-1:=dH (by omega)
   rw[hv]
   simp only[]
   cases h3:v.fx with
   |true=>
    rw[h3] at hrv
    rw[if_pos rfl]
    repeat' first
     |refine⟨_,hvl,?_⟩
     |refine⟨_,hva,?_⟩
     |refine⟨_,_,_,_,hrv,?_⟩
     |exact rfl
     |exact⟨rfl,by first|rfl|trivial⟩
     |refine ai (by first|rfl|(rw[aP];rfl)) ?_
     |refine aq (by first|rfl|(rw[aP];rfl)) ?_
   |false=>
    rw[h3] at hrv
    rw[if_neg (by simp)]
    cases h4:jh b 0 (v.size-1) with
    |true=>
     rw[h4] at hin
     rw[if_pos rfl]
     repeat' first
      |refine⟨_,hvl,?_⟩
      |refine⟨_,hva,?_⟩
      |refine⟨_,_,_,_,hrv,?_⟩
      |refine⟨_,(by rw[hsub];exact hin),?_⟩
      |exact rfl
      |exact⟨rfl,by first|rfl|trivial⟩
      |refine ai (by first|rfl|(rw[aP];rfl)) ?_
      |refine aq (by first|rfl|(rw[aP];rfl)) ?_
    |false=>
     rw[h4] at hin
     rw[if_neg (by simp)]
     repeat' first
      |refine⟨_,hvl,?_⟩
      |refine⟨_,hva,?_⟩
      |refine⟨_,_,_,_,hrv,?_⟩
      |refine⟨_,(by rw[hsub];exact hin),?_⟩
      |exact rfl
      |exact⟨rfl,by first|rfl|trivial⟩
      |refine ai (by first|rfl|(rw[aP];rfl)) ?_
      |refine aq (by first|rfl|(rw[aP];rfl)) ?_
 ·rw[if_neg h1] at hvl ⊢
  repeat' first
   |refine⟨_,hvl,?_⟩
   |exact rfl
   |exact⟨rfl,by first|rfl|trivial⟩
   |refine ai (by first|rfl|(rw[aP];rfl)) ?_
   |refine aq (by first|rfl|(rw[aP];rfl)) ?_
theorem Du (p:Pool) (s:ByteArray) (b:Int) (hS:cO p≤4194304) (hz:s.size≤140737488355328):aa C tE [fW p,vS s,vI b,vB true] (ZL (nJ p.vols s,oJ p s b)) []:=by
 have hP:=gU hS
 have hva:=BK p s (by omega)
 have hok:=yF p hS
 have hnm:=(CK s hz (qT s)).2 rfl
 refine(GH _ _ _ _ _ _ _ _ _ _ ?_).run
 unfold oJ Ep
 cases h0:mU p with
 |false=>
  rw[h0] at hok
  repeat' first
   |refine⟨_,hva,?_⟩
   |refine⟨_,hok,?_⟩
   |exact rfl
   |exact⟨rfl,by first|rfl|trivial⟩
   |refine ai (by first|rfl|(rw[aP];rfl)) ?_
   |refine aq (by first|rfl|(rw[aP];rfl)) ?_
 |true=>
 rw[h0] at hok
 cases h1:qT s with
 |false=>
  rw[h1] at hnm
  repeat' first
   |refine⟨_,hva,?_⟩
   |refine⟨_,hok,?_⟩
   |refine⟨_,hnm,?_⟩
   |exact rfl
   |exact⟨rfl,by first|rfl|trivial⟩
   |refine ai (by first|rfl|(rw[aP];rfl)) ?_
   |refine aq (by first|rfl|(rw[aP];rfl)) ?_
 |true=>
  rw[h1] at hnm
  rw[if_pos (show(true&&true)=true from rfl)]
  by_cases h2:nJ p.vols s<0
  ·have cl:bK (nJ p.vols s) 0=true:=by rw[ez];exact decide_eq_true h2
   rw[KV h2]
   repeat' first
    |refine⟨_,hva,?_⟩
    |refine⟨_,hok,?_⟩
    |refine⟨_,hnm,?_⟩
    |refine ai cl ?_
    |exact rfl
    |exact⟨rfl,by first|rfl|trivial⟩
    |refine ai (by first|rfl|(rw[aP];rfl)) ?_
    |refine aq (by first|rfl|(rw[aP];rfl)) ?_
  ·have cl:bK (nJ p.vols s) 0=false:=by rw[ez];exact decide_eq_false h2
   obtain⟨v,hv⟩:=KU h2
   have hsz:=G5 (Bi h0) hv
   have hrv:rowAt (p.vols.map eA) (nJ p.vols s)=some [iS v.name,iI v.age,iI v.size,iB v.fx]:=by rw[bV,hv];rfl
   have hin:=qW b 0 (v.size-1)
   have hsub:cV v.size 1=v.size-1:=dH (by omega)
   rw[hv]
   simp only[]
   cases h3:v.fx with
   |true=>
    rw[h3] at hrv
    rw[if_pos rfl]
    repeat' first
     |refine⟨_,hva,?_⟩
     |refine⟨_,hok,?_⟩
     |refine⟨_,hnm,?_⟩
     |refine aq cl ?_
     |refine⟨_,_,_,_,hrv,?_⟩
     |exact rfl
     |exact⟨rfl,by first|rfl|trivial⟩
     |refine ai (by first|rfl|(rw[aP];rfl)) ?_
     |refine aq (by first|rfl|(rw[aP];rfl)) ?_
   |false=>
    rw[h3] at hrv
    rw[if_neg (by simp)]
    cases h4:jh b 0 (v.size-1) with
    |true=>
     rw[h4] at hin
     rw[if_pos rfl]
     repeat' first
      |refine⟨_,hva,?_⟩
      |refine⟨_,hok,?_⟩
      |refine⟨_,hnm,?_⟩
      |refine aq cl ?_
      |refine⟨_,_,_,_,hrv,?_⟩
      |refine⟨_,(by rw[hsub];exact hin),?_⟩
      |exact rfl
      |exact⟨rfl,by first|rfl|trivial⟩
      |refine ai (by first|rfl|(rw[aP];rfl)) ?_
      |refine aq (by first|rfl|(rw[aP];rfl)) ?_
    |false=>
     rw[h4] at hin
     rw[if_neg (by simp)]
     repeat' first
      |refine⟨_,hva,?_⟩
      |refine⟨_,hok,?_⟩
      |refine⟨_,hnm,?_⟩
      |refine aq cl ?_
      |refine⟨_,_,_,_,hrv,?_⟩
      |refine⟨_,(by rw[hsub];exact hin),?_⟩
      |exact rfl
      |exact⟨rfl,by first|rfl|trivial⟩
      |refine ai (by first|rfl|(rw[aP];rfl)) ?_
      |refine aq (by first|rfl|(rw[aP];rfl)) ?_
theorem Cv (p:Pool) (hS:cO p≤4194304) (i b:Int) (v:Vol) (hv:gP p.vols i=some v):aa C rR [.bx (ff p),vI i,vI b] (vB (fm p v.age b).2) [.bx (ff (fm p v.age b).1)]:=by
 have hP:=gU hS
 have hrv:rowAt (p.vols.map eA) i=some [iS v.name,iI v.age,iI v.size,iB v.fx]:=by rw[bV,hv];rfl
 have sa:=Dq p.t p.ages b v.age (by omega) (by omega)
 have ta:=yH p.t b v.age (by omega)
 have pg:=yK p hS ⟨b,v.age,2,0,0⟩
 have pn:=yK p hS ⟨b,v.age,0,0,0⟩
 obtain⟨a,f,hA⟩: ∃a f,p9 p.t p.ages b v.age=(a,f):=⟨_,_,rfl⟩
 obtain⟨o,q,hO⟩: ∃o q,rQ p.t b v.age=(o,q):=⟨_,_,rfl⟩
 have e:fm p v.age b=if f=true∧a.k=1 then iM p ⟨b,v.age,2,0,0⟩ else if q=true then iM p ⟨b,v.age,0,0,0⟩ else(p,true):=by
  unfold fm;rw[hA,hO]
 rw[hA] at sa
 rw[hO] at ta
 rw[e]
 generalize iM p ⟨b,v.age,2,0,0⟩=X at*
 generalize iM p ⟨b,v.age,0,0,0⟩=Y at*
 refine(E2 _ _ _ _ _ _ _ _ _ ?_).run
 by_cases h1:f=true∧a.k=1
 ·obtain⟨rfl,ha⟩:=h1
  have ce:cU a.k 1=true:=by rw[aP];exact decide_eq_true ha
  rw[if_pos ⟨rfl,ha⟩]
  repeat' first
   |refine⟨_,_,_,_,hrv,?_⟩
   |refine⟨_,_,_,_,_,_,sa,?_⟩
   |refine⟨_,_,_,_,_,_,ta,?_⟩
   |refine⟨_,_,_,_,_,_,_,pg,?_⟩
   |refine ai ce ?_
   |refine⟨(vB X.2,[TV.bx (ff X.1)]),?_,?_,rfl⟩
   |refine⟨(vB X.2,[TV.bx (ff X.1)]),?_,?_,⟨rfl,by first|rfl|trivial⟩⟩
   |exact rfl
   |exact⟨rfl,by first|rfl|trivial⟩
   |refine ai (by first|rfl|(rw[aP];rfl)) ?_
   |refine aq (by first|rfl|(rw[aP];rfl)) ?_
 ·rw[if_neg h1]
  have ce:f=true→cU a.k 1=false:=fun hf=>by rw[aP];exact decide_eq_false fun ha=>h1 ⟨hf,ha⟩
  cases f with
  |false=>
   cases q with
   |false=>
    rw[if_neg (by simp)]
    repeat' first
     |refine⟨_,_,_,_,hrv,?_⟩
     |refine⟨_,_,_,_,_,_,sa,?_⟩
     |refine⟨_,_,_,_,_,_,ta,?_⟩
     |refine⟨_,_,_,_,_,_,_,pn,?_⟩
     |refine⟨(vB true,[TV.bx (ff p)]),?_,?_,rfl⟩
     |refine⟨(vB true,[TV.bx (ff p)]),?_,?_,⟨rfl,by first|rfl|trivial⟩⟩
     |exact rfl
     |exact⟨rfl,by first|rfl|trivial⟩
     |refine ai (by first|rfl|(rw[aP];rfl)) ?_
     |refine aq (by first|rfl|(rw[aP];rfl)) ?_
   |true=>
    rw[if_pos rfl]
    repeat' first
     |refine⟨_,_,_,_,hrv,?_⟩
     |refine⟨_,_,_,_,_,_,sa,?_⟩
     |refine⟨_,_,_,_,_,_,ta,?_⟩
     |refine⟨_,_,_,_,_,_,_,pn,?_⟩
     |refine⟨(vB Y.2,[TV.bx (ff Y.1)]),?_,?_,rfl⟩
     |refine⟨(vB Y.2,[TV.bx (ff Y.1)]),?_,?_,⟨rfl,by first|rfl|trivial⟩⟩
     |exact rfl
     |exact⟨rfl,by first|rfl|trivial⟩
     |refine ai (by first|rfl|(rw[aP];rfl)) ?_
     |refine aq (by first|rfl|(rw[aP];rfl)) ?_
  |true=>
   have ce:=ce rfl
   cases q with
   |false=>
    rw[if_neg (by simp)]
    repeat' first
     |refine⟨_,_,_,_,hrv,?_⟩
     |refine⟨_,_,_,_,_,_,sa,?_⟩
     |refine⟨_,_,_,_,_,_,ta,?_⟩
     |refine⟨_,_,_,_,_,_,_,pn,?_⟩
     |refine aq ce ?_
     |refine⟨(vB true,[TV.bx (ff p)]),?_,?_,rfl⟩
     |refine⟨(vB true,[TV.bx (ff p)]),?_,?_,⟨rfl,by first|rfl|trivial⟩⟩
     |exact rfl
     |exact⟨rfl,by first|rfl|trivial⟩
     |refine ai (by first|rfl|(rw[aP];rfl)) ?_
     |refine aq (by first|rfl|(rw[aP];rfl)) ?_
   |true=>
    rw[if_pos rfl]
    repeat' first
     |refine⟨_,_,_,_,hrv,?_⟩
     |refine⟨_,_,_,_,_,_,sa,?_⟩
     |refine⟨_,_,_,_,_,_,ta,?_⟩
     |refine⟨_,_,_,_,_,_,_,pn,?_⟩
     |refine aq ce ?_
     |refine⟨(vB Y.2,[TV.bx (ff Y.1)]),?_,?_,rfl⟩
     |refine⟨(vB Y.2,[TV.bx (ff Y.1)]),?_,?_,⟨rfl,by first|rfl|trivial⟩⟩
     |exact rfl
     |exact⟨rfl,by first|rfl|trivial⟩
     |refine ai (by first|rfl|(rw[aP];rfl)) ?_
     |refine aq (by first|rfl|(rw[aP];rfl)) ?_
theorem FZ (p:Pool) (s:ByteArray) (b:Int) (hS:cO p≤1048576) (hz:s.size≤1048576):aa C yo [fW p,vS s,vI b] (YD (jE p s b)) []:=by
 have hS':cO p≤4194304:=by omega
 have hP:=gU hS'
 have hcp:=qX p hS'
 have hva:=tI p s (by omega)
 have hbl:=EG p s b hS' (by omega)
 refine(Lq _ _ _ _ _ _ _ _ _ ?_).run
 by_cases h1:oJ p s b=0
 ·rw[h1] at hbl
  obtain⟨v,hv,_⟩:=G9 h1
  have di:=Cv p hS' (nJ p.vols s) b v hv
  have hdz:=Eu p v.age b
  have e:jE p s b=R0 p (fm p v.age b).1 (fm p v.age b).2:=by unfold jE;rw[if_pos h1,hv]
  rw[e]
  generalize fm p v.age b=X at*
  have en:=EF p X.1 X.2 hS' (by omega)
  repeat' first
   |refine⟨_,_,_,_,_,_,hcp,?_⟩
   |refine⟨_,hbl,?_⟩
   |refine⟨_,hva,?_⟩
   |refine⟨_,_,_,_,_,_,_,di,?_⟩
   |refine⟨_,_,_,_,_,_,_,en,?_⟩
   |exact rfl
   |exact⟨rfl,by first|rfl|trivial⟩
   |refine ai (by first|rfl|(rw[aP];rfl)) ?_
   |refine aq (by first|rfl|(rw[aP];rfl)) ?_
 ·have c1:cU (oJ p s b) 0=false:=by rw[aP];exact decide_eq_false h1
  have c2:(!cU (oJ p s b) 0)=true:=by rw[c1];rfl
  have e:jE p s b=(p,oJ p s b):=by unfold jE;rw[if_neg h1]
  rw[e]
  repeat' first
   |refine⟨_,_,_,_,_,_,hcp,?_⟩
   |refine⟨_,hbl,?_⟩
   |refine⟨_,hva,?_⟩
   |refine aq c1 ?_
   |refine ai c2 ?_
   |exact rfl
   |exact⟨rfl,by first|rfl|trivial⟩
   |refine ai (by first|rfl|(rw[aP];rfl)) ?_
   |refine aq (by first|rfl|(rw[aP];rfl)) ?_
theorem yx (p:Pool) (hS:cO p≤4194304) (i b:Int) (v:Vol) (hv:gP p.vols i=some v):aa C pY [.bx (ff p),vI i,vI b] (vB (fm p v.age b).2) [.bx (ff (fm p v.age b).1)]:=by
 have hP:=gU hS
 have hrv:rowAt (p.vols.map eA) i=some [iS v.name,iI v.age,iI v.size,iB v.fx]:=by rw[bV,hv];rfl
 have sa:=Dr p.t p.ages b v.age (by omega) (by omega)
 have ta:=yI p.t b v.age (by omega)
 have pg:=qC p hS ⟨b,v.age,2,0,0⟩
 have pn:=qC p hS ⟨b,v.age,0,0,0⟩
 obtain⟨a,f,hA⟩: ∃a f,p9 p.t p.ages b v.age=(a,f):=⟨_,_,rfl⟩
 obtain⟨o,q,hO⟩: ∃o q,rQ p.t b v.age=(o,q):=⟨_,_,rfl⟩
 have e:fm p v.age b=if f=true∧a.k=1 then iM p ⟨b,v.age,2,0,0⟩ else if q=true then iM p ⟨b,v.age,0,0,0⟩ else(p,true):=by
  unfold fm;rw[hA,hO]
 rw[hA] at sa
 rw[hO] at ta
 rw[e]
 generalize iM p ⟨b,v.age,2,0,0⟩=X at*
 generalize iM p ⟨b,v.age,0,0,0⟩=Y at*
 refine(B0 _ _ _ _ _ _ _ _ _ ?_).run
 by_cases h1:f=true∧a.k=1
 ·obtain⟨rfl,ha⟩:=h1
  have ce:cU a.k 1=true:=by rw[aP];exact decide_eq_true ha
  rw[if_pos ⟨rfl,ha⟩]
  repeat' first
   |refine⟨_,_,_,_,hrv,?_⟩
   |refine⟨_,_,_,_,_,_,sa,?_⟩
   |refine⟨_,_,_,_,_,_,ta,?_⟩
   |refine⟨_,_,_,_,_,_,_,pg,?_⟩
   |refine ai ce ?_
   |refine⟨(vB X.2,[TV.bx (ff X.1)]),?_,?_,rfl⟩
   |refine⟨(vB X.2,[TV.bx (ff X.1)]),?_,?_,⟨rfl,by first|rfl|trivial⟩⟩
   |exact rfl
   |exact⟨rfl,by first|rfl|trivial⟩
   |refine ai (by first|rfl|(rw[aP];rfl)) ?_
   |refine aq (by first|rfl|(rw[aP];rfl)) ?_
 ·rw[if_neg h1]
  have ce:f=true→cU a.k 1=false:=fun hf=>by rw[aP];exact decide_eq_false fun ha=>h1 ⟨hf,ha⟩
  cases f with
  |false=>
   cases q with
   |false=>
    rw[if_neg (by simp)]
    repeat' first
     |refine⟨_,_,_,_,hrv,?_⟩
     |refine⟨_,_,_,_,_,_,sa,?_⟩
     |refine⟨_,_,_,_,_,_,ta,?_⟩
     |refine⟨_,_,_,_,_,_,_,pn,?_⟩
     |refine⟨(vB true,[TV.bx (ff p)]),?_,?_,rfl⟩
     |refine⟨(vB true,[TV.bx (ff p)]),?_,?_,⟨rfl,by first|rfl|trivial⟩⟩
     |exact rfl
     |exact⟨rfl,by first|rfl|trivial⟩
     |refine ai (by first|rfl|(rw[aP];rfl)) ?_
     |refine aq (by first|rfl|(rw[aP];rfl)) ?_
   |true=>
    rw[if_pos rfl]
    repeat' first
     |refine⟨_,_,_,_,hrv,?_⟩
     |refine⟨_,_,_,_,_,_,sa,?_⟩
     |refine⟨_,_,_,_,_,_,ta,?_⟩
     |refine⟨_,_,_,_,_,_,_,pn,?_⟩
     |refine⟨(vB Y.2,[TV.bx (ff Y.1)]),?_,?_,rfl⟩
     |refine⟨(vB Y.2,[TV.bx (ff Y.1)]),?_,?_,⟨rfl,by first|rfl|trivial⟩⟩
     |exact rfl
     |exact⟨rfl,by first|rfl|trivial⟩
     |refine ai (by first|rfl|(rw[aP];rfl)) ?_
     |refine aq (by first|rfl|(rw[aP];rfl)) ?_
  |true=>
   have ce:=ce rfl
   cases q with
   |false=>
    rw[if_neg (by simp)]
    repeat' first
     |refine⟨_,_,_,_,hrv,?_⟩
     |refine⟨_,_,_,_,_,_,sa,?_⟩
     |refine⟨_,_,_,_,_,_,ta,?_⟩
     |refine⟨_,_,_,_,_,_,_,pn,?_⟩
     |refine aq ce ?_
     |refine⟨(vB true,[TV.bx (ff p)]),?_,?_,rfl⟩
     |refine⟨(vB true,[TV.bx (ff p)]),?_,?_,⟨rfl,by first|rfl|trivial⟩⟩
     |exact rfl
     |exact⟨rfl,by first|rfl|trivial⟩
     |refine ai (by first|rfl|(rw[aP];rfl)) ?_
     |refine aq (by first|rfl|(rw[aP];rfl)) ?_
   |true=>
    rw[if_pos rfl]
    repeat' first
     |refine⟨_,_,_,_,hrv,?_⟩
     |refine⟨_,_,_,_,_,_,sa,?_⟩
     |refine⟨_,_,_,_,_,_,ta,?_⟩
     |refine⟨_,_,_,_,_,_,_,pn,?_⟩
     |refine aq ce ?_
     |refine⟨(vB Y.2,[TV.bx (ff Y.1)]),?_,?_,rfl⟩
     |refine⟨(vB Y.2,[TV.bx (ff Y.1)]),?_,?_,⟨rfl,by first|rfl|trivial⟩⟩
     |exact rfl
     |exact⟨rfl,by first|rfl|trivial⟩
     |refine ai (by first|rfl|(rw[aP];rfl)) ?_
     |refine aq (by first|rfl|(rw[aP];rfl)) ?_
theorem wO (p:Pool) (s:ByteArray) (b:Int) (hS:cO p≤1048576) (hz:s.size≤1048576):aa C sD [fW p,vS s,vI b] (YD (jE p s b)) []:=by
 have hS':cO p≤4194304:=by omega
 have hP:=gU hS'
 have hcp:=qt p hS'
 have hva:=BK p s (by omega)
 have hbl:=Du p s b hS' (by omega)
 refine(LG _ _ _ _ _ _ _ _ _ ?_).run
 by_cases h1:oJ p s b=0
 ·rw[h1] at hbl
  obtain⟨v,hv,_⟩:=G9 h1
  have di:=yx p hS' (nJ p.vols s) b v hv
  have hdz:=Eu p v.age b
  have e:jE p s b=R0 p (fm p v.age b).1 (fm p v.age b).2:=by unfold jE;rw[if_pos h1,hv]
  rw[e]
  generalize fm p v.age b=X at*
  have en:=Dt p X.1 X.2 hS' (by omega)
  repeat' first
   |refine⟨_,_,_,_,_,_,hcp,?_⟩
   |refine⟨_,_,hbl,?_⟩
   |refine⟨_,hva,?_⟩
   |refine⟨_,_,_,_,_,_,_,di,?_⟩
   |refine⟨_,_,_,_,_,_,_,en,?_⟩
   |exact rfl
   |exact⟨rfl,by first|rfl|trivial⟩
   |refine ai (by first|rfl|(rw[aP];rfl)) ?_
   |refine aq (by first|rfl|(rw[aP];rfl)) ?_
 ·have c1:cU (oJ p s b) 0=false:=by rw[aP];exact decide_eq_false h1
  have c2:(!cU (oJ p s b) 0)=true:=by rw[c1];rfl
  have e:jE p s b=(p,oJ p s b):=by unfold jE;rw[if_neg h1]
  rw[e]
  repeat' first
   |refine⟨_,_,_,_,_,_,hcp,?_⟩
   |refine⟨_,_,hbl,?_⟩
   |refine⟨_,hva,?_⟩
   |refine aq c1 ?_
   |refine ai c2 ?_
   |exact rfl
   |exact⟨rfl,by first|rfl|trivial⟩
   |refine ai (by first|rfl|(rw[aP];rfl)) ?_
   |refine aq (by first|rfl|(rw[aP];rfl)) ?_
theorem CN:cU 3 0=false:=by simp
theorem VG:cU 10 0=false:=by simp
def Dv:Nat→Int→ByteArray→ByteArray
 |0,_,out=>out
 |n+1,k,out=>if k≤0 then out else Dv n (bB .i64 k 10) (LN (AO [r7 .u8 (48+vP k 10)]) out)
def S4 (k:Int):ByteArray:=if k≤0 then⟨#[109,48]⟩ else LN ⟨#[109]⟩ (Dv 19 k YV)
attribute [local semireducible] qe AO LN in
theorem TN (n:Int):qe [[TC.sc (.int .u8 n)]]=some [n]:=rfl
attribute [local semireducible] AO in
theorem VH (n:Int):(AO [n]).size=1:=rfl
attribute [local semireducible] LN in
theorem TO (a b:ByteArray):(LN a b).size=a.size+b.size:=by show(a++b).size=_;simp
attribute [local semireducible] bB in
theorem S5 {a b:Int} (h0:0≤a) (h1:a≤9223372036854775807):bB .i64 a 10=a/10:=by
 show IntKind.i64.wrap (a.tdiv 10)=_
 rw[Int.tdiv_eq_ediv_of_nonneg h0]
 exact IntWalk.i64_in _ (by omega)
theorem Sd (n:Nat) (k:Int) (out:ByteArray) (h:k≤0):Dv n k out=out:=by cases n<;>simp[Dv,h]
theorem O8 (k:Int) (hk:k≤2305843009213693952):aa C eR [vI k] (vS (S4 k)) []:=by
 refine(HV _ _ ?_).run
 unfold S4
 simp only[gX,bF]
 by_cases h:k≤0
 ·rw[if_pos h,if_pos h];exact⟨rfl,by first|rfl|trivial⟩
 ·rw[if_neg h,if_neg h]
  have key: ∀(F:ByteArray) (n:Nat) (k':Int) (out:ByteArray),k'<10 ^ n→k'≤2305843009213693952→out.size+n≤100→Dv n k' out=F→ah C eR pZ 4 0 (m0 k' out) (fun u st=>aF C eR pZ u st fun r fs=>r=vS (LN ⟨#[109]⟩ F)∧fs=[]):=by
   intro F n
   induction n with
   |zero=>
    intro k' out h1 h2 h3 h4
    refine qw _ _ _ (aq (by simp at h1 ⊢;omega) (vr _ _ _ _ ?_))
    simp only[Dv] at h4
    subst h4
    refine ai (cW (by simp only[natAdd,FA];omega)) ⟨rfl,by first|rfl|trivial⟩
   |succ n ih=>
    intro k' out h1 h2 h3 h4
    by_cases h0:k'≤0
    ·rw[Sd _ _ _ h0] at h4
     subst h4
     exact qw _ _ _ (aq (by simp;omega) (vr _ _ _ _ (ai (cW (by simp only[natAdd,FA];omega)) ⟨rfl,by first|rfl|trivial⟩)))
    ·simp only[Dv,if_neg h0] at h4
     have hr:0≤vP k' 10∧vP k' 10≤9:=by rw[WD,Int.tmod_eq_emod_of_nonneg (by omega)];omega
     refine qw _ _ _ (ai (by simp;omega) (aq VG ⟨_,TN _,ai (cW (by simp only[natAdd,FA,VH];omega)) (aq VG ?_)⟩))
     rw[aJ (by omega)]
     refine ih _ _ ?_ ?_ ?_ h4
     ·rw[S5 (b:=0) (by omega) (by omega)]
      have:(10:Int) ^ (n+1)=10 ^ n*10:=Int.pow_succ ..
      omega
     ·rw[S5 (b:=0) (by omega) (by omega)];omega
     ·rw[TO,VH];omega
  exact key _ 19 k YV (by rw[show(10:Int) ^ 19=10000000000000000000 from by decide];omega) hk (by decide) rfl
theorem KW (k:Int) (hk:k≤2305843009213693952) (q:ByteArray):aa C eR [vI k] (vS q) []↔q=S4 k:=ZB (O8 k hk)
def mkInt (_:Int) (k:Int):Int:=k
def EH (_:Int):Nat:=1
theorem VI (l:List (Int)) (k:Int) (h0:0≤k) (hk:k+tot EH l≤2305843009213693952) (hl:l.length≤1099511627776):aa C iu [j6 l,vI k] (vI (k+tot EH l)) [j6 (fM mkInt EH l k)]:=by
 refine(Jc _ _ _ ?_).run
 refine sQ (e:=bP) mkInt EH (fun k i rows=>ah C iu ak 4 0 (nj k i rows) _) 2305843009213693952 ?_ l [] k h0 hk (by simpa using hl) ?_
 ·intro d a r k h0 hk hd hn
  have hw:EH a=1:=rfl
  rw[hw] at hk hn
  refine vN _ _ _ _ (ai (by simp;omega) ?_)
  simp (disch:=omega) only[aJ]
  simp only[rO,X5,oQ,ju,j7,Option.some.injEq,exists_eq_left',exists_eq_left,mod_mod,CN,me,bJ]
  rw[yj]
  rw[show(k+1:Int)=k+((1:Nat):Int) by omega]
  exact hn
 ·refine vN _ _ _ _ (aq (by simp[lg]) (E3 _ _ _ _ _ ⟨rfl,by first|rfl|trivial⟩))
theorem VJ (l:List (Int)) (k:Int) (h0:0≤k) (hk:k+tot EH l≤2305843009213693952) (hl:l.length≤1099511627776):aa C iw [j6 (fM mkInt EH l k),vI k] (vI (k+tot EH l)) []:=by
 refine(Ir _ _ _ ?_).run
 refine sR (e:=bP) mkInt EH (fun k i rows=>ah C iw ak 4 0 (m9 rows k i) _) 2305843009213693952 ?_ l [] k h0 hk (by simpa using hl) ?_
 ·intro d a r k h0 hk hd hn
  have hw:EH a=1:=rfl
  rw[hw] at hk hn
  refine vC _ _ _ _ (ai (by simp;omega) ?_)
  simp (disch:=omega) only[aJ]
  simp only[rO,oQ,ju,j7,Option.some.injEq,exists_eq_left',exists_eq_left,mod_mod,CN,me,bJ,mkInt,aP,Fy,Ku,bF,if_true,decide_true,Bool.not_true]
  rw[show(k+1:Int)=k+((1:Nat):Int) by omega]
  exact hn
 ·refine vC _ _ _ _ (aq (by simp[lg]) (EP _ _ _ _ _ ⟨rfl,by first|rfl|trivial⟩))
def mkKey (_:Key) (k:Int):Key:=⟨k,k+1,k+1+1,k+1+1+1,k+1+1+1+1⟩
def Dw (_:Key):Nat:=5
theorem VK (l:List (Key)) (k:Int) (h0:0≤k) (hk:k+tot Dw l≤2305843009213693952) (hl:l.length≤1099511627776):aa C iy [cJ l,vI k] (vI (k+tot Dw l)) [cJ (fM mkKey Dw l k)]:=by
 refine(Jt _ _ _ ?_).run
 refine sQ (e:=bM) mkKey Dw (fun k i rows=>ah C iy ak 4 0 (nq k i rows) _) 2305843009213693952 ?_ l [] k h0 hk (by simpa using hl) ?_
 ·intro d a r k h0 hk hd hn
  have hw:Dw a=5:=rfl
  rw[hw] at hk hn
  refine vO _ _ _ _ (ai (by simp;omega) ?_)
  simp (disch:=omega) only[aJ]
  simp only[jN,Vm,Vn,Vo,Vp,Vq,XY,oQ,ju,j7,Option.some.injEq,exists_eq_left',exists_eq_left,mod_mod,CN,me,bJ]
  rw[yj]
  rw[show(k+1+1+1+1+1:Int)=k+((5:Nat):Int) by omega]
  exact hn
 ·refine vO _ _ _ _ (aq (by simp[lg]) (E4 _ _ _ _ _ ⟨rfl,by first|rfl|trivial⟩))
theorem VL (l:List (Key)) (k:Int) (h0:0≤k) (hk:k+tot Dw l≤2305843009213693952) (hl:l.length≤1099511627776):aa C iz [cJ (fM mkKey Dw l k),vI k] (vI (k+tot Dw l)) []:=by
 refine(Ig _ _ _ ?_).run
 refine sR (e:=bM) mkKey Dw (fun k i rows=>ah C iz ak 4 0 (m5 rows k i) _) 2305843009213693952 ?_ l [] k h0 hk (by simpa using hl) ?_
 ·intro d a r k h0 hk hd hn
  have hw:Dw a=5:=rfl
  rw[hw] at hk hn
  refine vv _ _ _ _ (ai (by simp;omega) ?_)
  simp (disch:=omega) only[aJ]
  simp only[jN,oQ,ju,j7,Option.some.injEq,exists_eq_left',exists_eq_left,mod_mod,CN,me,bJ,mkKey,aP,Fy,Ku,bF,if_true,decide_true,Bool.not_true]
  rw[show(k+1+1+1+1+1:Int)=k+((5:Nat):Int) by omega]
  exact hn
 ·refine vv _ _ _ _ (aq (by simp[lg]) (EL _ _ _ _ _ ⟨rfl,by first|rfl|trivial⟩))
def N8 (_:Age) (k:Int):Age:=⟨k,k+1⟩
def Dx (_:Age):Nat:=2
theorem VM (l:List (Age)) (k:Int) (h0:0≤k) (hk:k+tot Dx l≤2305843009213693952) (hl:l.length≤1099511627776):aa C ig [ji l,vI k] (vI (k+tot Dx l)) [ji (fM N8 Dx l k)]:=by
 refine(I5 _ _ _ ?_).run
 refine sQ (e:=ek) N8 Dx (fun k i rows=>ah C ig ak 4 0 (nh k i rows) _) 2305843009213693952 ?_ l [] k h0 hk (by simpa using hl) ?_
 ·intro d a r k h0 hk hd hn
  have hw:Dx a=2:=rfl
  rw[hw] at hk hn
  refine vL _ _ _ _ (ai (by simp;omega) ?_)
  simp (disch:=omega) only[aJ]
  simp only[rP,Tt,Tu,XZ,oQ,ju,j7,Option.some.injEq,exists_eq_left',exists_eq_left,mod_mod,CN,me,bJ]
  rw[yj]
  rw[show(k+1+1:Int)=k+((2:Nat):Int) by omega]
  exact hn
 ·refine vL _ _ _ _ (aq (by simp[lg]) (E0 _ _ _ _ _ ⟨rfl,by first|rfl|trivial⟩))
theorem VN (l:List (Age)) (k:Int) (h0:0≤k) (hk:k+tot Dx l≤2305843009213693952) (hl:l.length≤1099511627776):aa C iq [ji (fM N8 Dx l k),vI k] (vI (k+tot Dx l)) []:=by
 refine(I6 _ _ _ ?_).run
 refine sR (e:=ek) N8 Dx (fun k i rows=>ah C iq ak 4 0 (ni rows k i) _) 2305843009213693952 ?_ l [] k h0 hk (by simpa using hl) ?_
 ·intro d a r k h0 hk hd hn
  have hw:Dx a=2:=rfl
  rw[hw] at hk hn
  refine vM _ _ _ _ (ai (by simp;omega) ?_)
  simp (disch:=omega) only[aJ]
  simp only[rP,oQ,ju,j7,Option.some.injEq,exists_eq_left',exists_eq_left,mod_mod,CN,me,bJ,N8,aP,Fy,Ku,bF,if_true,decide_true,Bool.not_true]
  rw[show(k+1+1:Int)=k+((2:Nat):Int) by omega]
  exact hn
 ·refine vM _ _ _ _ (aq (by simp[lg]) (E1 _ _ _ _ _ ⟨rfl,by first|rfl|trivial⟩))
def Dy (_:Cell) (k:Int):Cell:=⟨k,cU (vP (k+1) 3) 0,k+1+1⟩
def uW (_:Cell):Nat:=3
theorem TP (l:List (Cell)) (k:Int) (h0:0≤k) (hk:k+tot uW l≤2305843009213693952) (hl:l.length≤1099511627776):aa C gq [gQ l,vI k] (vI (k+tot uW l)) [gQ (fM Dy uW l k)]:=by
 refine(F5 _ _ _ ?_).run
 refine sQ (e:=cY) Dy uW (fun k i rows=>ah C gq ak 4 0 (lT k i rows) _) 2305843009213693952 ?_ l [] k h0 hk (by simpa using hl) ?_
 ·intro d a r k h0 hk hd hn
  have hw:uW a=3:=rfl
  rw[hw] at hk hn
  refine ua _ _ _ _ (ai (by simp;omega) ?_)
  simp (disch:=omega) only[aJ]
  simp only[oZ,Tv,Tw,Tx,OR,oQ,ju,j7,Option.some.injEq,exists_eq_left',exists_eq_left,mod_mod,CN,me,bJ]
  rw[yj]
  rw[show(k+1+1+1:Int)=k+((3:Nat):Int) by omega]
  exact hn
 ·refine ua _ _ _ _ (aq (by simp[lg]) (DD _ _ _ _ _ ⟨rfl,by first|rfl|trivial⟩))
theorem TQ (l:List (Cell)) (k:Int) (h0:0≤k) (hk:k+tot uW l≤2305843009213693952) (hl:l.length≤1099511627776):aa C gr [gQ (fM Dy uW l k),vI k] (vI (k+tot uW l)) []:=by
 refine(F6 _ _ _ ?_).run
 refine sR (e:=cY) Dy uW (fun k i rows=>ah C gr ak 4 0 (lU rows k i) _) 2305843009213693952 ?_ l [] k h0 hk (by simpa using hl) ?_
 ·intro d a r k h0 hk hd hn
  have hw:uW a=3:=rfl
  rw[hw] at hk hn
  refine uc _ _ _ _ (ai (by simp;omega) ?_)
  simp (disch:=omega) only[aJ]
  simp only[oZ,oQ,ju,j7,Option.some.injEq,exists_eq_left',exists_eq_left,mod_mod,CN,me,bJ,Dy,aP,Fy,Ku,bF,if_true,decide_true,Bool.not_true]
  rw[show(k+1+1+1:Int)=k+((3:Nat):Int) by omega]
  simpa [Dy] using hn
 ·refine uc _ _ _ _ (aq (by simp[lg]) (DE _ _ _ _ _ ⟨rfl,by first|rfl|trivial⟩))
def KX (_:Vol) (k:Int):Vol:=⟨S4 (k),k+1,k+1+1,cU (vP (k+1+1+1) 3) 0⟩
def F0 (_:Vol):Nat:=4
theorem VO (l:List (Vol)) (k:Int) (h0:0≤k) (hk:k+tot F0 l≤2305843009213693952) (hl:l.length≤1099511627776):aa C ij [yC l,vI k] (vI (k+tot F0 l)) [yC (fM KX F0 l k)]:=by
 refine(Ij _ _ _ ?_).run
 refine sQ (e:=eA) KX F0 (fun k i rows=>ah C ij ak 4 0 (m6 k i rows) _) 2305843009213693952 ?_ l [] k h0 hk (by simpa using hl) ?_
 ·intro d a r k h0 hk hd hn
  have hw:F0 a=4:=rfl
  rw[hw] at hk hn
  refine vw _ _ _ _ (ai (by simp;omega) ?_)
  simp (disch:=omega) only[aJ]
  simp only[Be,Qv,RV,Qw,Ty,X0,KW (k) (by omega),oQ,ju,j7,Option.some.injEq,exists_eq_left',exists_eq_left,mod_mod,CN,me,bJ]
  rw[yj]
  rw[show(k+1+1+1+1:Int)=k+((4:Nat):Int) by omega]
  exact hn
 ·refine vw _ _ _ _ (aq (by simp[lg]) (EM _ _ _ _ _ ⟨rfl,by first|rfl|trivial⟩))
theorem VP (l:List (Vol)) (k:Int) (h0:0≤k) (hk:k+tot F0 l≤2305843009213693952) (hl:l.length≤1099511627776):aa C ir [yC (fM KX F0 l k),vI k] (vI (k+tot F0 l)) []:=by
 refine(Ik _ _ _ ?_).run
 refine sR (e:=eA) KX F0 (fun k i rows=>ah C ir ak 4 0 (m7 rows k i) _) 2305843009213693952 ?_ l [] k h0 hk (by simpa using hl) ?_
 ·intro d a r k h0 hk hd hn
  have hw:F0 a=4:=rfl
  rw[hw] at hk hn
  refine vz _ _ _ _ (ai (by simp;omega) ?_)
  simp (disch:=omega) only[aJ]
  simp only[Be,KW (k) (by omega),oQ,ju,j7,Option.some.injEq,exists_eq_left',exists_eq_left,mod_mod,CN,me,bJ,KX,aP,Fy,Ku,bF,if_true,decide_true,Bool.not_true]
  rw[show(k+1+1+1+1:Int)=k+((4:Nat):Int) by omega]
  simpa [KX] using hn
 ·refine vz _ _ _ _ (aq (by simp[lg]) (EN _ _ _ _ _ ⟨rfl,by first|rfl|trivial⟩))
def yy (s:List Key) (k:Int):List Key:=fM mkKey Dw s k
def jG (s:List Key):Nat:=tot Dw s
theorem TR: ∀(l:List (List Key)) (k:Int) (h0:0≤k) (hk:k+tot jG l≤2305843009213693952) (hl:l.length≤1099511627776) (hs: ∀s∈l,s.length≤1099511627776),aa C fA [Eh l,vI k] (vI (k+tot jG l)) [Eh (fM yy jG l k)]:=by
 intro l k h0 hk hl hs
 refine(GA _ _ _ ?_).run
 have key: ∀(r d:List (List Key)) (k:Int),0≤k→k+tot jG r≤2305843009213693952→d.length+r.length≤1099511627776→(∀s∈r,s.length≤1099511627776)→ ∀(R:TV) (F:List TV),vI (k+tot jG r)=R→[Eh (d++fM yy jG r k)]=F→ah C fA ak 4 0 (lX k (d.length:Int) ((d++r).map cc)) (fun u st=>aF C fA ak u st fun r fs=>r=R∧fs=F):=by
  intro r
  induction r with
  |nil=>
   intro d k h0 hk hl hs R F hR hF
   subst hR hF
   refine ug _ _ _ _ (aq (by simp) (DI _ _ _ _ _ ⟨by simp[tot],by simp[fM]⟩))
  |cons a r ih=>
   intro d k h0 hk hl hs R F hR hF
   simp only[tot,List.length_cons] at hk hl
   have hca:=hs a (.head _)
   have hu:tot Dw a=jG a:=rfl
   refine ug _ _ _ _ (ai (by simp;omega) ?_)
   simp only[qR,j7,Option.some.injEq,exists_eq_left']
   refine⟨_,_,VK a k h0 (by omega) hca,?_⟩
   simp only[X6]
   rw[yj,aJ (by omega)]
   have:=ih (d++[yy a k]) (k+jG a) (by omega) (by omega) (by simp;omega) (fun s h=>hs s (.tail _ h)) R F (by rw[←hR];simp only[tot];rw[show k+(jG a:Int)+(tot jG r:Int)=k+((jG a+tot jG r:Nat):Int) by omega]) (by rw[←hF];simp[fM])
   rw[←hu] at this
   simpa [yy] using this
 exact key l [] k h0 hk (by simpa using hl) hs _ _ rfl (by simp)
theorem TT: ∀(l:List (List Key)) (k:Int) (h0:0≤k) (hk:k+tot jG l≤2305843009213693952) (hl:l.length≤1099511627776) (hs: ∀s∈l,s.length≤1099511627776),aa C fC [Eh (fM yy jG l k),vI k] (vI (k+tot jG l)) []:=by
 intro l k h0 hk hl hs
 refine(GN _ _ _ ?_).run
 have key: ∀(r d:List (List Key)) (k:Int),0≤k→k+tot jG r≤2305843009213693952→d.length+r.length≤1099511627776→(∀s∈r,s.length≤1099511627776)→ ∀(R:TV),vI (k+tot jG r)=R→ah C fC ak 4 0 (lY ((d++fM yy jG r k).map cc) k (d.length:Int)) (fun u st=>aF C fC ak u st fun r fs=>r=R∧fs=[]):=by
  intro r
  induction r with
  |nil=>
   intro d k h0 hk hl hs R hR
   subst hR
   refine um _ _ _ _ (aq (by simp[fM]) (DN _ _ _ _ _ ⟨by simp[tot],rfl⟩))
  |cons a r ih=>
   intro d k h0 hk hl hs R hR
   simp only[tot,List.length_cons] at hk hl
   have hca:=hs a (.head _)
   have hu:tot Dw a=jG a:=rfl
   simp only[fM]
   refine um _ _ _ _ (ai (by simp;omega) ?_)
   simp only[qR,j7,Option.some.injEq,exists_eq_left']
   refine⟨_,VL a k h0 (by omega) hca,aq (by simp;omega) ?_⟩
   rw[aJ (by omega)]
   have:=ih (d++[yy a k]) (k+jG a) (by omega) (by omega) (by simp;omega) (fun s h=>hs s (.tail _ h)) R (by rw[←hR];simp only[tot];rw[show k+(jG a:Int)+(tot jG r:Int)=k+((jG a+tot jG r:Nat):Int) by omega])
   rw[hu]
   simpa [yy] using this
 exact key l [] k h0 hk (by simpa using hl) hs _ rfl
def mkNode (s:List (List Key)) (k:Int):List (List Key):=fM yy jG s k
def kR (s:List (List Key)):Nat:=tot jG s
theorem TU: ∀(l:List (List (List Key))) (k:Int) (h0:0≤k) (hk:k+tot kR l≤2305843009213693952) (hl:l.length≤1099511627776) (hs: ∀s∈l,Ex s),aa C fy [tD l,vI k] (vI (k+tot kR l)) [tD (fM mkNode kR l k)]:=by
 intro l k h0 hk hl hs
 refine(F7 _ _ _ ?_).run
 have key: ∀(r d:List (List (List Key))) (k:Int),0≤k→k+tot kR r≤2305843009213693952→d.length+r.length≤1099511627776→(∀s∈r,Ex s)→ ∀(R:TV) (F:List TV),vI (k+tot kR r)=R→[tD (d++fM mkNode kR r k)]=F→ah C fy ak 4 0 (lV k (d.length:Int) ((d++r).map aX)) (fun u st=>aF C fy ak u st fun r fs=>r=R∧fs=F):=by
  intro r
  induction r with
  |nil=>
   intro d k h0 hk hl hs R F hR hF
   subst hR hF
   refine ud _ _ _ _ (aq (by simp) (DF _ _ _ _ _ ⟨by simp[tot],by simp[fM]⟩))
  |cons a r ih=>
   intro d k h0 hk hl hs R F hR hF
   simp only[tot,List.length_cons] at hk hl
   have hca:=hs a (.head _)
   have hu:tot jG a=kR a:=rfl
   refine ud _ _ _ _ (ai (by simp;omega) ?_)
   simp only[qj,j7,Option.some.injEq,exists_eq_left']
   refine⟨_,_,TR a k h0 (by omega) hca.1 hca.2,?_⟩
   simp only[WK]
   rw[yj,aJ (by omega)]
   have:=ih (d++[mkNode a k]) (k+kR a) (by omega) (by omega) (by simp;omega) (fun s h=>hs s (.tail _ h)) R F (by rw[←hR];simp only[tot];rw[show k+(kR a:Int)+(tot kR r:Int)=k+((kR a+tot kR r:Nat):Int) by omega]) (by rw[←hF];simp[fM])
   rw[←hu] at this
   simpa [mkNode] using this
 exact key l [] k h0 hk (by simpa using hl) hs _ _ rfl (by simp)
theorem TW: ∀(l:List (List (List Key))) (k:Int) (h0:0≤k) (hk:k+tot kR l≤2305843009213693952) (hl:l.length≤1099511627776) (hs: ∀s∈l,Ex s),aa C fz [tD (fM mkNode kR l k),vI k] (vI (k+tot kR l)) []:=by
 intro l k h0 hk hl hs
 refine(Gw _ _ _ ?_).run
 have key: ∀(r d:List (List (List Key))) (k:Int),0≤k→k+tot kR r≤2305843009213693952→d.length+r.length≤1099511627776→(∀s∈r,Ex s)→ ∀(R:TV),vI (k+tot kR r)=R→ah C fz ak 4 0 (lW ((d++fM mkNode kR r k).map aX) k (d.length:Int)) (fun u st=>aF C fz ak u st fun r fs=>r=R∧fs=[]):=by
  intro r
  induction r with
  |nil=>
   intro d k h0 hk hl hs R hR
   subst hR
   refine uf _ _ _ _ (aq (by simp[fM]) (DH _ _ _ _ _ ⟨by simp[tot],rfl⟩))
  |cons a r ih=>
   intro d k h0 hk hl hs R hR
   simp only[tot,List.length_cons] at hk hl
   have hca:=hs a (.head _)
   have hu:tot jG a=kR a:=rfl
   simp only[fM]
   refine uf _ _ _ _ (ai (by simp;omega) ?_)
   simp only[qj,j7,Option.some.injEq,exists_eq_left']
   refine⟨_,TT a k h0 (by omega) hca.1 hca.2,aq (by simp;omega) ?_⟩
   rw[aJ (by omega)]
   have:=ih (d++[mkNode a k]) (k+kR a) (by omega) (by omega) (by simp;omega) (fun s h=>hs s (.tail _ h)) R (by rw[←hR];simp only[tot];rw[show k+(kR a:Int)+(tot kR r:Int)=k+((kR a+tot kR r:Nat):Int) by omega])
   rw[hu]
   simpa [mkNode] using this
 exact key l [] k h0 hk (by simpa using hl) hs _ rfl
def yL (t:Tree):Nat:=tot EH t.lows+tot kR t.nodes
def Se (t:Tree) (k:Int):Tree:=⟨fM mkInt EH t.lows k,fM mkNode kR t.nodes (k+tot EH t.lows)⟩
theorem VQ (t:Tree) (k:Int) (h0:0≤k) (hk:k+yL t≤2305843009213693952) (h:N6 t):aa C v7 [dj t,vI k] (vI (k+yL t)) [dj (Se t k)]:=by
 unfold yL at*
 refine(IG _ _ _ _ ⟨_,_,VI t.lows k h0 (by omega) h.1,_,_,TU t.nodes _ (by omega) (by omega) h.2.1 h.2.2,?_⟩).run
 exact⟨by congr 2;omega,rfl⟩
theorem VR (t:Tree) (k:Int) (h0:0≤k) (hk:k+yL t≤2305843009213693952) (h:N6 t):aa C v8 [dj (Se t k),vI k] (vI (k+yL t)) []:=by
 unfold yL at*
 refine(II _ _ _ _ ⟨_,VJ t.lows k h0 (by omega) h.1,aq (by simp;omega) ⟨_,TW t.nodes _ (by omega) (by omega) h.2.1 h.2.2,aq (by simp;omega) ?_⟩⟩).run
 exact⟨by congr 2;omega,rfl⟩
def Hh (p:Pool):Nat:=yL p.t+tot Dx p.ages+tot uW p.cells+tot F0 p.vols
def VS (p:Pool) (k:Int):Pool:=⟨Se p.t k,fM N8 Dx p.ages (k+yL p.t),fM Dy uW p.cells (k+yL p.t+tot Dx p.ages),fM KX F0 p.vols (k+yL p.t+tot Dx p.ages+tot uW p.cells),p.next⟩
theorem QY (p:Pool) (k:Int) (h0:0≤k) (hk:k+Hh p≤2305843009213693952) (h:QU p):aa C q9 [fW p,vI k] (vI (k+Hh p)) [fW (VS p k)]:=by
 unfold Hh at*
 refine(HT _ _ _ _ _ _ _ _ ⟨_,_,_,VQ p.t k h0 (by omega) h.t,_,_,VM p.ages _ (by omega) (by omega) h.ages,_,_,TP p.cells _ (by omega) (by omega) h.cells,_,_,VO p.vols _ (by omega) (by omega) h.vols,?_⟩).run
 exact⟨by congr 2;omega,rfl⟩
theorem QZ (p:Pool) (k:Int) (h0:0≤k) (hk:k+Hh p≤2305843009213693952) (h:QU p):aa C rj [fW (VS p k),vI k] (vI (k+Hh p)) []:=by
 unfold Hh at*
 refine(Ih _ _ _ _ _ _ _ _ ⟨_,VR p.t k h0 (by omega) h.t,aq (by simp;omega) ⟨_,VN p.ages _ (by omega) (by omega) h.ages,aq (by simp;omega) ⟨_,TQ p.cells _ (by omega) (by omega) h.cells,aq (by simp;omega) ⟨_,VP p.vols _ (by omega) (by omega) h.vols,aq (by simp;omega) ?_⟩⟩⟩⟩).run
 exact⟨by congr 2;omega,rfl⟩
theorem Dz {n z:Nat} (h:n*z≤reachBytes) (hz:1≤z):n≤140737488355328:=by
 have:reachBytes≤140737488355328:=by decide
 have h2:n*1≤n*z:=Nat.mul_le_mul_left n hz
 omega
theorem Yt {n:Int} (h:(Lit.int .i64 n).wf=true):n≤9223372036854775807:=by
 have:=(XW h).2
 omega
theorem Sf {r:List TC} (h:sO C.tt N5 r): ∃n:Int,r=bP n∧True:=by
 obtain⟨n,rfl,_⟩:=h.oY (k:= .i64) (by kernel_rfl)
 exact⟨n,rfl,trivial⟩
theorem Yu {r:List TC} (h:sO C.tt KM r): ∃x:Key,r=bM x∧True:=by
 obtain⟨q0,r0,rfl,h0,k0⟩:=(h.pW (fs:=[(0,3),(1,3),(2,3),(3,3),(4,3)]) (by kernel_rfl)).cons_inv
 obtain⟨q1,r1,rfl,h1,k1⟩:=k0.cons_inv
 obtain⟨q2,r2,rfl,h2,k2⟩:=k1.cons_inv
 obtain⟨q3,r3,rfl,h3,k3⟩:=k2.cons_inv
 obtain⟨q4,r4,rfl,h4,k4⟩:=k3.cons_inv
 have e:=k4.yh
 subst e
 obtain⟨v0,rfl,u0⟩:=h0.oY (k:= .i64) (by kernel_rfl)
 obtain⟨v1,rfl,u1⟩:=h1.oY (k:= .i64) (by kernel_rfl)
 obtain⟨v2,rfl,u2⟩:=h2.oY (k:= .i64) (by kernel_rfl)
 obtain⟨v3,rfl,u3⟩:=h3.oY (k:= .i64) (by kernel_rfl)
 obtain⟨v4,rfl,u4⟩:=h4.oY (k:= .i64) (by kernel_rfl)
 exact⟨⟨v0,v1,v2,v3,v4⟩,rfl,trivial⟩
theorem Yv {r:List TC} (h:sO C.tt KL r): ∃x:Age,r=ek x∧True:=by
 obtain⟨q0,r0,rfl,h0,k0⟩:=(h.pW (fs:=[(0,3),(1,3)]) (by kernel_rfl)).cons_inv
 obtain⟨q1,r1,rfl,h1,k1⟩:=k0.cons_inv
 have e:=k1.yh
 subst e
 obtain⟨v0,rfl,u0⟩:=h0.oY (k:= .i64) (by kernel_rfl)
 obtain⟨v1,rfl,u1⟩:=h1.oY (k:= .i64) (by kernel_rfl)
 exact⟨⟨v0,v1⟩,rfl,trivial⟩
theorem W2 {r:List TC} (h:sO C.tt He r): ∃x:Cell,r=cY x∧True:=by
 obtain⟨q0,r0,rfl,h0,k0⟩:=(h.pW (fs:=[(0,3),(1,4),(2,3)]) (by kernel_rfl)).cons_inv
 obtain⟨q1,r1,rfl,h1,k1⟩:=k0.cons_inv
 obtain⟨q2,r2,rfl,h2,k2⟩:=k1.cons_inv
 have e:=k2.yh
 subst e
 obtain⟨v0,rfl,u0⟩:=h0.oY (k:= .i64) (by kernel_rfl)
 obtain⟨v1,rfl⟩:=h1.Qo (by kernel_rfl)
 obtain⟨v2,rfl,u2⟩:=h2.oY (k:= .i64) (by kernel_rfl)
 exact⟨⟨v0,v1,v2⟩,rfl,trivial⟩
theorem Yw {r:List TC} (h:sO C.tt KN r): ∃x:Vol,r=eA x∧x.name.size≤140737488355328∧x.size≤9223372036854775807:=by
 obtain⟨q0,r0,rfl,h0,k0⟩:=(h.pW (fs:=[(0,9),(1,3),(2,3),(3,4)]) (by kernel_rfl)).cons_inv
 obtain⟨q1,r1,rfl,h1,k1⟩:=k0.cons_inv
 obtain⟨q2,r2,rfl,h2,k2⟩:=k1.cons_inv
 obtain⟨q3,r3,rfl,h3,k3⟩:=k2.cons_inv
 have e:=k3.yh
 subst e
 obtain⟨v0,rfl,z0⟩:=h0.SU (by kernel_rfl)
 obtain⟨v1,rfl,u1⟩:=h1.oY (k:= .i64) (by kernel_rfl)
 obtain⟨v2,rfl,u2⟩:=h2.oY (k:= .i64) (by kernel_rfl)
 obtain⟨v3,rfl⟩:=h3.Qo (by kernel_rfl)
 exact⟨⟨v0,v1,v2,v3⟩,rfl,⟨Nat.le_trans z0 (by decide),Yt u2⟩⟩
theorem TY {r:List TC} (h:sO C.tt WR r): ∃l:List (Int),r=[.sub 1 (l.map bP)]∧l.length≤140737488355328∧ ∀x∈l,True:=by
 obtain⟨w,rfl,y,z⟩:=h.qQ (e:=N5) (by kernel_rfl)
 obtain⟨l,rfl,hl⟩:=nG fun r hr=>Sf (y r hr)
 rw[List.length_map] at z
 exact⟨l,rfl,Dz z (by decide+kernel),hl⟩
theorem TZ {r:List TC} (h:sO C.tt yt r): ∃l:List (Key),r=[.sub 5 (l.map bM)]∧l.length≤140737488355328∧ ∀x∈l,True:=by
 obtain⟨w,rfl,y,z⟩:=h.qQ (e:=KM) (by kernel_rfl)
 obtain⟨l,rfl,hl⟩:=nG fun r hr=>Yu (y r hr)
 rw[List.length_map] at z
 exact⟨l,rfl,Dz z (by decide+kernel),hl⟩
theorem T2 {r:List TC} (h:sO C.tt O0 r): ∃l:List (Age),r=[.sub 2 (l.map ek)]∧l.length≤140737488355328∧ ∀x∈l,True:=by
 obtain⟨w,rfl,y,z⟩:=h.qQ (e:=KL) (by kernel_rfl)
 obtain⟨l,rfl,hl⟩:=nG fun r hr=>Yv (y r hr)
 rw[List.length_map] at z
 exact⟨l,rfl,Dz z (by decide+kernel),hl⟩
theorem Sg {r:List TC} (h:sO C.tt LZ r): ∃l:List (Cell),r=[.sub 3 (l.map cY)]∧l.length≤140737488355328∧ ∀x∈l,True:=by
 obtain⟨w,rfl,y,z⟩:=h.qQ (e:=He) (by kernel_rfl)
 obtain⟨l,rfl,hl⟩:=nG fun r hr=>W2 (y r hr)
 rw[List.length_map] at z
 exact⟨l,rfl,Dz z (by decide+kernel),hl⟩
theorem T3 {r:List TC} (h:sO C.tt O1 r): ∃l:List (Vol),r=[.sub 4 (l.map eA)]∧l.length≤140737488355328∧ ∀x∈l,x.name.size≤140737488355328∧x.size≤9223372036854775807:=by
 obtain⟨w,rfl,y,z⟩:=h.qQ (e:=KN) (by kernel_rfl)
 obtain⟨l,rfl,hl⟩:=nG fun r hr=>Yw (y r hr)
 rw[List.length_map] at z
 exact⟨l,rfl,Dz z (by decide+kernel),hl⟩
theorem Yx {r:List TC} (h:sO C.tt yt r): ∃s:List Key,r=cc s∧s.length≤140737488355328:=by
 obtain⟨l,rfl,hl,_⟩:=TZ h
 exact⟨l,rfl,hl⟩
theorem T4 {r:List TC} (h:sO C.tt LY r): ∃l:List (List Key),r=[.sub 1 (l.map cc)]∧l.length≤140737488355328∧ ∀x∈l,x.length≤140737488355328:=by
 obtain⟨w,rfl,y,z⟩:=h.qQ (e:=yt) (by kernel_rfl)
 obtain⟨l,rfl,hl⟩:=nG fun r hr=>Yx (y r hr)
 rw[List.length_map] at z
 exact⟨l,rfl,Dz z (by decide+kernel),hl⟩
theorem W3 {r:List TC} (h:sO C.tt Hf r): ∃n:List (List Key),r=aX n∧(n.length≤140737488355328∧ ∀s∈n,s.length≤140737488355328):=by
 obtain⟨q0,r0,rfl,h0,k0⟩:=(h.pW (fs:=[(0,178)]) (by kernel_rfl)).cons_inv
 have e:=k0.yh
 subst e
 obtain⟨l,rfl,hl,hs⟩:=T4 h0
 exact⟨l,rfl,hl,hs⟩
theorem Si {r:List TC} (h:sO C.tt L0 r): ∃l:List (List (List Key)),r=[.sub 1 (l.map aX)]∧l.length≤140737488355328∧ ∀x∈l,x.length≤140737488355328∧ ∀s∈x,s.length≤140737488355328:=by
 obtain⟨w,rfl,y,z⟩:=h.qQ (e:=Hf) (by kernel_rfl)
 obtain⟨l,rfl,hl⟩:=nG fun r hr=>W3 (y r hr)
 rw[List.length_map] at z
 exact⟨l,rfl,Dz z (by decide+kernel),hl⟩
theorem W4 {r:List TC} (h:sO C.tt QT r): ∃t:Tree,r=SX t∧VE t:=by
 obtain⟨q0,r0,rfl,h0,k0⟩:=(h.pW (fs:=[(0,22),(1,23)]) (by kernel_rfl)).cons_inv
 obtain⟨q1,r1,rfl,h1,k1⟩:=k0.cons_inv
 have e:=k1.yh
 subst e
 obtain⟨l,rfl,hl,_⟩:=TY h0
 obtain⟨n,rfl,hn,hs⟩:=Si h1
 exact⟨⟨l,n⟩,rfl,⟨hl,hn,hs⟩⟩
theorem W5 {r:List TC} (h:sO C.tt rF r): ∃p:Pool,r=ff p∧S3 p:=by
 obtain⟨q0,r0,rfl,h0,k0⟩:=(h.pW (fs:=[(0,25),(2,26),(3,27),(4,28),(5,3)]) (by kernel_rfl)).cons_inv
 obtain⟨q1,r1,rfl,h1,k1⟩:=k0.cons_inv
 obtain⟨q2,r2,rfl,h2,k2⟩:=k1.cons_inv
 obtain⟨q3,r3,rfl,h3,k3⟩:=k2.cons_inv
 obtain⟨q4,r4,rfl,h4,k4⟩:=k3.cons_inv
 have e:=k4.yh
 subst e
 obtain⟨t,rfl,ht⟩:=W4 h0
 obtain⟨a,rfl,ha,_⟩:=T2 h1
 obtain⟨c,rfl,hc,_⟩:=Sg h2
 obtain⟨v,rfl,hv,hw⟩:=T3 h3
 obtain⟨n,rfl,_⟩:=Sf h4
 exact⟨⟨t,a,c,v,n⟩,rfl,⟨ht,ha,hc,hv,fun v h=>(hw v h).1,fun v h=>(hw v h).2⟩⟩
theorem Zc {v:TV} (h:VY C.tt N5 v): ∃n:Int,v=vI n:=by
 have ht:(C.tt N5).ti= .int .i64:=by kernel_rfl
 cases h with
 |c _ hw=>
  obtain⟨n,h1,_⟩:=Sf hw
  unfold bP at h1
  cases h1
  exact⟨n,rfl⟩
 |ag h1 _=>rw[ht] at h1;cases h1
theorem VT {v:TV} (h:VY C.tt Ew v): ∃n:ByteArray,v=vS n∧n.size≤140737488355328:=by
 have ht:(C.tt Ew).ti= .str:=by kernel_rfl
 cases h with
 |c _ hw=>
  obtain⟨n,h1,h2⟩:=hw.SU ht
  cases h1
  exact⟨n,rfl,Nat.le_trans h2 (by decide)⟩
 |ag h1 _=>rw[ht] at h1;cases h1
theorem Yy {v:TV} (h:VY C.tt rF v): ∃x:Pool,v=fW x∧S3 x:=by
 have ht:(C.tt rF).ti= .struct [(0,25),(2,26),(3,27),(4,28),(5,3)]:=by kernel_rfl
 cases h with
 |c hs hw=>exact absurd ht (hs _)
 |ag _ hw=>
  obtain⟨x,rfl,hx⟩:=W5 hw
  exact⟨x,rfl,hx⟩
theorem Yz {a:Int} {n:Nat} (h:bK (lQ a n) 0=false) (h0:0≤a∧a≤1048576):(n:Int)≤a∧(0≤lQ a n∧lQ a n≤1048576)∧lQ a n=a-n:=by
 rw[ez] at h
 have h: ¬lQ a n<0:=of_decide_eq_false h
 unfold lQ at*
 split at h<;>simp_all<;>omega
theorem YA {a b:Int} (h:bK a b=false):b≤a:=by
 rw[ez] at h
 have:=of_decide_eq_false h
 omega
theorem VU {t:Tree} (h:cZ t≤4194304):N6 t:=by
 unfold cZ qk at h
 refine⟨by omega,by omega,fun n hn=> ?_⟩
 have h1:=mW (w:=aQ) hn
 have e:aQ n=n.length+tot bH n:=rfl
 exact⟨by omega,fun s hs=>by
  have h2:=mW (w:=bH) hs
  have e2:bH s=s.length:=rfl
  omega⟩
theorem VV (l:List Key):tot Dw l=5*l.length:=sU 5 l
theorem VW (n:List (List Key)):tot jG n≤5*tot bH n:=by
 induction n with
 |nil=>simp[tot]
 |cons s r ih=>
  simp only[tot]
  have:jG s=5*s.length:=VV s
  have e:bH s=s.length:=rfl
  omega
theorem T6 (l:List (List (List Key))):tot kR l≤5*tot aQ l:=by
 induction l with
 |nil=>simp[tot]
 |cons n r ih=>
  simp only[tot]
  have h1:=VW n
  have h2:aQ n=n.length+tot bH n:=rfl
  have h3:kR n=tot jG n:=rfl
  omega
theorem VX (t:Tree):yL t≤5*cZ t:=by
 have h1:=T6 t.nodes
 have h2:tot EH t.lows=1*t.lows.length:=sU 1 t.lows
 unfold yL cZ qk
 omega
theorem Q0 {p:Pool} (h:cO p≤4194304):QU p:=by
 unfold cO FD at h
 exact⟨VU (by omega),by omega,by omega,by omega⟩
theorem Q1 (p:Pool):Hh p≤5*cO p:=by
 have h1:=VX p.t
 have h2:tot Dx p.ages=2*p.ages.length:=sU 2 p.ages
 have h3:tot uW p.cells=3*p.cells.length:=sU 3 p.cells
 have h4:tot F0 p.vols=4*p.vols.length:=sU 4 p.vols
 unfold Hh cO FD
 omega
theorem Q2 (p:Pool) (w_p:S3 p) (s:ByteArray) (w_s:s.size≤140737488355328) (b:Int):aa C oK [fW p,vS s,vI b] (vB true) []:=by
 refine(AM _ _ _ _ _ _ _ _ _ ?_).run
 refine nF (fun _=>⟨rfl,by first|rfl|trivial⟩) fun hn0=> ?_
 have hn0:=YA hn0
 refine⟨_,Sb _ _ (by first|omega|assumption) (by assumption),?_⟩
 refine nF (fun _=>⟨rfl,by first|rfl|trivial⟩) fun hz1=> ?_
 obtain⟨hz1a,hz1b,hz1c⟩:=Yz hz1 (by first|omega|assumption)
 have hB:=Q0 (p:=p) (by omega)
 have hS:cO p≤4194304:=by omega
 have hP:=gU hS
 have hsl_s:Int.ofNat s.data.toList.length=(s.size:Int):=rfl
 have hsz:cO (jE p s b).1≤4194304:=Nat.le_trans (QL p s b) (by omega)
 have hB2:=Q0 (p:=(jE p s b).1) hsz
 have hw:=Q1 p
 have hw2:=Q1 (jE p s b).1
 refine⟨_,_,_,_,_,_,O2 _ (by assumption),?_⟩
 refine⟨_,_,_,_,_,_,_,FZ p s b (by omega) (by omega),?_⟩
 refine⟨_,_,_,_,_,_,O2 _ (by assumption),?_⟩
 refine⟨_,_,_,_,_,_,_,wO p s b (by omega) (by omega),?_⟩
 refine⟨_,O3 _ (by assumption),?_⟩
 refine aq (by first|rfl|(simp;done)|(simp;omega)) ?_
 refine aq (by first|rfl|(simp;done)|(simp;omega)) ?_
 refine⟨_,_,_,_,_,_,O2 _ (by assumption),?_⟩
 refine⟨_,O3 _ (by assumption),?_⟩
 refine aq (by first|rfl|(simp;done)|(simp;omega)) ?_
 refine⟨_,_,_,_,_,_,_,QY _ 1 (by omega) (by omega) (by assumption),?_⟩
 refine aq (by first|rfl|(simp;done)|(simp;omega)) ?_
 refine⟨_,O3 _ (by assumption),?_⟩
 refine aq (by first|rfl|(simp;done)|(simp;omega)) ?_
 refine aq (by first|rfl|(simp;done)|(simp;omega)) ?_
 refine⟨_,_,_,_,_,_,_,QY _ 1 (by omega) (by omega) (by assumption),?_⟩
 refine⟨_,QZ _ 1 (by omega) (by omega) (by assumption),?_⟩
 refine aq (by first|rfl|(simp;done)|(simp;omega)) ?_
 refine aq (by first|rfl|(simp;done)|(simp;omega)) ?_
 refine⟨_,_,_,_,_,_,O2 _ (by assumption),?_⟩
 refine⟨_,_,_,_,_,_,_,wO p s b (by omega) (by omega),?_⟩
 refine⟨_,O3 _ (by assumption),?_⟩
 refine aq (by first|rfl|(simp;done)|(simp;omega)) ?_
 refine aq (by first|rfl|(simp;done)|(simp;omega)) ?_
 refine⟨_,QZ _ 1 (by omega) (by omega) (by assumption),?_⟩
 refine aq (by first|rfl|(simp;done)|(simp;omega)) ?_
 refine aq (by first|rfl|(simp;done)|(simp;omega)) ?_
 exact⟨rfl,by first|rfl|trivial⟩
theorem Q3 (vs:List TV) (h:Ql C.tt [rF,Ew,N5] vs): ∃k,iA C k oK vs (vB true) []:=by
 cases h with
 |cons h0 h=>
  cases h with
  |cons h1 h=>
   cases h with
   |cons h2 h=>
    cases h
    obtain⟨p,rfl,wp⟩:=Yy h0
    obtain⟨s,rfl,ws⟩:=VT h1
    obtain⟨b,rfl⟩:=Zc h2
    exact Q2 p wp s ws b
end Go.T.R
