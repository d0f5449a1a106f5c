/- What the functions answer. -/
import Derived.Test.YtiinnfilgnhjfaaGreatTP0
set_option linter.unusedVariables false
set_option linter.unusedSimpArgs false
set_option maxRecDepth 100000
set_option maxHeartbeats 4000000
namespace Go.T.R
open Go Go.T
theorem Gf (t:Tree) (k:Key) (hz:c6 t≤4194304):aa C om [dn t,AY k] (xU (bP t k)) []:=by
 have hN:=ve hz
 have hcp:aa C aX [dn t] (dn t) []:=va t hN.1 hN.2
 refine(LQ _ _ _ _ _ _ _ _ ⟨_,sg t (by omega),?_⟩).run
 cases h1:ew t with
 |false=>exact ai rfl ⟨_,_,hcp,⟨by unfold bP;rw[if_neg (by rw[h1];simp)],rfl⟩⟩
 |true=>
 refine an rfl ⟨_,(ET _ _ _ _ _ _).2 rfl,?_⟩
 change aD (!gx k) _ _
 cases h2:gx k with
 |false=>exact ai rfl ⟨_,_,hcp,⟨by unfold bP;rw[if_neg (by rw[h2];simp)],rfl⟩⟩
 |true=>
 obtain⟨i,hi,hil⟩:=K8 h1 h2
 have hlen:=p8 h1
 have hw:aa C fh [dn t,vI k.b,vI k.a] (vI (i:Int)) []:=by rw[←hi];exact wX t k.b k.a (by omega)
 have hrow:rowAt (t.nodes.map aW) (i:Int)=some [TC.sub 1 (t.nodes[i].map cc)]:=by rw[bR,aL,List.getElem?_eq_getElem hil];rfl
 have hlow:rowAt (t.lows.map bL) (i:Int)=some [iI (t.lows.getD i 0)]:=by
  rw[bR,aL,List.getD_eq_getElem?_getD,List.getElem?_eq_getElem (by omega)];rfl
 have hg:t.nodes.getD i []=t.nodes[i]:=by rw[List.getD_eq_getElem?_getD,List.getElem?_eq_getElem hil];rfl
 have hok:=uX h1 (List.getElem_mem hil)
 have hsz:=CM hok
 have hps:=Bz t.nodes[i] k
 have hpt:=BA t.nodes[i] k
 have hkl:=og t.nodes[i] k
 have hnk:=cV t.nodes[i]
 obtain⟨hp1,hp2,hp3⟩:=Ri (k:=k) h1 hil
 have hR:bP t k=if ew (ku (jT t i k).nodes.length (jT t i k))=true then(ku (jT t i k).nodes.length (jT t i k),true) else(t,false):=by
  unfold bP;rw[if_pos ⟨h1,h2⟩,hi,Int.toNat_natCast]
 have fin: ∀Q:QV,Q (xU (bP t k)) []→ ∃(l39 l40:RR),aa C bX [dn (jT t i k)] (.ag [.sub 1 l39,.sub 1 l40]) []∧(∃b:Bool,aa C bI [.ag [.sub 1 l39,.sub 1 l40]] (vB b) []∧(aD (!b) (∃(l42 l43:RR),aa C aX [dn t] (.ag [.sub 1 l42,.sub 1 l43]) []∧Q (.tu [(1,[.sub 1 l42,.sub 1 l43]),(0,[iB false])]) []) (Q (.tu [(1,[.sub 1 l39,.sub 1 l40]),(0,[iB true])]) []))):=by
  intro Q hQ
  refine⟨_,_,Ig (jT t i k) hp2 (by omega),_,sg _ (by omega),?_⟩
  rw[hR] at hQ
  cases h3:ew (ku (jT t i k).nodes.length (jT t i k)) with
  |true=>rw[if_pos h3] at hQ;exact an rfl hQ
  |false=>rw[if_neg (by rw[h3];simp)] at hQ;exact ai rfl ⟨_,_,hcp,hQ⟩
 have np:=Gd t.nodes[i] k (by omega) (by omega)
 refine an rfl ⟨_,hw,_,_,hcp,_,hrow,_,hrow,?_⟩
 cases hp:(cj t.nodes[i] k).2 with
 |false=>
  have hno:=(K4 hok h2 hp).1
  have cno:(!(cj t.nodes[i] k).2)=true:=by rw[hp];rfl
  obtain⟨ks,hks⟩: ∃ks,ks=cr t.nodes[i] k:=⟨_,rfl⟩
  rw[←hks] at hno hkl
  have hh:=To hno
  obtain⟨h,hhe⟩: ∃h,h=(ks.length+1)/2:=⟨_,rfl⟩
  have hq:bB .i64 (aA (Int.ofNat (List.length (ks.map bN))) 1) 2=(h:Int):=by rw[List.length_map,Zy (by omega),hhe]
  have hkk:rowAt (ks.map bN) (h:Int)=some [iI (ks.getD h dY).b,iI (ks.getD h dY).a,iI (ks.getD h dY).k,iI (ks.getD h dY).c,iI (ks.getD h dY).g]:=by
   rw[bR,aL,List.getD_eq_getElem?_getD,List.getElem?_eq_getElem (by omega)];rfl
  have ep:jT t i k=kr t i 1 [t.lows.getD i 0,gy (ks.getD h dY).b (ks.getD h dY).a] [cF (ks.take h),cF (ks.drop h)]:=by
   unfold jT;rw[hg,if_neg (by rw[hp];simp),←hks,←hhe]
  have rp:=qE t i 1 [t.lows.getD i 0,gy (ks.getD h dY).b (ks.getD h dY).a] [cF (ks.take h),cF (ks.drop h)] (by omega) (by omega) (by omega) (by omega) (by simp) (by simp)
  rw[←ep] at rp
  have e1:ax (ks.map bN) 0 (h:Int)=(ks.take h).map bN:=by rw[ct];rfl
  have e2:ax (ks.map bN) (h:Int) (Int.ofNat (List.length (ks.map bN)))=(ks.drop h).map bN:=by
   rw[ct,List.length_map,Int.toNat_natCast,show(Int.ofNat ks.length).toNat=ks.length from rfl,List.take_length]
  have nn1:aa C bT [.c (.sub 5 (ax (ks.map bN) 0 (h:Int)))] (fW (cF (ks.take h))) []:=by rw[e1];exact m9 _ (by rw[List.length_take];omega)
  have nn2:aa C bT [.c (.sub 5 (ax (ks.map bN) (h:Int) (Int.ofNat (List.length (ks.map bN)))))] (fW (cF (ks.drop h))) []:=by rw[e2];exact m9 _ (by rw[List.length_drop];omega)
  have c1:cD 0 (h:Int) (Int.ofNat (List.length (ks.map bN)))=true:=by rw[Br];simp;omega
  have c2:cD (h:Int) (Int.ofNat (List.length (ks.map bN))) (Int.ofNat (List.length (ks.map bN)))=true:=by rw[Br];simp;omega
  have kw:aa C dw [fW t.nodes[i],AY k] (cO ks) []:=by
   rw[hks];exact vf t.nodes[i] k (by omega) (by omega)
  clear hks hhe hR
  repeat' first
   |refine⟨_,hrow,?_⟩
   |refine⟨_,hlow,?_⟩
   |refine⟨_,_,np,?_⟩
   |refine ai cno ?_
   |refine⟨_,kw,?_⟩
   |refine an (by rw[aP];rfl) ?_
   |rw[hq]
   |refine⟨_,_,_,_,_,hkk,?_⟩
   |refine ai c1 ?_
   |refine ai c2 ?_
   |refine⟨_,(wE _ _ _).2 rfl,?_⟩
   |refine⟨_,nn1,?_⟩
   |refine⟨_,nn2,?_⟩
   |refine⟨_,_,rp,?_⟩
   |refine⟨(xU (bP t k),([]:List TV)),?_,?_,rfl⟩
   |refine⟨(xU (bP t k),([]:List TV)),?_,?_,⟨rfl,by first|rfl|trivial⟩⟩
   |exact fin (fun a b=>(a,b)=(xU (bP t k),([]:List TV))) rfl
   |exact fin (fun r fs=>r=xU (bP t k)∧fs=[]) ⟨rfl,by first|rfl|trivial⟩
 |true=>
  have cno:(!(cj t.nodes[i] k).2)=false:=by rw[hp];rfl
  by_cases hc:0<i∧(aR (cj t.nodes[i] k).1).length=0
  ·have ci:bK 0 (i:Int)=true:=by rw[eE];simp;omega
   have nk:=(je (cj t.nodes[i] k).1 (by omega) (by omega) _).2 rfl
   have cl:cU (Int.ofNat (List.length ((aR (cj t.nodes[i] k).1).map bN))) 0=true:=by rw[aP,List.length_map,hc.2];rfl
   have ep:jT t i k=kr t i 1 [] []:=by unfold jT;rw[hg,if_pos hp,if_pos hc]
   have rp:=qE t i 1 [] [] (by omega) (by omega) (by omega) (by omega) (by simp) (by simp)
   rw[←ep] at rp
   clear hR
   repeat' first
   |refine⟨_,hrow,?_⟩
   |refine⟨_,hlow,?_⟩
   |refine⟨_,_,np,?_⟩
   |refine an cno ?_
   |refine ai ci ?_
   |refine⟨_,nk,?_⟩
   |refine ai cl ?_
   |refine⟨_,_,rp,?_⟩
   |refine⟨(xU (bP t k),([]:List TV)),?_,?_,rfl⟩
   |refine⟨(xU (bP t k),([]:List TV)),?_,?_,⟨rfl,by first|rfl|trivial⟩⟩
   |exact fin (fun a b=>(a,b)=(xU (bP t k),([]:List TV))) rfl
   |exact fin (fun r fs=>r=xU (bP t k)∧fs=[]) ⟨rfl,by first|rfl|trivial⟩
  ·have eset:jT t i k=⟨t.lows,t.nodes.set i (cj t.nodes[i] k).1⟩:=by
    unfold jT;rw[hg,if_pos hp,if_neg hc,Sz (by omega) hil]
   have es:setRow (t.nodes.map aW) (i:Int) 0 [TC.sub 1 ((cj t.nodes[i] k).1.map cc)]=(t.nodes.set i (cj t.nodes[i] k).1).map aW:=QW (a:=t.nodes[i]) (by rw[aL,List.getElem?_eq_getElem hil]) rfl
   clear hR
   by_cases hi0:0<i
   ·have ci:bK 0 (i:Int)=true:=by rw[eE];simp;omega
    have nk:=(je (cj t.nodes[i] k).1 (by omega) (by omega) _).2 rfl
    have cl:cU (Int.ofNat (List.length ((aR (cj t.nodes[i] k).1).map bN))) 0=false:=by
     rw[aP,List.length_map];exact decide_eq_false fun e=>hc ⟨hi0,by have e:((aR (cj t.nodes[i] k).1).length:Int)=0:=e;omega⟩
    repeat' first
   |refine⟨_,hrow,?_⟩
   |refine⟨_,hlow,?_⟩
   |refine⟨_,_,np,?_⟩
   |refine an cno ?_
   |refine ai ci ?_
   |refine⟨_,nk,?_⟩
   |refine an cl ?_
   |refine⟨(xU (bP t k),([]:List TV)),?_,?_,rfl⟩
   |refine⟨(xU (bP t k),([]:List TV)),?_,?_,⟨rfl,by first|rfl|trivial⟩⟩
   |exact fin (fun a b=>(a,b)=(xU (bP t k),([]:List TV))) rfl
   |exact fin (fun r fs=>r=xU (bP t k)∧fs=[]) ⟨rfl,by first|rfl|trivial⟩
   |(rw[es];rw[eset] at fin;exact fin (fun a b=>(a,b)=(xU (bP t k),([]:List TV))) rfl)
   |(rw[es];rw[eset] at fin;exact fin (fun r fs=>r=xU (bP t k)∧fs=[]) ⟨rfl,by first|rfl|trivial⟩)
   ·have ci:bK 0 (i:Int)=false:=by rw[eE];simp;omega
    repeat' first
   |refine⟨_,hrow,?_⟩
   |refine⟨_,hlow,?_⟩
   |refine⟨_,_,np,?_⟩
   |refine an cno ?_
   |refine an ci ?_
   |refine⟨(xU (bP t k),([]:List TV)),?_,?_,rfl⟩
   |refine⟨(xU (bP t k),([]:List TV)),?_,?_,⟨rfl,by first|rfl|trivial⟩⟩
   |exact fin (fun a b=>(a,b)=(xU (bP t k),([]:List TV))) rfl
   |exact fin (fun r fs=>r=xU (bP t k)∧fs=[]) ⟨rfl,by first|rfl|trivial⟩
   |(rw[es];rw[eset] at fin;exact fin (fun a b=>(a,b)=(xU (bP t k),([]:List TV))) rfl)
   |(rw[es];rw[eset] at fin;exact fin (fun r fs=>r=xU (bP t k)∧fs=[]) ⟨rfl,by first|rfl|trivial⟩)
theorem Gg (t:Tree) (k:Key) (hz:c6 t≤4194304):aa C oh [dn t,AY k] (xU (bP t k)) []:=by
 have hN:=ve hz
 have hcp:aa C cv [dn t] (dn t) []:=yR t hN.1 hN.2
 refine(Lo _ _ _ _ _ _ _ _ ⟨_,_,hcp,_,r9 t (by omega),?_⟩).run
 cases h1:ew t with
 |false=>exact ai rfl ⟨by unfold bP;rw[if_neg (by rw[h1];simp)],rfl⟩
 |true=>
 refine an rfl ⟨_,(EU _ _ _ _ _ _).2 rfl,?_⟩
 change aD (!gx k) _ _
 cases h2:gx k with
 |false=>exact ai rfl ⟨by unfold bP;rw[if_neg (by rw[h2];simp)],rfl⟩
 |true=>
 obtain⟨i,hi,hil⟩:=K8 h1 h2
 have hlen:=p8 h1
 have hw:aa C ey [dn t,vI k.b,vI k.a] (vI (i:Int)) []:=by rw[←hi];exact wW t k.b k.a (by omega)
 have hrow:rowAt (t.nodes.map aW) (i:Int)=some [TC.sub 1 (t.nodes[i].map cc)]:=by rw[bR,aL,List.getElem?_eq_getElem hil];rfl
 have hlow:rowAt (t.lows.map bL) (i:Int)=some [iI (t.lows.getD i 0)]:=by
  rw[bR,aL,List.getD_eq_getElem?_getD,List.getElem?_eq_getElem (by omega)];rfl
 have hg:t.nodes.getD i []=t.nodes[i]:=by rw[List.getD_eq_getElem?_getD,List.getElem?_eq_getElem hil];rfl
 have hok:=uX h1 (List.getElem_mem hil)
 have hsz:=CM hok
 have hps:=Bz t.nodes[i] k
 have hpt:=BA t.nodes[i] k
 have hkl:=og t.nodes[i] k
 have hnk:=cV t.nodes[i]
 obtain⟨hp1,hp2,hp3⟩:=Ri (k:=k) h1 hil
 have hR:bP t k=if ew (ku (jT t i k).nodes.length (jT t i k))=true then(ku (jT t i k).nodes.length (jT t i k),true) else(t,false):=by
  unfold bP;rw[if_pos ⟨h1,h2⟩,hi,Int.toNat_natCast]
 have fin: ∀Q:QV,Q (xU (bP t k)) []→ ∃(l39 l40:RR),aa C au [dn (jT t i k)] (.ag [.sub 1 l39,.sub 1 l40]) []∧(∃b:Bool,aa C aq [.ag [.sub 1 l39,.sub 1 l40]] (vB b) []∧(aD (!b) (Q (.tu [(1,Tj t),(0,[iB false])]) []) (Q (.tu [(1,[.sub 1 l39,.sub 1 l40]),(0,[iB true])]) []))):=by
  intro Q hQ
  refine⟨_,_,Ie (jT t i k) hp2 (by omega),_,r9 _ (by omega),?_⟩
  rw[hR] at hQ
  cases h3:ew (ku (jT t i k).nodes.length (jT t i k)) with
  |true=>rw[if_pos h3] at hQ;exact an rfl hQ
  |false=>rw[if_neg (by rw[h3];simp)] at hQ;exact ai rfl hQ
 have np:=Ge t.nodes[i] k (by omega) (by omega)
 have hx:=tW t i [t.lows.getD i 0] [(cj t.nodes[i] k).1] (by omega) (by omega) (by omega) (by omega) (by simp) (by simp)
 refine an rfl ⟨_,hw,_,hrow,?_⟩
 cases hp:(cj t.nodes[i] k).2 with
 |false=>
  have hno:=(K4 hok h2 hp).1
  have cno:(!(cj t.nodes[i] k).2)=true:=by rw[hp];rfl
  obtain⟨ks,hks⟩: ∃ks,ks=cr t.nodes[i] k:=⟨_,rfl⟩
  rw[←hks] at hno hkl
  have hh:=To hno
  obtain⟨h,hhe⟩: ∃h,h=(ks.length+1)/2:=⟨_,rfl⟩
  have hq:bB .i64 (aA (Int.ofNat (List.length (ks.map bN))) 1) 2=(h:Int):=by rw[List.length_map,Zy (by omega),hhe]
  have hkk:rowAt (ks.map bN) (h:Int)=some [iI (ks.getD h dY).b,iI (ks.getD h dY).a,iI (ks.getD h dY).k,iI (ks.getD h dY).c,iI (ks.getD h dY).g]:=by
   rw[bR,aL,List.getD_eq_getElem?_getD,List.getElem?_eq_getElem (by omega)];rfl
  have ep:jT t i k=kr t i 1 [t.lows.getD i 0,gy (ks.getD h dY).b (ks.getD h dY).a] [cF (ks.take h),cF (ks.drop h)]:=by
   unfold jT;rw[hg,if_neg (by rw[hp];simp),←hks,←hhe]
  have rp:=tW t i [t.lows.getD i 0,gy (ks.getD h dY).b (ks.getD h dY).a] [cF (ks.take h),cF (ks.drop h)] (by omega) (by omega) (by omega) (by omega) (by simp) (by simp)
  rw[←ep] at rp
  have e1:ax (ks.map bN) 0 (h:Int)=(ks.take h).map bN:=by rw[ct];rfl
  have e2:ax (ks.map bN) (h:Int) (Int.ofNat (List.length (ks.map bN)))=(ks.drop h).map bN:=by
   rw[ct,List.length_map,Int.toNat_natCast,show(Int.ofNat ks.length).toNat=ks.length from rfl,List.take_length]
  have nn1:aa C az [.c (.sub 5 (ax (ks.map bN) 0 (h:Int)))] (fW (cF (ks.take h))) []:=by rw[e1];exact iV _ (by rw[List.length_take];omega)
  have nn2:aa C az [.c (.sub 5 (ax (ks.map bN) (h:Int) (Int.ofNat (List.length (ks.map bN)))))] (fW (cF (ks.drop h))) []:=by rw[e2];exact iV _ (by rw[List.length_drop];omega)
  have c1:cD 0 (h:Int) (Int.ofNat (List.length (ks.map bN)))=true:=by rw[Br];simp;omega
  have c2:cD (h:Int) (Int.ofNat (List.length (ks.map bN))) (Int.ofNat (List.length (ks.map bN)))=true:=by rw[Br];simp;omega
  have kw:aa C bV [cO (fe (aR t.nodes[i]) k)] (cO ks) []:=by
   rw[hks];exact wD (fe (aR t.nodes[i]) k) (by have:=nQ (aR t.nodes[i]) k;omega)
  clear hks hhe hR
  repeat' first
   |refine⟨_,hrow,?_⟩
   |refine⟨_,hlow,?_⟩
   |refine⟨_,_,np,?_⟩
   |refine⟨_,_,hx,?_⟩
   |refine ai cno ?_
   |refine⟨_,kw,?_⟩
   |refine⟨_,(eA t.nodes[i] (by omega) (by omega) _).2 rfl,?_⟩
   |refine⟨_,mA (aR t.nodes[i]) k (by omega),?_⟩
   |refine an (by rw[aP];rfl) ?_
   |rw[hq]
   |refine⟨_,_,_,_,_,hkk,?_⟩
   |refine ai c1 ?_
   |refine ai c2 ?_
   |refine⟨_,(C5 _ _ _ _ _ _).2 rfl,?_⟩
   |refine⟨_,nn1,?_⟩
   |refine⟨_,nn2,?_⟩
   |refine⟨_,_,rp,?_⟩
   |refine⟨(xU (bP t k),([]:List TV)),?_,?_,rfl⟩
   |refine⟨(xU (bP t k),([]:List TV)),?_,?_,⟨rfl,by first|rfl|trivial⟩⟩
   |exact fin (fun a b=>(a,b)=(xU (bP t k),([]:List TV))) rfl
   |exact fin (fun r fs=>r=xU (bP t k)∧fs=[]) ⟨rfl,by first|rfl|trivial⟩
 |true=>
  have cno:(!(cj t.nodes[i] k).2)=false:=by rw[hp];rfl
  by_cases hc:0<i∧(aR (cj t.nodes[i] k).1).length=0
  ·have ci:bK 0 (i:Int)=true:=by rw[eE];simp;omega
   have nk:=(eA (cj t.nodes[i] k).1 (by omega) (by omega) _).2 rfl
   have cl:cU (Int.ofNat (List.length ((aR (cj t.nodes[i] k).1).map bN))) 0=true:=by rw[aP,List.length_map,hc.2];rfl
   have ep:jT t i k=kr t i 1 [] []:=by unfold jT;rw[hg,if_pos hp,if_pos hc]
   have rp:=tW t i [] [] (by omega) (by omega) (by omega) (by omega) (by simp) (by simp)
   rw[←ep] at rp
   clear hR
   repeat' first
   |refine⟨_,hrow,?_⟩
   |refine⟨_,hlow,?_⟩
   |refine⟨_,_,np,?_⟩
   |refine⟨_,_,hx,?_⟩
   |refine an cno ?_
   |refine ai ci ?_
   |refine⟨_,nk,?_⟩
   |refine ai cl ?_
   |refine⟨_,_,rp,?_⟩
   |refine⟨(xU (bP t k),([]:List TV)),?_,?_,rfl⟩
   |refine⟨(xU (bP t k),([]:List TV)),?_,?_,⟨rfl,by first|rfl|trivial⟩⟩
   |exact fin (fun a b=>(a,b)=(xU (bP t k),([]:List TV))) rfl
   |exact fin (fun r fs=>r=xU (bP t k)∧fs=[]) ⟨rfl,by first|rfl|trivial⟩
  ·have ep:kr t i 1 [t.lows.getD i 0] [(cj t.nodes[i] k).1]=jT t i k:=by
    unfold jT;rw[hg,if_pos hp,if_neg hc]
   rw[ep] at hx
   clear hR
   by_cases hi0:0<i
   ·have ci:bK 0 (i:Int)=true:=by rw[eE];simp;omega
    have nk:=(eA (cj t.nodes[i] k).1 (by omega) (by omega) _).2 rfl
    have cl:cU (Int.ofNat (List.length ((aR (cj t.nodes[i] k).1).map bN))) 0=false:=by
     rw[aP,List.length_map];exact decide_eq_false fun e=>hc ⟨hi0,by have e:((aR (cj t.nodes[i] k).1).length:Int)=0:=e;omega⟩
    repeat' first
   |refine⟨_,hrow,?_⟩
   |refine⟨_,hlow,?_⟩
   |refine⟨_,_,np,?_⟩
   |refine⟨_,_,hx,?_⟩
   |refine an cno ?_
   |refine ai ci ?_
   |refine⟨_,nk,?_⟩
   |refine an cl ?_
   |refine⟨(xU (bP t k),([]:List TV)),?_,?_,rfl⟩
   |refine⟨(xU (bP t k),([]:List TV)),?_,?_,⟨rfl,by first|rfl|trivial⟩⟩
   |exact fin (fun a b=>(a,b)=(xU (bP t k),([]:List TV))) rfl
   |exact fin (fun r fs=>r=xU (bP t k)∧fs=[]) ⟨rfl,by first|rfl|trivial⟩
   ·have ci:bK 0 (i:Int)=false:=by rw[eE];simp;omega
    repeat' first
   |refine⟨_,hrow,?_⟩
   |refine⟨_,hlow,?_⟩
   |refine⟨_,_,np,?_⟩
   |refine⟨_,_,hx,?_⟩
   |refine an cno ?_
   |refine an ci ?_
   |refine⟨(xU (bP t k),([]:List TV)),?_,?_,rfl⟩
   |refine⟨(xU (bP t k),([]:List TV)),?_,?_,⟨rfl,by first|rfl|trivial⟩⟩
   |exact fin (fun a b=>(a,b)=(xU (bP t k),([]:List TV))) rfl
   |exact fin (fun r fs=>r=xU (bP t k)∧fs=[]) ⟨rfl,by first|rfl|trivial⟩
theorem Gh (p:Pool) (k:Key) (b:Bool) (hc:p.cells.length≤1073741824):aa C oq [.bx (fq p),AY k,vB b] (.tu []) [.bx (fq ⟨p.t,p.ages,if b=true∧k.k=1 then gl p.cells k.c else p.cells,p.vols,p.next⟩)]:=by
 refine(Lu _ _ _ _ _ _ _ _ _ _ _ _ _ ?_).run
 cases b with
 |false=>exact an rfl ⟨rfl,by first|rfl|trivial⟩
 |true=>
  refine ai rfl ?_
  by_cases h:k.k=1
  ·exact ai (by rw[aP];exact decide_eq_true h) ⟨_,EX p.cells k.c hc,rfl,by rw[if_pos ⟨rfl,h⟩]⟩
  ·exact an (by rw[aP];exact decide_eq_false h) ⟨rfl,by rw[if_neg fun e=>h e.2]⟩
theorem yS (p:Pool) (hS:cq p≤4194304) (k:Key):aa C lR [.bx (fq p),AY k] (vB (fM p k).2) [.bx (fq (fM p k).1)]:=by
 have hP:=g7 hS
 have ta:=yP p.t k.b k.a (by omega)
 have tp:=Gg p.t k (by omega)
 obtain⟨T,b,hT⟩: ∃T b,bP p.t k=(T,b):=⟨_,_,rfl⟩
 obtain⟨o,f,hO⟩: ∃o f,r5 p.t k.b k.a=(o,f):=⟨_,_,rfl⟩
 have e:fM p k=if b=true then(⟨T,p.ages,if f=true∧o.k=1 then gl p.cells o.c else p.cells,p.vols,p.next⟩,true) else(p,false):=by
  unfold fM BE;rw[hT,hO]
 have hno:=Dw (t:=p.t) (k:=k)
 rw[hT] at tp hno
 rw[hO] at ta
 rw[e]
 refine(MD _ _ _ _ _ _ _ _ _ _ _ _ ?_).run
 cases b with
 |false=>
  have hno:T=p.t:=hno rfl
  subst hno
  rw[if_neg (by simp)]
  repeat' first
   |refine⟨_,_,_,_,_,_,ta,?_⟩
   |refine⟨_,_,_,tp,?_⟩
   |refine⟨(vB false,[TV.bx (fq p)]),?_,?_,rfl⟩
   |refine⟨(vB false,[TV.bx (fq p)]),?_,?_,⟨rfl,by first|rfl|trivial⟩⟩
   |exact rfl
   |exact⟨rfl,by first|rfl|trivial⟩
   |refine ai (by first|rfl|(rw[aP];rfl)) ?_
   |refine an (by first|rfl|(rw[aP];rfl)) ?_
 |true=>
  rw[if_pos rfl]
  have dr:=Gh ⟨T,p.ages,p.cells,p.vols,p.next⟩ o f (by simp only[];omega)
  repeat' first
   |refine⟨_,_,_,_,_,_,ta,?_⟩
   |refine⟨_,_,_,tp,?_⟩
   |refine⟨_,_,_,_,_,_,dr,?_⟩
   |refine⟨(vB true,[TV.bx (fq ⟨T,p.ages,if f=true∧o.k=1 then gl p.cells o.c else p.cells,p.vols,p.next⟩)]),?_,?_,rfl⟩
   |refine⟨(vB true,[TV.bx (fq ⟨T,p.ages,if f=true∧o.k=1 then gl p.cells o.c else p.cells,p.vols,p.next⟩)]),?_,?_,⟨rfl,by first|rfl|trivial⟩⟩
   |exact rfl
   |exact⟨rfl,by first|rfl|trivial⟩
   |refine ai (by first|rfl|(rw[aP];rfl)) ?_
   |refine an (by first|rfl|(rw[aP];rfl)) ?_
theorem qL (p:Pool) (hS:cq p≤4194304) (k:Key):aa C fy [.bx (fq p),AY k] (vB (fM p k).2) [.bx (fq (fM p k).1)]:=by
 have hP:=g7 hS
 have ta:=yQ p.t k.b k.a (by omega)
 have tp:=Gf p.t k (by omega)
 obtain⟨T,b,hT⟩: ∃T b,bP p.t k=(T,b):=⟨_,_,rfl⟩
 obtain⟨o,f,hO⟩: ∃o f,r5 p.t k.b k.a=(o,f):=⟨_,_,rfl⟩
 have e:fM p k=if b=true then(⟨T,p.ages,if f=true∧o.k=1 then gl p.cells o.c else p.cells,p.vols,p.next⟩,true) else(p,false):=by
  unfold fM BE;rw[hT,hO]
 have hno:=Dw (t:=p.t) (k:=k)
 rw[hT] at tp hno
 rw[hO] at ta
 rw[e]
 refine(CP _ _ _ _ _ _ _ _ _ _ _ _ ?_).run
 cases b with
 |false=>
  have hno:T=p.t:=hno rfl
  subst hno
  rw[if_neg (by simp)]
  repeat' first
   |refine⟨_,_,_,_,_,_,ta,?_⟩
   |refine⟨_,_,_,tp,?_⟩
   |refine⟨(vB false,[TV.bx (fq p)]),?_,?_,rfl⟩
   |refine⟨(vB false,[TV.bx (fq p)]),?_,?_,⟨rfl,by first|rfl|trivial⟩⟩
   |exact rfl
   |exact⟨rfl,by first|rfl|trivial⟩
   |refine ai (by first|rfl|(rw[aP];rfl)) ?_
   |refine an (by first|rfl|(rw[aP];rfl)) ?_
 |true=>
  rw[if_pos rfl]
  cases f with
  |false=>
   rw[if_neg (by simp)]
   repeat' first
    |refine⟨_,_,_,_,_,_,ta,?_⟩
    |refine⟨_,_,_,tp,?_⟩
    |refine⟨(vB true,[TV.bx (fq ⟨T,p.ages,p.cells,p.vols,p.next⟩)]),?_,?_,rfl⟩
    |refine⟨(vB true,[TV.bx (fq ⟨T,p.ages,p.cells,p.vols,p.next⟩)]),?_,?_,⟨rfl,by first|rfl|trivial⟩⟩
    |exact rfl
    |exact⟨rfl,by first|rfl|trivial⟩
    |refine ai (by first|rfl|(rw[aP];rfl)) ?_
    |refine an (by first|rfl|(rw[aP];rfl)) ?_
  |true=>
   by_cases ho:o.k=1
   ·rw[if_pos ⟨rfl,ho⟩]
    have ce:cU o.k 1=true:=by rw[aP];exact decide_eq_true ho
    have fc:=EY p.cells o.c (by omega)
    repeat' first
     |refine⟨_,_,_,_,_,_,ta,?_⟩
     |refine⟨_,_,_,tp,?_⟩
     |refine ai ce ?_
     |refine⟨_,fc,?_⟩
     |refine⟨(vB true,[TV.bx (fq ⟨T,p.ages,gl p.cells o.c,p.vols,p.next⟩)]),?_,?_,rfl⟩
     |refine⟨(vB true,[TV.bx (fq ⟨T,p.ages,gl p.cells o.c,p.vols,p.next⟩)]),?_,?_,⟨rfl,by first|rfl|trivial⟩⟩
     |exact rfl
     |exact⟨rfl,by first|rfl|trivial⟩
     |refine ai (by first|rfl|(rw[aP];rfl)) ?_
     |refine an (by first|rfl|(rw[aP];rfl)) ?_
   ·rw[if_neg fun e=>ho e.2]
    have ce:cU o.k 1=false:=by rw[aP];exact decide_eq_false ho
    repeat' first
     |refine⟨_,_,_,_,_,_,ta,?_⟩
     |refine⟨_,_,_,tp,?_⟩
     |refine an ce ?_
     |refine⟨(vB true,[TV.bx (fq ⟨T,p.ages,p.cells,p.vols,p.next⟩)]),?_,?_,rfl⟩
     |refine⟨(vB true,[TV.bx (fq ⟨T,p.ages,p.cells,p.vols,p.next⟩)]),?_,?_,⟨rfl,by first|rfl|trivial⟩⟩
     |exact rfl
     |exact⟨rfl,by first|rfl|trivial⟩
     |refine ai (by first|rfl|(rw[aP];rfl)) ?_
     |refine an (by first|rfl|(rw[aP];rfl)) ?_
theorem Lj {l:List Vol} {s:ByteArray} (h:eP l s<0):gX l (eP l s)=none:=oc (by omega)
theorem E1 (p:Pool) (s:ByteArray) (b:Int) (hS:cq p≤4194304) (hz:s.size≤140737488355328):aa C wC [fX p,vS s,vI b] (vI (oP p s b)) []:=by
 have hP:=g7 hS
 have hva:=tU p s (by omega)
 have hvl:=Ic p s hS hz
 refine(Jb _ _ _ _ _ _ _ _ _ ?_).run
 unfold oP
 by_cases h1:By p s=true
 ·rw[if_pos h1] at hvl ⊢
  by_cases h2:eP p.vols s<0
  ·rw[if_pos h2] at hvl
   rw[Lj h2]
   repeat' first
    |refine⟨_,hvl,?_⟩
    |exact rfl
    |exact⟨rfl,by first|rfl|trivial⟩
    |refine ai (by first|rfl|(rw[aP];rfl)) ?_
    |refine an (by first|rfl|(rw[aP];rfl)) ?_
  ·rw[if_neg h2] at hvl
   obtain⟨v,hv⟩:=Li h2
   have hsz:=uU (rK (by unfold By at h1;simp only[Bool.and_eq_true] at h1;exact h1.1)) hv
   have hrv:rowAt (p.vols.map dx) (eP p.vols s)=some [iS v.name,iI v.age,iI v.size,iB v.fx]:=by rw[bR,hv];rfl
   have hin:=tQ b 0 (v.size-1)
   have hsub:cA v.size 1=v.size-1:=dg (by omega)
   rw[hv]
   simp only[]
   cases h3:v.fx with
   |true=>
    rw[h3] at hrv
    rw[if_pos rfl]
    repeat' first
     |refine⟨_,hvl,?_⟩
     |refine⟨_,hva,?_⟩
     |refine⟨_,_,_,_,hrv,?_⟩
     |exact rfl
     |exact⟨rfl,by first|rfl|trivial⟩
     |refine ai (by first|rfl|(rw[aP];rfl)) ?_
     |refine an (by first|rfl|(rw[aP];rfl)) ?_
   |false=>
    rw[h3] at hrv
    rw[if_neg (by simp)]
    cases h4:iK b 0 (v.size-1) with
    |true=>
     rw[h4] at hin
     rw[if_pos rfl]
     repeat' first
      |refine⟨_,hvl,?_⟩
      |refine⟨_,hva,?_⟩
      |refine⟨_,_,_,_,hrv,?_⟩
      |refine⟨_,(by rw[hsub];exact hin),?_⟩
      |exact rfl
      |exact⟨rfl,by first|rfl|trivial⟩
      |refine ai (by first|rfl|(rw[aP];rfl)) ?_
      |refine an (by first|rfl|(rw[aP];rfl)) ?_
    |false=>
     rw[h4] at hin
     rw[if_neg (by simp)]
     repeat' first
      |refine⟨_,hvl,?_⟩
      |refine⟨_,hva,?_⟩
      |refine⟨_,_,_,_,hrv,?_⟩
      |refine⟨_,(by rw[hsub];exact hin),?_⟩
      |exact rfl
      |exact⟨rfl,by first|rfl|trivial⟩
      |refine ai (by first|rfl|(rw[aP];rfl)) ?_
      |refine an (by first|rfl|(rw[aP];rfl)) ?_
 ·rw[if_neg h1] at hvl ⊢
  repeat' first
   |refine⟨_,hvl,?_⟩
   |exact rfl
   |exact⟨rfl,by first|rfl|trivial⟩
   |refine ai (by first|rfl|(rw[aP];rfl)) ?_
   |refine an (by first|rfl|(rw[aP];rfl)) ?_
theorem DO (p:Pool) (s:ByteArray) (b:Int) (hS:cq p≤4194304) (hz:s.size≤140737488355328):aa C tN [fX p,vS s,vI b,vB true] (Z9 (eP p.vols s,oP p s b)) []:=by
 have hP:=g7 hS
 have hva:=B1 p s (by omega)
 have hok:=yN p hS
 have hnm:=(C3 s hz (q9 s)).2 rfl
 refine(G0 _ _ _ _ _ _ _ _ _ _ ?_).run
 unfold oP By
 cases h0:m4 p with
 |false=>
  rw[h0] at hok
  repeat' first
   |refine⟨_,hva,?_⟩
   |refine⟨_,hok,?_⟩
   |exact rfl
   |exact⟨rfl,by first|rfl|trivial⟩
   |refine ai (by first|rfl|(rw[aP];rfl)) ?_
   |refine an (by first|rfl|(rw[aP];rfl)) ?_
 |true=>
 rw[h0] at hok
 cases h1:q9 s with
 |false=>
  rw[h1] at hnm
  repeat' first
   |refine⟨_,hva,?_⟩
   |refine⟨_,hok,?_⟩
   |refine⟨_,hnm,?_⟩
   |exact rfl
   |exact⟨rfl,by first|rfl|trivial⟩
   |refine ai (by first|rfl|(rw[aP];rfl)) ?_
   |refine an (by first|rfl|(rw[aP];rfl)) ?_
 |true=>
  rw[h1] at hnm
  rw[if_pos (show(true&&true)=true from rfl)]
  by_cases h2:eP p.vols s<0
  ·have cl:bK (eP p.vols s) 0=true:=by rw[eE];exact decide_eq_true h2
   rw[Lj h2]
   repeat' first
    |refine⟨_,hva,?_⟩
    |refine⟨_,hok,?_⟩
    |refine⟨_,hnm,?_⟩
    |refine ai cl ?_
    |exact rfl
    |exact⟨rfl,by first|rfl|trivial⟩
    |refine ai (by first|rfl|(rw[aP];rfl)) ?_
    |refine an (by first|rfl|(rw[aP];rfl)) ?_
  ·have cl:bK (eP p.vols s) 0=false:=by rw[eE];exact decide_eq_false h2
   obtain⟨v,hv⟩:=Li h2
   have hsz:=uU (rK h0) hv
   have hrv:rowAt (p.vols.map dx) (eP p.vols s)=some [iS v.name,iI v.age,iI v.size,iB v.fx]:=by rw[bR,hv];rfl
   have hin:=qb b 0 (v.size-1)
   have hsub:cA v.size 1=v.size-1:=dg (by omega)
   rw[hv]
   simp only[]
   cases h3:v.fx with
   |true=>
    rw[h3] at hrv
    rw[if_pos rfl]
    repeat' first
     |refine⟨_,hva,?_⟩
     |refine⟨_,hok,?_⟩
     |refine⟨_,hnm,?_⟩
     |refine an cl ?_
     |refine⟨_,_,_,_,hrv,?_⟩
     |exact rfl
     |exact⟨rfl,by first|rfl|trivial⟩
     |refine ai (by first|rfl|(rw[aP];rfl)) ?_
     |refine an (by first|rfl|(rw[aP];rfl)) ?_
   |false=>
    rw[h3] at hrv
    rw[if_neg (by simp)]
    cases h4:iK b 0 (v.size-1) with
    |true=>
     rw[h4] at hin
     rw[if_pos rfl]
     repeat' first
      |refine⟨_,hva,?_⟩
      |refine⟨_,hok,?_⟩
      |refine⟨_,hnm,?_⟩
      |refine an cl ?_
      |refine⟨_,_,_,_,hrv,?_⟩
      |refine⟨_,(by rw[hsub];exact hin),?_⟩
      |exact rfl
      |exact⟨rfl,by first|rfl|trivial⟩
      |refine ai (by first|rfl|(rw[aP];rfl)) ?_
      |refine an (by first|rfl|(rw[aP];rfl)) ?_
    |false=>
     rw[h4] at hin
     rw[if_neg (by simp)]
     repeat' first
      |refine⟨_,hva,?_⟩
      |refine⟨_,hok,?_⟩
      |refine⟨_,hnm,?_⟩
      |refine an cl ?_
      |refine⟨_,_,_,_,hrv,?_⟩
      |refine⟨_,(by rw[hsub];exact hin),?_⟩
      |exact rfl
      |exact⟨rfl,by first|rfl|trivial⟩
      |refine ai (by first|rfl|(rw[aP];rfl)) ?_
      |refine an (by first|rfl|(rw[aP];rfl)) ?_
theorem CO (p:Pool) (hS:cq p≤4194304) (i b:Int) (v:Vol) (hv:gX p.vols i=some v):aa C r6 [.bx (fq p),vI i,vI b] (vB (cQ p v.age b).2) [.bx (fq (cQ p v.age b).1)]:=by
 have hP:=g7 hS
 have hrv:rowAt (p.vols.map dx) i=some [iS v.name,iI v.age,iI v.size,iB v.fx]:=by rw[bR,hv];rfl
 have sa:=DK p.t p.ages b v.age (by omega) (by omega)
 have ta:=yP p.t b v.age (by omega)
 have pg:=yS p hS ⟨b,v.age,2,0,0⟩
 have pn:=yS p hS ⟨b,v.age,0,0,0⟩
 obtain⟨a,f,hA⟩: ∃a f,qh p.t p.ages b v.age=(a,f):=⟨_,_,rfl⟩
 obtain⟨o,q,hO⟩: ∃o q,r5 p.t b v.age=(o,q):=⟨_,_,rfl⟩
 have e:cQ p v.age b=if f=true∧a.k=1 then fM p ⟨b,v.age,2,0,0⟩ else if q=true then fM p ⟨b,v.age,0,0,0⟩ else(p,true):=by
  unfold cQ;rw[hA,hO]
 rw[hA] at sa
 rw[hO] at ta
 rw[e]
 generalize fM p ⟨b,v.age,2,0,0⟩=X at*
 generalize fM p ⟨b,v.age,0,0,0⟩=Y at*
 refine(Fo _ _ _ _ _ _ _ _ _ ?_).run
 by_cases h1:f=true∧a.k=1
 ·obtain⟨rfl,ha⟩:=h1
  have ce:cU a.k 1=true:=by rw[aP];exact decide_eq_true ha
  rw[if_pos ⟨rfl,ha⟩]
  repeat' first
   |refine⟨_,_,_,_,hrv,?_⟩
   |refine⟨_,_,_,_,_,_,sa,?_⟩
   |refine⟨_,_,_,_,_,_,ta,?_⟩
   |refine⟨_,_,_,_,_,_,_,pg,?_⟩
   |refine ai ce ?_
   |refine⟨(vB X.2,[TV.bx (fq X.1)]),?_,?_,rfl⟩
   |refine⟨(vB X.2,[TV.bx (fq X.1)]),?_,?_,⟨rfl,by first|rfl|trivial⟩⟩
   |exact rfl
   |exact⟨rfl,by first|rfl|trivial⟩
   |refine ai (by first|rfl|(rw[aP];rfl)) ?_
   |refine an (by first|rfl|(rw[aP];rfl)) ?_
 ·rw[if_neg h1]
  have ce:f=true→cU a.k 1=false:=fun hf=>by rw[aP];exact decide_eq_false fun ha=>h1 ⟨hf,ha⟩
  cases f with
  |false=>
   cases q with
   |false=>
    rw[if_neg (by simp)]
    repeat' first
     |refine⟨_,_,_,_,hrv,?_⟩
     |refine⟨_,_,_,_,_,_,sa,?_⟩
     |refine⟨_,_,_,_,_,_,ta,?_⟩
     |refine⟨_,_,_,_,_,_,_,pn,?_⟩
     |refine⟨(vB true,[TV.bx (fq p)]),?_,?_,rfl⟩
     |refine⟨(vB true,[TV.bx (fq p)]),?_,?_,⟨rfl,by first|rfl|trivial⟩⟩
     |exact rfl
     |exact⟨rfl,by first|rfl|trivial⟩
     |refine ai (by first|rfl|(rw[aP];rfl)) ?_
     |refine an (by first|rfl|(rw[aP];rfl)) ?_
   |true=>
    rw[if_pos rfl]
    repeat' first
     |refine⟨_,_,_,_,hrv,?_⟩
     |refine⟨_,_,_,_,_,_,sa,?_⟩
     |refine⟨_,_,_,_,_,_,ta,?_⟩
     |refine⟨_,_,_,_,_,_,_,pn,?_⟩
     |refine⟨(vB Y.2,[TV.bx (fq Y.1)]),?_,?_,rfl⟩
     |refine⟨(vB Y.2,[TV.bx (fq Y.1)]),?_,?_,⟨rfl,by first|rfl|trivial⟩⟩
     |exact rfl
     |exact⟨rfl,by first|rfl|trivial⟩
     |refine ai (by first|rfl|(rw[aP];rfl)) ?_
     |refine an (by first|rfl|(rw[aP];rfl)) ?_
  |true=>
   have ce:=ce rfl
   cases q with
   |false=>
    rw[if_neg (by simp)]
    repeat' first
     |refine⟨_,_,_,_,hrv,?_⟩
     |refine⟨_,_,_,_,_,_,sa,?_⟩
     |refine⟨_,_,_,_,_,_,ta,?_⟩
     |refine⟨_,_,_,_,_,_,_,pn,?_⟩
     |refine an ce ?_
     |refine⟨(vB true,[TV.bx (fq p)]),?_,?_,rfl⟩
     |refine⟨(vB true,[TV.bx (fq p)]),?_,?_,⟨rfl,by first|rfl|trivial⟩⟩
     |exact rfl
     |exact⟨rfl,by first|rfl|trivial⟩
     |refine ai (by first|rfl|(rw[aP];rfl)) ?_
     |refine an (by first|rfl|(rw[aP];rfl)) ?_
   |true=>
    rw[if_pos rfl]
    repeat' first
     |refine⟨_,_,_,_,hrv,?_⟩
     |refine⟨_,_,_,_,_,_,sa,?_⟩
     |refine⟨_,_,_,_,_,_,ta,?_⟩
     |refine⟨_,_,_,_,_,_,_,pn,?_⟩
     |refine an ce ?_
     |refine⟨(vB Y.2,[TV.bx (fq Y.1)]),?_,?_,rfl⟩
     |refine⟨(vB Y.2,[TV.bx (fq Y.1)]),?_,?_,⟨rfl,by first|rfl|trivial⟩⟩
     |exact rfl
     |exact⟨rfl,by first|rfl|trivial⟩
     |refine ai (by first|rfl|(rw[aP];rfl)) ?_
     |refine an (by first|rfl|(rw[aP];rfl)) ?_
theorem yF (p:Pool) (hS:cq p≤4194304) (i b:Int) (v:Vol) (hv:gX p.vols i=some v):aa C qa [.bx (fq p),vI i,vI b] (vB (cQ p v.age b).2) [.bx (fq (cQ p v.age b).1)]:=by
 have hP:=g7 hS
 have hrv:rowAt (p.vols.map dx) i=some [iS v.name,iI v.age,iI v.size,iB v.fx]:=by rw[bR,hv];rfl
 have sa:=DL p.t p.ages b v.age (by omega) (by omega)
 have ta:=yQ p.t b v.age (by omega)
 have pg:=qL p hS ⟨b,v.age,2,0,0⟩
 have pn:=qL p hS ⟨b,v.age,0,0,0⟩
 obtain⟨a,f,hA⟩: ∃a f,qh p.t p.ages b v.age=(a,f):=⟨_,_,rfl⟩
 obtain⟨o,q,hO⟩: ∃o q,r5 p.t b v.age=(o,q):=⟨_,_,rfl⟩
 have e:cQ p v.age b=if f=true∧a.k=1 then fM p ⟨b,v.age,2,0,0⟩ else if q=true then fM p ⟨b,v.age,0,0,0⟩ else(p,true):=by
  unfold cQ;rw[hA,hO]
 rw[hA] at sa
 rw[hO] at ta
 rw[e]
 generalize fM p ⟨b,v.age,2,0,0⟩=X at*
 generalize fM p ⟨b,v.age,0,0,0⟩=Y at*
 refine(Ci _ _ _ _ _ _ _ _ _ ?_).run
 by_cases h1:f=true∧a.k=1
 ·obtain⟨rfl,ha⟩:=h1
  have ce:cU a.k 1=true:=by rw[aP];exact decide_eq_true ha
  rw[if_pos ⟨rfl,ha⟩]
  repeat' first
   |refine⟨_,_,_,_,hrv,?_⟩
   |refine⟨_,_,_,_,_,_,sa,?_⟩
   |refine⟨_,_,_,_,_,_,ta,?_⟩
   |refine⟨_,_,_,_,_,_,_,pg,?_⟩
   |refine ai ce ?_
   |refine⟨(vB X.2,[TV.bx (fq X.1)]),?_,?_,rfl⟩
   |refine⟨(vB X.2,[TV.bx (fq X.1)]),?_,?_,⟨rfl,by first|rfl|trivial⟩⟩
   |exact rfl
   |exact⟨rfl,by first|rfl|trivial⟩
   |refine ai (by first|rfl|(rw[aP];rfl)) ?_
   |refine an (by first|rfl|(rw[aP];rfl)) ?_
 ·rw[if_neg h1]
  have ce:f=true→cU a.k 1=false:=fun hf=>by rw[aP];exact decide_eq_false fun ha=>h1 ⟨hf,ha⟩
  cases f with
  |false=>
   cases q with
   |false=>
    rw[if_neg (by simp)]
    repeat' first
     |refine⟨_,_,_,_,hrv,?_⟩
     |refine⟨_,_,_,_,_,_,sa,?_⟩
     |refine⟨_,_,_,_,_,_,ta,?_⟩
     |refine⟨_,_,_,_,_,_,_,pn,?_⟩
     |refine⟨(vB true,[TV.bx (fq p)]),?_,?_,rfl⟩
     |refine⟨(vB true,[TV.bx (fq p)]),?_,?_,⟨rfl,by first|rfl|trivial⟩⟩
     |exact rfl
     |exact⟨rfl,by first|rfl|trivial⟩
     |refine ai (by first|rfl|(rw[aP];rfl)) ?_
     |refine an (by first|rfl|(rw[aP];rfl)) ?_
   |true=>
    rw[if_pos rfl]
    repeat' first
     |refine⟨_,_,_,_,hrv,?_⟩
     |refine⟨_,_,_,_,_,_,sa,?_⟩
     |refine⟨_,_,_,_,_,_,ta,?_⟩
     |refine⟨_,_,_,_,_,_,_,pn,?_⟩
     |refine⟨(vB Y.2,[TV.bx (fq Y.1)]),?_,?_,rfl⟩
     |refine⟨(vB Y.2,[TV.bx (fq Y.1)]),?_,?_,⟨rfl,by first|rfl|trivial⟩⟩
     |exact rfl
     |exact⟨rfl,by first|rfl|trivial⟩
     |refine ai (by first|rfl|(rw[aP];rfl)) ?_
     |refine an (by first|rfl|(rw[aP];rfl)) ?_
  |true=>
   have ce:=ce rfl
   cases q with
   |false=>
    rw[if_neg (by simp)]
    repeat' first
     |refine⟨_,_,_,_,hrv,?_⟩
     |refine⟨_,_,_,_,_,_,sa,?_⟩
     |refine⟨_,_,_,_,_,_,ta,?_⟩
     |refine⟨_,_,_,_,_,_,_,pn,?_⟩
     |refine an ce ?_
     |refine⟨(vB true,[TV.bx (fq p)]),?_,?_,rfl⟩
     |refine⟨(vB true,[TV.bx (fq p)]),?_,?_,⟨rfl,by first|rfl|trivial⟩⟩
     |exact rfl
     |exact⟨rfl,by first|rfl|trivial⟩
     |refine ai (by first|rfl|(rw[aP];rfl)) ?_
     |refine an (by first|rfl|(rw[aP];rfl)) ?_
   |true=>
    rw[if_pos rfl]
    repeat' first
     |refine⟨_,_,_,_,hrv,?_⟩
     |refine⟨_,_,_,_,_,_,sa,?_⟩
     |refine⟨_,_,_,_,_,_,ta,?_⟩
     |refine⟨_,_,_,_,_,_,_,pn,?_⟩
     |refine an ce ?_
     |refine⟨(vB Y.2,[TV.bx (fq Y.1)]),?_,?_,rfl⟩
     |refine⟨(vB Y.2,[TV.bx (fq Y.1)]),?_,?_,⟨rfl,by first|rfl|trivial⟩⟩
     |exact rfl
     |exact⟨rfl,by first|rfl|trivial⟩
     |refine ai (by first|rfl|(rw[aP];rfl)) ?_
     |refine an (by first|rfl|(rw[aP];rfl)) ?_
theorem Ih (p:Pool) (s:ByteArray) (n:Int) (hS:cq p≤1048576) (hz:s.size≤1048576):aa C ei [fX p,vS s,vI n] (Sm (me p s n)) []:=by
 have hS':cq p≤4194304:=by omega
 have hP:=g7 hS'
 have hcp:=ru p hS'
 have hva:=tU p s (by omega)
 have hbl:=E1 p s 0 hS' (by omega)
 have hin:=tQ n 1 12
 obtain⟨Z,hZe⟩: ∃Z,Z=me p s n:=⟨_,rfl⟩
 rw[←hZe]
 refine(MA _ _ _ _ _ _ _ _ _ ?_).run
 by_cases h1:oP p s 0=0
 ·rw[h1] at hbl
  obtain⟨v,hv,hfm,_⟩:=Hy h1
  have hvz:=uU (rK (by unfold By at hfm;simp only[Bool.and_eq_true] at hfm;exact hfm.1)) hv
  have hrv:rowAt (p.vols.map dx) (eP p.vols s)=some [iS v.name,iI v.age,iI v.size,iB v.fx]:=by rw[bR,hv];rfl
  cases h2:iK n 1 12 with
  |false=>
   rw[h2] at hin
   have e:Z=(p,4):=by rw[hZe];unfold me;rw[if_pos h1,if_neg (by rw[h2];simp)]
   rw[e]
   repeat' first
    |refine⟨_,_,_,_,_,_,hcp,?_⟩
    |refine⟨_,hbl,?_⟩
    |refine⟨_,hin,?_⟩
    |exact rfl
    |exact⟨rfl,by first|rfl|trivial⟩
    |refine ai (by first|rfl|(rw[aP];rfl)) ?_
    |refine an (by first|rfl|(rw[aP];rfl)) ?_
  |true=>
  rw[h2] at hin
  have hn:1≤n∧n≤12:=by unfold iK at h2;simpa using h2
  have hZ:HH p (uY (rM v.age (v.size-n).toNat (v.size-1) p).1 (eP p.vols s) n) (rM v.age (v.size-n).toNat (v.size-1) p).2=Z:=by
   rw[hZe];unfold me;rw[if_pos h1,if_pos h2,hv]
  clear hZe
  have hsb:cA v.size 1=v.size-1:=dg (by omega)
  have fin: ∀(ok:Bool) (X:Pool),cq X≤4000000→X.vols=p.vols→HH p (uY X (eP p.vols s) n) ok=Z→ ∀Q:QV,Q (Sm Z) []→ ∃(s62:ByteArray) (n63:Int) (n64:Int) (b65:Bool),rowAt (X.vols.map dx) (eP p.vols s)=some [iS s62,iI n63,iI n64,iB b65]∧(∃(s66:ByteArray) (n67:Int) (n68:Int) (b69:Bool),rowAt (X.vols.map dx) (eP p.vols s)=some [iS s66,iI n67,iI n68,iB b69]∧(∃(l70:RR) (l71:RR) (l72:RR) (l73:RR) (l74:RR) (n75:Int) (n76:Int),aa C qk ([fX p,TV.ag [TC.sub 1 (X.t.lows.map bL),TC.sub 1 (X.t.nodes.map aW),TC.sub 2 (X.ages.map dM),TC.sub 3 (X.cells.map cK),TC.sub 4 (setRow (X.vols.map dx) (eP p.vols s) 2 [iI n]),iI X.next],TV.c (iB ok)]) (TV.tu [(1,[TC.sub 1 l70,TC.sub 1 l71,TC.sub 2 l72,TC.sub 3 l73,TC.sub 4 l74,iI n75]),(0,[iI n76])]) []∧(Q (TV.tu [(1,[TC.sub 1 l70,TC.sub 1 l71,TC.sub 2 l72,TC.sub 3 l73,TC.sub 4 l74,iI n75]),(0,[iI n76])]) ([])))):=by
   intro ok X hX hXv hZ Q hQ
   have hrx:rowAt (X.vols.map dx) (eP p.vols s)=some [iS v.name,iI v.age,iI v.size,iB v.fx]:=by rw[hXv];exact hrv
   have en:=E0 p (uY X (eP p.vols s) n) ok hS' (by rw[Rj];omega)
   have e1:setRow (X.vols.map dx) (eP p.vols s) 2 [iI n]=(uY X (eP p.vols s) n).vols.map dx:=Bu
   rw[hZ] at en
   rw[e1]
   exact⟨_,_,_,_,hrx,_,_,_,_,hrx,_,_,_,_,_,_,_,en,hQ⟩
  have Q0:(fun r fs=>r=Sm Z∧fs=([]:List TV)) (Sm Z) []:=⟨rfl,by first|rfl|trivial⟩
  have bad:(p,(6:Int))=Z→ ∀(b:Int) (X:Pool),cq X≤4000000→X.vols=p.vols→ah C ei fz 4 0 (jf n (eP p.vols s) false b (p.t.lows.map bL) (p.t.nodes.map aW) (p.ages.map dM) (p.cells.map cK) (p.vols.map dx) p.next (X.t.lows.map bL) (X.t.nodes.map aW) (X.ages.map dM) (X.cells.map cK) X.next (X.vols.map dx)) (fun x st=>aF C ei fz x st fun r fs=>r=Sm Z∧fs=[]):=by
   intro hZ b X hX hXv
   by_cases h:n≤b
   ·exact pX _ _ _ _ _ _ _ _ _ _ _ _ _ _ _ _ _ (ai (by rw[fm];exact decide_eq_true h) (an rfl (Io _ _ _ _ _ _ _ _ _ _ _ _ _ _ _ _ _ (fin false X hX hXv hZ (fun r fs=>r=Sm Z∧fs=[]) Q0))))
   ·exact pX _ _ _ _ _ _ _ _ _ _ _ _ _ _ _ _ _ (an (by rw[fm];exact decide_eq_false h) (z7 _ _ _ _ _ _ _ _ _ _ _ _ _ _ _ _ _ (fin false X hX hXv hZ (fun r fs=>r=Sm Z∧fs=[]) Q0)))
  have key: ∀(k:Nat) (b:Int) (X:Pool),k=(b+1-n).toNat→ -1≤b→b≤12→cq X+300*k≤4000000→X.vols=p.vols→HH p (uY (rM v.age k b X).1 (eP p.vols s) n) (rM v.age k b X).2=Z→ah C ei fz 4 0 (jf n (eP p.vols s) true b (p.t.lows.map bL) (p.t.nodes.map aW) (p.ages.map dM) (p.cells.map cK) (p.vols.map dx) p.next (X.t.lows.map bL) (X.t.nodes.map aW) (X.ages.map dM) (X.cells.map cK) X.next (X.vols.map dx)) (fun x st=>aF C ei fz x st fun r fs=>r=Sm Z∧fs=[]):=by
   intro k
   induction k with
   |zero=>
    intro b X hk hb1 hb hX hXv hZ
    have h: ¬n≤b:=by omega
    have hZ:HH p (uY X (eP p.vols s) n) true=Z:=hZ
    exact pX _ _ _ _ _ _ _ _ _ _ _ _ _ _ _ _ _ (an (by rw[fm];exact decide_eq_false h) (z7 _ _ _ _ _ _ _ _ _ _ _ _ _ _ _ _ _ (fin true X (by omega) hXv hZ (fun r fs=>r=Sm Z∧fs=[]) Q0)))
   |succ k ih=>
    intro b X hk hb1 hb hX hXv hZ
    ·have h:n≤b:=by omega
     have hsub:cA b 1=b-1:=dg (by omega)
     have hr:=(BF X v.age b).2.1
     have hdz:=EP X v.age b
     have di:=CO X (by omega) (eP p.vols s) b v (by rw[hXv];exact hv)
     unfold rM at hZ
     rw[show(if(cQ X v.age b).2=true then rM v.age k (b-1) (cQ X v.age b).1 else(X,false))=if(cQ X v.age b).2=true then rM v.age k (b-1) (cQ X v.age b).1 else(X,false) from rfl] at hZ
     refine pX _ _ _ _ _ _ _ _ _ _ _ _ _ _ _ _ _ (ai (by rw[fm];exact decide_eq_true h) (ai rfl ⟨_,_,_,_,_,_,_,di,?_⟩))
     rw[hsub]
     cases hd:(cQ X v.age b).2 with
     |false=>
      rw[hd] at hZ
      exact bad hZ (b-1) (cQ X v.age b).1 (by omega) (by rw[hr];exact hXv)
     |true=>
      rw[hd] at hZ
      exact ih (b-1) (cQ X v.age b).1 (by omega) (by omega) (by omega) (by omega) (by rw[hr];exact hXv) hZ
  have k0:=key (v.size-n).toNat (v.size-1) p (by omega) (by omega) (by omega) (by omega) rfl hZ
  rw[←hsb] at k0
  repeat' first
   |exact k0
   |refine⟨_,_,_,_,_,_,hcp,?_⟩
   |refine⟨_,hbl,?_⟩
   |refine⟨_,hin,?_⟩
   |refine⟨_,hva,?_⟩
   |refine⟨_,_,_,_,hrv,?_⟩
   |exact rfl
   |exact⟨rfl,by first|rfl|trivial⟩
   |refine ai (by first|rfl|(rw[aP];rfl)) ?_
   |refine an (by first|rfl|(rw[aP];rfl)) ?_
 ·have c1:cU (oP p s 0) 0=false:=by rw[aP];exact decide_eq_false h1
  have c2:(!cU (oP p s 0) 0)=true:=by rw[c1];rfl
  have e:Z=(p,oP p s 0):=by rw[hZe];unfold me;rw[if_neg h1]
  rw[e]
  repeat' first
   |refine⟨_,_,_,_,_,_,hcp,?_⟩
   |refine⟨_,hbl,?_⟩
   |refine an c1 ?_
   |refine ai c2 ?_
   |exact rfl
   |exact⟨rfl,by first|rfl|trivial⟩
   |refine ai (by first|rfl|(rw[aP];rfl)) ?_
   |refine an (by first|rfl|(rw[aP];rfl)) ?_
theorem yT (p:Pool) (s:ByteArray) (n:Int) (hS:cq p≤1048576) (hz:s.size≤1048576):aa C eD [fX p,vS s,vI n] (Sm (me p s n)) []:=by
 have hS':cq p≤4194304:=by omega
 have hP:=g7 hS'
 have hcp:=qD p hS'
 have hva:=B1 p s (by omega)
 have hbl:=DO p s 0 hS' (by omega)
 have hin:=qb n 1 12
 obtain⟨Z,hZe⟩: ∃Z,Z=me p s n:=⟨_,rfl⟩
 rw[←hZe]
 refine(MQ _ _ _ _ _ _ _ _ _ ?_).run
 by_cases h1:oP p s 0=0
 ·rw[h1] at hbl
  obtain⟨v,hv,hfm,_⟩:=Hy h1
  have hvz:=uU (rK (by unfold By at hfm;simp only[Bool.and_eq_true] at hfm;exact hfm.1)) hv
  have hrv:rowAt (p.vols.map dx) (eP p.vols s)=some [iS v.name,iI v.age,iI v.size,iB v.fx]:=by rw[bR,hv];rfl
  cases h2:iK n 1 12 with
  |false=>
   rw[h2] at hin
   have e:Z=(p,4):=by rw[hZe];unfold me;rw[if_pos h1,if_neg (by rw[h2];simp)]
   rw[e]
   repeat' first
    |refine⟨_,_,_,_,_,_,hcp,?_⟩
    |refine⟨_,_,hbl,?_⟩
    |refine⟨_,hin,?_⟩
    |exact rfl
    |exact⟨rfl,by first|rfl|trivial⟩
    |refine ai (by first|rfl|(rw[aP];rfl)) ?_
    |refine an (by first|rfl|(rw[aP];rfl)) ?_
  |true=>
  rw[h2] at hin
  have hn:1≤n∧n≤12:=by unfold iK at h2;simpa using h2
  have hZ:HH p (uY (rM v.age (v.size-n).toNat (v.size-1) p).1 (eP p.vols s) n) (rM v.age (v.size-n).toNat (v.size-1) p).2=Z:=by
   rw[hZe];unfold me;rw[if_pos h1,if_pos h2,hv]
  clear hZe
  have hsb:cA v.size 1=v.size-1:=dg (by omega)
  have key: ∀(k:Nat) (b:Int) (X:Pool),k=(b+1-n).toNat→ -1≤b→b≤12→cq X+300*k≤4000000→X.vols=p.vols→HH p (uY (rM v.age k b X).1 (eP p.vols s) n) (rM v.age k b X).2=Z→ah C eD jW 4 0 (jX n (eP p.vols s) b (p.t.lows.map bL) (p.t.nodes.map aW) (p.ages.map dM) (p.cells.map cK) (p.vols.map dx) p.next X.next (X.t.lows.map bL) (X.t.nodes.map aW) (X.ages.map dM) (X.cells.map cK) (X.vols.map dx)) (fun x st=>aF C eD jW x st fun r fs=>r=Sm Z∧fs=[]):=by
   intro k
   induction k with
   |zero=>
    intro b X hk hb1 hb hX hXv hZ
    have h: ¬n≤b:=by omega
    have hZ:HH p (uY X (eP p.vols s) n) true=Z:=hZ
    have hrx:rowAt (X.vols.map dx) (eP p.vols s)=some [iS v.name,iI v.age,iI v.size,iB v.fx]:=by rw[hXv];exact hrv
    have en:=DN p (uY X (eP p.vols s) n) true hS' (by rw[Rj];omega)
    have e1:setRow (X.vols.map dx) (eP p.vols s) 2 [iI n]=(uY X (eP p.vols s) n).vols.map dx:=Bu
    rw[hZ] at en
    refine Ag _ _ _ _ _ _ _ _ _ _ _ _ _ _ _ _ (an (by rw[fm];exact decide_eq_false h) (II _ _ _ _ _ _ _ _ _ _ _ _ _ _ _ _ _ ?_))
    rw[e1]
    exact⟨_,_,_,_,hrx,_,_,_,_,hrx,_,_,_,_,_,_,_,en,rfl,rfl⟩
   |succ k ih=>
    intro b X hk hb1 hb hX hXv hZ
    ·have h:n≤b:=by omega
     have hsub:cA b 1=b-1:=dg (by omega)
     have hr:=(BF X v.age b).2.1
     have hdz:=EP X v.age b
     have di:=yF X (by omega) (eP p.vols s) b v (by rw[hXv];exact hv)
     unfold rM at hZ
     rw[show(if(cQ X v.age b).2=true then rM v.age k (b-1) (cQ X v.age b).1 else(X,false))=if(cQ X v.age b).2=true then rM v.age k (b-1) (cQ X v.age b).1 else(X,false) from rfl] at hZ
     refine Ag _ _ _ _ _ _ _ _ _ _ _ _ _ _ _ _ (ai (by rw[fm];exact decide_eq_true h) ⟨_,_,_,_,_,_,_,di,?_⟩)
     cases hd:(cQ X v.age b).2 with
     |false=>
      rw[hd] at hZ
      have hZ:(p,(6:Int))=Z:=hZ
      exact ai rfl ⟨_,_,_,_,_,_,hcp,IG _ _ _ _ _ _ _ _ _ _ _ _ _ _ _ _ _ _ _ ⟨by rw[←hZ],rfl⟩⟩
     |true=>
      rw[hd] at hZ
      rw[hsub]
      exact an rfl (ih (b-1) (cQ X v.age b).1 (by omega) (by omega) (by omega) (by omega) (by rw[hr];exact hXv) hZ)
  have k0:=key (v.size-n).toNat (v.size-1) p (by omega) (by omega) (by omega) (by omega) rfl hZ
  rw[←hsb] at k0
  repeat' first
   |exact k0
   |refine⟨_,_,_,_,_,_,hcp,?_⟩
   |refine⟨_,_,hbl,?_⟩
   |refine⟨_,hin,?_⟩
   |refine⟨_,hva,?_⟩
   |refine⟨_,_,_,_,hrv,?_⟩
   |exact rfl
   |exact⟨rfl,by first|rfl|trivial⟩
   |refine ai (by first|rfl|(rw[aP];rfl)) ?_
   |refine an (by first|rfl|(rw[aP];rfl)) ?_
 ·have c1:cU (oP p s 0) 0=false:=by rw[aP];exact decide_eq_false h1
  have c2:(!cU (oP p s 0) 0)=true:=by rw[c1];rfl
  have e:Z=(p,oP p s 0):=by rw[hZe];unfold me;rw[if_neg h1]
  rw[e]
  repeat' first
   |refine⟨_,_,_,_,_,_,hcp,?_⟩
   |refine⟨_,_,hbl,?_⟩
   |refine an c1 ?_
   |refine ai c2 ?_
   |exact rfl
   |exact⟨rfl,by first|rfl|trivial⟩
   |refine ai (by first|rfl|(rw[aP];rfl)) ?_
   |refine an (by first|rfl|(rw[aP];rfl)) ?_
attribute [local semireducible] HE in
theorem ZJ (l:List VH):ax (l.map Pf) 0 (HE (Int.ofNat (List.length (l.map Pf))) 200)=(l.take 200).map Pf∧cD 0 (HE (Int.ofNat (List.length (l.map Pf))) 200) (Int.ofNat (List.length (l.map Pf)))=true:=by
 rw[List.length_map]
 have hm:HE (Int.ofNat l.length) 200=((min l.length 200:Nat):Int):=by
  unfold HE
  rw[Int.ofNat_eq_natCast]
  split<;>omega
 rw[hm,ct,Br]
 refine⟨?_,decide_eq_true (by simp only[Int.ofNat_eq_natCast];omega)⟩
 rw[Int.toNat_natCast,show(0:Int).toNat=0 from rfl,List.drop_zero]
 by_cases h:l.length≤200
 ·rw[List.take_of_length_le (by omega),List.take_of_length_le h]
 ·rw[show min l.length 200=200 from by omega]
theorem C6:cU 3 0=false:=by simp
theorem V4:cU 10 0=false:=by simp
def DP:Nat→Int→ByteArray→ByteArray
 |0,_,out=>out
 |n+1,k,out=>if k≤0 then out else DP n (bB .i64 k 10) (Mb (A6 [sr .u8 (48+we k 10)]) out)
def Tq (k:Int):ByteArray:=if k≤0 then⟨#[109,48]⟩ else Mb ⟨#[109]⟩ (DP 19 k Zi)
attribute [local semireducible] qo A6 Mb in
theorem Uf (n:Int):qo [[TC.sc (.int .u8 n)]]=some [n]:=rfl
attribute [local semireducible] A6 in
theorem V5 (n:Int):(A6 [n]).size=1:=rfl
attribute [local semireducible] Mb in
theorem Ug (a b:ByteArray):(Mb a b).size=a.size+b.size:=by show(a++b).size=_;simp
attribute [local semireducible] bB in
theorem Tr {a b:Int} (h0:0≤a) (h1:a≤9223372036854775807):bB .i64 a 10=a/10:=by
 show IntKind.i64.wrap (a.tdiv 10)=_
 rw[Int.tdiv_eq_ediv_of_nonneg h0]
 exact IntWalk.i64_in _ (by omega)
theorem SA (n:Nat) (k:Int) (out:ByteArray) (h:k≤0):DP n k out=out:=by cases n<;>simp[DP,h]
theorem PB (k:Int) (hk:k≤2305843009213693952):aa C eZ [vI k] (vS (Tq k)) []:=by
 refine(Iq _ _ ?_).run
 unfold Tq
 simp only[fm,bF]
 by_cases h:k≤0
 ·rw[if_pos h,if_pos h];exact⟨rfl,by first|rfl|trivial⟩
 ·rw[if_neg h,if_neg h]
  have key: ∀(F:ByteArray) (n:Nat) (k':Int) (out:ByteArray),k'<10 ^ n→k'≤2305843009213693952→out.size+n≤100→DP n k' out=F→ah C eZ qc 4 0 (nc k' out) (fun u st=>aF C eZ qc u st fun r fs=>r=vS (Mb ⟨#[109]⟩ F)∧fs=[]):=by
   intro F n
   induction n with
   |zero=>
    intro k' out h1 h2 h3 h4
    refine qF _ _ _ (an (by simp at h1 ⊢;omega) (vG _ _ _ _ ?_))
    simp only[DP] at h4
    subst h4
    refine ai (cY (by simp only[natAdd,FV];omega)) ⟨rfl,by first|rfl|trivial⟩
   |succ n ih=>
    intro k' out h1 h2 h3 h4
    by_cases h0:k'≤0
    ·rw[SA _ _ _ h0] at h4
     subst h4
     exact qF _ _ _ (an (by simp;omega) (vG _ _ _ _ (ai (cY (by simp only[natAdd,FV];omega)) ⟨rfl,by first|rfl|trivial⟩)))
    ·simp only[DP,if_neg h0] at h4
     have hr:0≤we k' 10∧we k' 10≤9:=by rw[W1,Int.tmod_eq_emod_of_nonneg (by omega)];omega
     refine qF _ _ _ (ai (by simp;omega) (an V4 ⟨_,Uf _,ai (cY (by simp only[natAdd,FV,V5];omega)) (an V4 ?_)⟩))
     rw[aJ (by omega)]
     refine ih _ _ ?_ ?_ ?_ h4
     ·rw[Tr (b:=0) (by omega) (by omega)]
      have:(10:Int) ^ (n+1)=10 ^ n*10:=Int.pow_succ ..
      omega
     ·rw[Tr (b:=0) (by omega) (by omega)];omega
     ·rw[Ug,V5];omega
  exact key _ 19 k Zi (by rw[show(10:Int) ^ 19=10000000000000000000 from by decide];omega) hk (by decide) rfl
theorem Lk (k:Int) (hk:k≤2305843009213693952) (q:ByteArray):aa C eZ [vI k] (vS q) []↔q=Tq k:=ZX (PB k hk)
def mkInt (_:Int) (k:Int):Int:=k
def E2 (_:Int):Nat:=1
theorem V6 (l:List (Int)) (k:Int) (h0:0≤k) (hk:k+tot E2 l≤2305843009213693952) (hl:l.length≤1099511627776):aa C iD [ki l,vI k] (vI (k+tot E2 l)) [ki (fY mkInt E2 l k)]:=by
 refine(JA _ _ _ ?_).run
 refine tf (e:=bL) mkInt E2 (fun k i rows=>ah C iD ak 4 0 (ny k i rows) _) 2305843009213693952 ?_ l [] k h0 hk (by simpa using hl) ?_
 ·intro d a r k h0 hk hd hn
  have hw:E2 a=1:=rfl
  rw[hw] at hk hn
  refine v7 _ _ _ _ (ai (by simp;omega) ?_)
  simp (disch:=omega) only[aJ]
  simp only[rY,Yr,oV,jA,kj,Option.some.injEq,exists_eq_left',exists_eq_left,mod_mod,C6,mw,bJ]
  rw[yx]
  rw[show(k+1:Int)=k+((1:Nat):Int) by omega]
  exact hn
 ·refine v7 _ _ _ _ (an (by simp[lD]) (Fq _ _ _ _ _ ⟨rfl,by first|rfl|trivial⟩))
theorem V7 (l:List (Int)) (k:Int) (h0:0≤k) (hk:k+tot E2 l≤2305843009213693952) (hl:l.length≤1099511627776):aa C iE [ki (fY mkInt E2 l k),vI k] (vI (k+tot E2 l)) []:=by
 refine(IT _ _ _ ?_).run
 refine tg (e:=bL) mkInt E2 (fun k i rows=>ah C iE ak 4 0 (nr rows k i) _) 2305843009213693952 ?_ l [] k h0 hk (by simpa using hl) ?_
 ·intro d a r k h0 hk hd hn
  have hw:E2 a=1:=rfl
  rw[hw] at hk hn
  refine vO _ _ _ _ (ai (by simp;omega) ?_)
  simp (disch:=omega) only[aJ]
  simp only[rY,oV,jA,kj,Option.some.injEq,exists_eq_left',exists_eq_left,mod_mod,C6,mw,bJ,mkInt,aP,FT,KS,bF,if_true,decide_true,Bool.not_true]
  rw[show(k+1:Int)=k+((1:Nat):Int) by omega]
  exact hn
 ·refine vO _ _ _ _ (an (by simp[lD]) (Fa _ _ _ _ _ ⟨rfl,by first|rfl|trivial⟩))
def mkKey (_:Key) (k:Int):Key:=⟨k,k+1,k+1+1,k+1+1+1,k+1+1+1+1⟩
def DQ (_:Key):Nat:=5
theorem V8 (l:List (Key)) (k:Int) (h0:0≤k) (hk:k+tot DQ l≤2305843009213693952) (hl:l.length≤1099511627776):aa C iF [cO l,vI k] (vI (k+tot DQ l)) [cO (fY mkKey DQ l k)]:=by
 refine(JR _ _ _ ?_).run
 refine tf (e:=bN) mkKey DQ (fun k i rows=>ah C iF ak 4 0 (nB k i rows) _) 2305843009213693952 ?_ l [] k h0 hk (by simpa using hl) ?_
 ·intro d a r k h0 hk hd hn
  have hw:DQ a=5:=rfl
  rw[hw] at hk hn
  refine v8 _ _ _ _ (ai (by simp;omega) ?_)
  simp (disch:=omega) only[aJ]
  simp only[jS,VJ,VK,VL,VM,VN,Ym,oV,jA,kj,Option.some.injEq,exists_eq_left',exists_eq_left,mod_mod,C6,mw,bJ]
  rw[yx]
  rw[show(k+1+1+1+1+1:Int)=k+((5:Nat):Int) by omega]
  exact hn
 ·refine v8 _ _ _ _ (an (by simp[lD]) (Fs _ _ _ _ _ ⟨rfl,by first|rfl|trivial⟩))
theorem V9 (l:List (Key)) (k:Int) (h0:0≤k) (hk:k+tot DQ l≤2305843009213693952) (hl:l.length≤1099511627776):aa C iG [cO (fY mkKey DQ l k),vI k] (vI (k+tot DQ l)) []:=by
 refine(IE _ _ _ ?_).run
 refine tg (e:=bN) mkKey DQ (fun k i rows=>ah C iG ak 4 0 (nh rows k i) _) 2305843009213693952 ?_ l [] k h0 hk (by simpa using hl) ?_
 ·intro d a r k h0 hk hd hn
  have hw:DQ a=5:=rfl
  rw[hw] at hk hn
  refine vK _ _ _ _ (ai (by simp;omega) ?_)
  simp (disch:=omega) only[aJ]
  simp only[jS,oV,jA,kj,Option.some.injEq,exists_eq_left',exists_eq_left,mod_mod,C6,mw,bJ,mkKey,aP,FT,KS,bF,if_true,decide_true,Bool.not_true]
  rw[show(k+1+1+1+1+1:Int)=k+((5:Nat):Int) by omega]
  exact hn
 ·refine vK _ _ _ _ (an (by simp[lD]) (E6 _ _ _ _ _ ⟨rfl,by first|rfl|trivial⟩))
def Oy (_:Age) (k:Int):Age:=⟨k,k+1⟩
def DR (_:Age):Nat:=2
theorem Wa (l:List (Age)) (k:Int) (h0:0≤k) (hk:k+tot DR l≤2305843009213693952) (hl:l.length≤1099511627776):aa C iy [jo l,vI k] (vI (k+tot DR l)) [jo (fY Oy DR l k)]:=by
 refine(Jt _ _ _ ?_).run
 refine tf (e:=dM) Oy DR (fun k i rows=>ah C iy ak 4 0 (nv k i rows) _) 2305843009213693952 ?_ l [] k h0 hk (by simpa using hl) ?_
 ·intro d a r k h0 hk hd hn
  have hw:DR a=2:=rfl
  rw[hw] at hk hn
  refine vY _ _ _ _ (ai (by simp;omega) ?_)
  simp (disch:=omega) only[aJ]
  simp only[rZ,TT,TU,Yn,oV,jA,kj,Option.some.injEq,exists_eq_left',exists_eq_left,mod_mod,C6,mw,bJ]
  rw[yx]
  rw[show(k+1+1:Int)=k+((2:Nat):Int) by omega]
  exact hn
 ·refine vY _ _ _ _ (an (by simp[lD]) (Fl _ _ _ _ _ ⟨rfl,by first|rfl|trivial⟩))
theorem Wb (l:List (Age)) (k:Int) (h0:0≤k) (hk:k+tot DR l≤2305843009213693952) (hl:l.length≤1099511627776):aa C iA [jo (fY Oy DR l k),vI k] (vI (k+tot DR l)) []:=by
 refine(Ju _ _ _ ?_).run
 refine tg (e:=dM) Oy DR (fun k i rows=>ah C iA ak 4 0 (nw rows k i) _) 2305843009213693952 ?_ l [] k h0 hk (by simpa using hl) ?_
 ·intro d a r k h0 hk hd hn
  have hw:DR a=2:=rfl
  rw[hw] at hk hn
  refine vZ _ _ _ _ (ai (by simp;omega) ?_)
  simp (disch:=omega) only[aJ]
  simp only[rZ,oV,jA,kj,Option.some.injEq,exists_eq_left',exists_eq_left,mod_mod,C6,mw,bJ,Oy,aP,FT,KS,bF,if_true,decide_true,Bool.not_true]
  rw[show(k+1+1:Int)=k+((2:Nat):Int) by omega]
  exact hn
 ·refine vZ _ _ _ _ (an (by simp[lD]) (Fm _ _ _ _ _ ⟨rfl,by first|rfl|trivial⟩))
def DS (_:Cell) (k:Int):Cell:=⟨k,cU (we (k+1) 3) 0,k+1+1⟩
def vg (_:Cell):Nat:=3
theorem Uh (l:List (Cell)) (k:Int) (h0:0≤k) (hk:k+tot vg l≤2305843009213693952) (hl:l.length≤1099511627776):aa C gC [gY l,vI k] (vI (k+tot vg l)) [gY (fY DS vg l k)]:=by
 refine(Gn _ _ _ ?_).run
 refine tf (e:=cK) DS vg (fun k i rows=>ah C gC ak 4 0 (mg k i rows) _) 2305843009213693952 ?_ l [] k h0 hk (by simpa using hl) ?_
 ·intro d a r k h0 hk hd hn
  have hw:vg a=3:=rfl
  rw[hw] at hk hn
  refine uo _ _ _ _ (ai (by simp;omega) ?_)
  simp (disch:=omega) only[aJ]
  simp only[pk,TW,TY,TZ,Ph,oV,jA,kj,Option.some.injEq,exists_eq_left',exists_eq_left,mod_mod,C6,mw,bJ]
  rw[yx]
  rw[show(k+1+1+1:Int)=k+((3:Nat):Int) by omega]
  exact hn
 ·refine uo _ _ _ _ (an (by simp[lD]) (DX _ _ _ _ _ ⟨rfl,by first|rfl|trivial⟩))
theorem Ui (l:List (Cell)) (k:Int) (h0:0≤k) (hk:k+tot vg l≤2305843009213693952) (hl:l.length≤1099511627776):aa C gD [gY (fY DS vg l k),vI k] (vI (k+tot vg l)) []:=by
 refine(Gp _ _ _ ?_).run
 refine tg (e:=cK) DS vg (fun k i rows=>ah C gD ak 4 0 (mh rows k i) _) 2305843009213693952 ?_ l [] k h0 hk (by simpa using hl) ?_
 ·intro d a r k h0 hk hd hn
  have hw:vg a=3:=rfl
  rw[hw] at hk hn
  refine uq _ _ _ _ (ai (by simp;omega) ?_)
  simp (disch:=omega) only[aJ]
  simp only[pk,oV,jA,kj,Option.some.injEq,exists_eq_left',exists_eq_left,mod_mod,C6,mw,bJ,DS,aP,FT,KS,bF,if_true,decide_true,Bool.not_true]
  rw[show(k+1+1+1:Int)=k+((3:Nat):Int) by omega]
  simpa [DS] using hn
 ·refine uq _ _ _ _ (an (by simp[lD]) (DY _ _ _ _ _ ⟨rfl,by first|rfl|trivial⟩))
def Ll (_:Vol) (k:Int):Vol:=⟨Tq (k),k+1,k+1+1,cU (we (k+1+1+1) 3) 0⟩
def Gi (_:Vol):Nat:=4
theorem Wc (l:List (Vol)) (k:Int) (h0:0≤k) (hk:k+tot Gi l≤2305843009213693952) (hl:l.length≤1099511627776):aa C iz [yK l,vI k] (vI (k+tot Gi l)) [yK (fY Ll Gi l k)]:=by
 refine(IK _ _ _ ?_).run
 refine tf (e:=dx) Ll Gi (fun k i rows=>ah C iz ak 4 0 (ni k i rows) _) 2305843009213693952 ?_ l [] k h0 hk (by simpa using hl) ?_
 ·intro d a r k h0 hk hd hn
  have hw:Gi a=4:=rfl
  rw[hw] at hk hn
  refine vL _ _ _ _ (ai (by simp;omega) ?_)
  simp (disch:=omega) only[aJ]
  simp only[Bt,QY,Sg,Bu,T2,Yo,Lk (k) (by omega),oV,jA,kj,Option.some.injEq,exists_eq_left',exists_eq_left,mod_mod,C6,mw,bJ]
  rw[yx]
  rw[show(k+1+1+1+1:Int)=k+((4:Nat):Int) by omega]
  exact hn
 ·refine vL _ _ _ _ (an (by simp[lD]) (E7 _ _ _ _ _ ⟨rfl,by first|rfl|trivial⟩))
theorem Wd (l:List (Vol)) (k:Int) (h0:0≤k) (hk:k+tot Gi l≤2305843009213693952) (hl:l.length≤1099511627776):aa C iC [yK (fY Ll Gi l k),vI k] (vI (k+tot Gi l)) []:=by
 refine(IL _ _ _ ?_).run
 refine tg (e:=dx) Ll Gi (fun k i rows=>ah C iC ak 4 0 (nj rows k i) _) 2305843009213693952 ?_ l [] k h0 hk (by simpa using hl) ?_
 ·intro d a r k h0 hk hd hn
  have hw:Gi a=4:=rfl
  rw[hw] at hk hn
  refine vM _ _ _ _ (ai (by simp;omega) ?_)
  simp (disch:=omega) only[aJ]
  simp only[Bt,Lk (k) (by omega),oV,jA,kj,Option.some.injEq,exists_eq_left',exists_eq_left,mod_mod,C6,mw,bJ,Ll,aP,FT,KS,bF,if_true,decide_true,Bool.not_true]
  rw[show(k+1+1+1+1:Int)=k+((4:Nat):Int) by omega]
  simpa [Ll] using hn
 ·refine vM _ _ _ _ (an (by simp[lD]) (E8 _ _ _ _ _ ⟨rfl,by first|rfl|trivial⟩))
def yG (s:List Key) (k:Int):List Key:=fY mkKey DQ s k
def jL (s:List Key):Nat:=tot DQ s
theorem Uj: ∀(l:List (List Key)) (k:Int) (h0:0≤k) (hk:k+tot jL l≤2305843009213693952) (hl:l.length≤1099511627776) (hs: ∀s∈l,s.length≤1099511627776),aa C fI [EC l,vI k] (vI (k+tot jL l)) [EC (fY yG jL l k)]:=by
 intro l k h0 hk hl hs
 refine(GU _ _ _ ?_).run
 have key: ∀(r d:List (List Key)) (k:Int),0≤k→k+tot jL r≤2305843009213693952→d.length+r.length≤1099511627776→(∀s∈r,s.length≤1099511627776)→ ∀(R:TV) (F:List TV),vI (k+tot jL r)=R→[EC (d++fY yG jL r k)]=F→ah C fI ak 4 0 (mo k (d.length:Int) ((d++r).map cc)) (fun u st=>aF C fI ak u st fun r fs=>r=R∧fs=F):=by
  intro r
  induction r with
  |nil=>
   intro d k h0 hk hl hs R F hR hF
   subst hR hF
   refine uw _ _ _ _ (an (by simp) (D2 _ _ _ _ _ ⟨by simp[tot],by simp[fY]⟩))
  |cons a r ih=>
   intro d k h0 hk hl hs R F hR hF
   simp only[tot,List.length_cons] at hk hl
   have hca:=hs a (.head _)
   have hu:tot DQ a=jL a:=rfl
   refine uw _ _ _ _ (ai (by simp;omega) ?_)
   simp only[q7,kj,Option.some.injEq,exists_eq_left']
   refine⟨_,_,V8 a k h0 (by omega) hca,?_⟩
   simp only[Yt]
   rw[yx,aJ (by omega)]
   have:=ih (d++[yG a k]) (k+jL a) (by omega) (by omega) (by simp;omega) (fun s h=>hs s (.tail _ h)) R F (by rw[←hR];simp only[tot];rw[show k+(jL a:Int)+(tot jL r:Int)=k+((jL a+tot jL r:Nat):Int) by omega]) (by rw[←hF];simp[fY])
   rw[←hu] at this
   simpa [yG] using this
 exact key l [] k h0 hk (by simpa using hl) hs _ _ rfl (by simp)
theorem Uk: ∀(l:List (List Key)) (k:Int) (h0:0≤k) (hk:k+tot jL l≤2305843009213693952) (hl:l.length≤1099511627776) (hs: ∀s∈l,s.length≤1099511627776),aa C fJ [EC (fY yG jL l k),vI k] (vI (k+tot jL l)) []:=by
 intro l k h0 hk hl hs
 refine(G6 _ _ _ ?_).run
 have key: ∀(r d:List (List Key)) (k:Int),0≤k→k+tot jL r≤2305843009213693952→d.length+r.length≤1099511627776→(∀s∈r,s.length≤1099511627776)→ ∀(R:TV),vI (k+tot jL r)=R→ah C fJ ak 4 0 (mq ((d++fY yG jL r k).map cc) k (d.length:Int)) (fun u st=>aF C fJ ak u st fun r fs=>r=R∧fs=[]):=by
  intro r
  induction r with
  |nil=>
   intro d k h0 hk hl hs R hR
   subst hR
   refine uA _ _ _ _ (an (by simp[fY]) (D7 _ _ _ _ _ ⟨by simp[tot],rfl⟩))
  |cons a r ih=>
   intro d k h0 hk hl hs R hR
   simp only[tot,List.length_cons] at hk hl
   have hca:=hs a (.head _)
   have hu:tot DQ a=jL a:=rfl
   simp only[fY]
   refine uA _ _ _ _ (ai (by simp;omega) ?_)
   simp only[q7,kj,Option.some.injEq,exists_eq_left']
   refine⟨_,V9 a k h0 (by omega) hca,an (by simp;omega) ?_⟩
   rw[aJ (by omega)]
   have:=ih (d++[yG a k]) (k+jL a) (by omega) (by omega) (by simp;omega) (fun s h=>hs s (.tail _ h)) R (by rw[←hR];simp only[tot];rw[show k+(jL a:Int)+(tot jL r:Int)=k+((jL a+tot jL r:Nat):Int) by omega])
   rw[hu]
   simpa [yG] using this
 exact key l [] k h0 hk (by simpa using hl) hs _ rfl
def mkNode (s:List (List Key)) (k:Int):List (List Key):=fY yG jL s k
def k9 (s:List (List Key)):Nat:=tot jL s
theorem Ul: ∀(l:List (List (List Key))) (k:Int) (h0:0≤k) (hk:k+tot k9 l≤2305843009213693952) (hl:l.length≤1099511627776) (hs: ∀s∈l,ES s),aa C fG [tM l,vI k] (vI (k+tot k9 l)) [tM (fY mkNode k9 l k)]:=by
 intro l k h0 hk hl hs
 refine(Gq _ _ _ ?_).run
 have key: ∀(r d:List (List (List Key))) (k:Int),0≤k→k+tot k9 r≤2305843009213693952→d.length+r.length≤1099511627776→(∀s∈r,ES s)→ ∀(R:TV) (F:List TV),vI (k+tot k9 r)=R→[tM (d++fY mkNode k9 r k)]=F→ah C fG ak 4 0 (mj k (d.length:Int) ((d++r).map aW)) (fun u st=>aF C fG ak u st fun r fs=>r=R∧fs=F):=by
  intro r
  induction r with
  |nil=>
   intro d k h0 hk hl hs R F hR hF
   subst hR hF
   refine ur _ _ _ _ (an (by simp) (DZ _ _ _ _ _ ⟨by simp[tot],by simp[fY]⟩))
  |cons a r ih=>
   intro d k h0 hk hl hs R F hR hF
   simp only[tot,List.length_cons] at hk hl
   have hca:=hs a (.head _)
   have hu:tot jL a=k9 a:=rfl
   refine ur _ _ _ _ (ai (by simp;omega) ?_)
   simp only[qv,kj,Option.some.injEq,exists_eq_left']
   refine⟨_,_,Uj a k h0 (by omega) hca.1 hca.2,?_⟩
   simp only[W7]
   rw[yx,aJ (by omega)]
   have:=ih (d++[mkNode a k]) (k+k9 a) (by omega) (by omega) (by simp;omega) (fun s h=>hs s (.tail _ h)) R F (by rw[←hR];simp only[tot];rw[show k+(k9 a:Int)+(tot k9 r:Int)=k+((k9 a+tot k9 r:Nat):Int) by omega]) (by rw[←hF];simp[fY])
   rw[←hu] at this
   simpa [mkNode] using this
 exact key l [] k h0 hk (by simpa using hl) hs _ _ rfl (by simp)
theorem Um: ∀(l:List (List (List Key))) (k:Int) (h0:0≤k) (hk:k+tot k9 l≤2305843009213693952) (hl:l.length≤1099511627776) (hs: ∀s∈l,ES s),aa C fH [tM (fY mkNode k9 l k),vI k] (vI (k+tot k9 l)) []:=by
 intro l k h0 hk hl hs
 refine(GP _ _ _ ?_).run
 have key: ∀(r d:List (List (List Key))) (k:Int),0≤k→k+tot k9 r≤2305843009213693952→d.length+r.length≤1099511627776→(∀s∈r,ES s)→ ∀(R:TV),vI (k+tot k9 r)=R→ah C fH ak 4 0 (mm ((d++fY mkNode k9 r k).map aW) k (d.length:Int)) (fun u st=>aF C fH ak u st fun r fs=>r=R∧fs=[]):=by
  intro r
  induction r with
  |nil=>
   intro d k h0 hk hl hs R hR
   subst hR
   refine uv _ _ _ _ (an (by simp[fY]) (D1 _ _ _ _ _ ⟨by simp[tot],rfl⟩))
  |cons a r ih=>
   intro d k h0 hk hl hs R hR
   simp only[tot,List.length_cons] at hk hl
   have hca:=hs a (.head _)
   have hu:tot jL a=k9 a:=rfl
   simp only[fY]
   refine uv _ _ _ _ (ai (by simp;omega) ?_)
   simp only[qv,kj,Option.some.injEq,exists_eq_left']
   refine⟨_,Uk a k h0 (by omega) hca.1 hca.2,an (by simp;omega) ?_⟩
   rw[aJ (by omega)]
   have:=ih (d++[mkNode a k]) (k+k9 a) (by omega) (by omega) (by simp;omega) (fun s h=>hs s (.tail _ h)) R (by rw[←hR];simp only[tot];rw[show k+(k9 a:Int)+(tot k9 r:Int)=k+((k9 a+tot k9 r:Nat):Int) by omega])
   rw[hu]
   simpa [mkNode] using this
 exact key l [] k h0 hk (by simpa using hl) hs _ rfl
def yU (t:Tree):Nat:=tot E2 t.lows+tot k9 t.nodes
def SB (t:Tree) (k:Int):Tree:=⟨fY mkInt E2 t.lows k,fY mkNode k9 t.nodes (k+tot E2 t.lows)⟩
theorem We (t:Tree) (k:Int) (h0:0≤k) (hk:k+yU t≤2305843009213693952) (h:Ow t):aa C wz [dn t,vI k] (vI (k+yU t)) [dn (SB t k)]:=by
 unfold yU at*
 refine(I8 _ _ _ _ ⟨_,_,V6 t.lows k h0 (by omega) h.1,_,_,Ul t.nodes _ (by omega) (by omega) h.2.1 h.2.2,?_⟩).run
 exact⟨by congr 2;omega,rfl⟩
theorem Wf (t:Tree) (k:Int) (h0:0≤k) (hk:k+yU t≤2305843009213693952) (h:Ow t):aa C wA [dn (SB t k),vI k] (vI (k+yU t)) []:=by
 unfold yU at*
 refine(I9 _ _ _ _ ⟨_,V7 t.lows k h0 (by omega) h.1,an (by simp;omega) ⟨_,Um t.nodes _ (by omega) (by omega) h.2.1 h.2.2,an (by simp;omega) ?_⟩⟩).run
 exact⟨by congr 2;omega,rfl⟩
def HC (p:Pool):Nat:=yU p.t+tot DR p.ages+tot vg p.cells+tot Gi p.vols
def Wg (p:Pool) (k:Int):Pool:=⟨SB p.t k,fY Oy DR p.ages (k+yU p.t),fY DS vg p.cells (k+yU p.t+tot DR p.ages),fY Ll Gi p.vols (k+yU p.t+tot DR p.ages+tot vg p.cells),p.next⟩
theorem Rn (p:Pool) (k:Int) (h0:0≤k) (hk:k+HC p≤2305843009213693952) (h:Rl p):aa C rC [fX p,vI k] (vI (k+HC p)) [fX (Wg p k)]:=by
 unfold HC at*
 refine(Im _ _ _ _ _ _ _ _ ⟨_,_,_,We p.t k h0 (by omega) h.t,_,_,Wa p.ages _ (by omega) (by omega) h.ages,_,_,Uh p.cells _ (by omega) (by omega) h.cells,_,_,Wc p.vols _ (by omega) (by omega) h.vols,?_⟩).run
 exact⟨by congr 2;omega,rfl⟩
theorem Ro (p:Pool) (k:Int) (h0:0≤k) (hk:k+HC p≤2305843009213693952) (h:Rl p):aa C rD [fX (Wg p k),vI k] (vI (k+HC p)) []:=by
 unfold HC at*
 refine(IF _ _ _ _ _ _ _ _ ⟨_,Wf p.t k h0 (by omega) h.t,an (by simp;omega) ⟨_,Wb p.ages _ (by omega) (by omega) h.ages,an (by simp;omega) ⟨_,Ui p.cells _ (by omega) (by omega) h.cells,an (by simp;omega) ⟨_,Wd p.vols _ (by omega) (by omega) h.vols,an (by simp;omega) ?_⟩⟩⟩⟩).run
 exact⟨by congr 2;omega,rfl⟩
theorem DT {n z:Nat} (h:n*z≤reachBytes) (hz:1≤z):n≤140737488355328:=by
 have:reachBytes≤140737488355328:=by decide
 have h2:n*1≤n*z:=Nat.mul_le_mul_left n hz
 omega
theorem YQ {n:Int} (h:(Lit.int .i64 n).wf=true):n≤9223372036854775807:=by
 have:=(Yk h).2
 omega
theorem SC {r:List TC} (h:sZ C.tt Ov r): ∃n:Int,r=bL n∧True:=by
 obtain⟨n,rfl,_⟩:=h.o9 (k:= .i64) (by kernel_rfl)
 exact⟨n,rfl,trivial⟩
theorem YR {r:List TC} (h:sZ C.tt La r): ∃x:Key,r=bN x∧True:=by
 obtain⟨q0,r0,rfl,h0,k0⟩:=(h.p7 (fs:=[(0,3),(1,3),(2,3),(3,3),(4,3)]) (by kernel_rfl)).cons_inv
 obtain⟨q1,r1,rfl,h1,k1⟩:=k0.cons_inv
 obtain⟨q2,r2,rfl,h2,k2⟩:=k1.cons_inv
 obtain⟨q3,r3,rfl,h3,k3⟩:=k2.cons_inv
 obtain⟨q4,r4,rfl,h4,k4⟩:=k3.cons_inv
 have e:=k4.yw
 subst e
 obtain⟨v0,rfl,u0⟩:=h0.o9 (k:= .i64) (by kernel_rfl)
 obtain⟨v1,rfl,u1⟩:=h1.o9 (k:= .i64) (by kernel_rfl)
 obtain⟨v2,rfl,u2⟩:=h2.o9 (k:= .i64) (by kernel_rfl)
 obtain⟨v3,rfl,u3⟩:=h3.o9 (k:= .i64) (by kernel_rfl)
 obtain⟨v4,rfl,u4⟩:=h4.o9 (k:= .i64) (by kernel_rfl)
 exact⟨⟨v0,v1,v2,v3,v4⟩,rfl,trivial⟩
theorem YS {r:List TC} (h:sZ C.tt K9 r): ∃x:Age,r=dM x∧True:=by
 obtain⟨q0,r0,rfl,h0,k0⟩:=(h.p7 (fs:=[(0,3),(1,3)]) (by kernel_rfl)).cons_inv
 obtain⟨q1,r1,rfl,h1,k1⟩:=k0.cons_inv
 have e:=k1.yw
 subst e
 obtain⟨v0,rfl,u0⟩:=h0.o9 (k:= .i64) (by kernel_rfl)
 obtain⟨v1,rfl,u1⟩:=h1.o9 (k:= .i64) (by kernel_rfl)
 exact⟨⟨v0,v1⟩,rfl,trivial⟩
theorem Xq {r:List TC} (h:sZ C.tt Hz r): ∃x:Cell,r=cK x∧True:=by
 obtain⟨q0,r0,rfl,h0,k0⟩:=(h.p7 (fs:=[(0,3),(1,4),(2,3)]) (by kernel_rfl)).cons_inv
 obtain⟨q1,r1,rfl,h1,k1⟩:=k0.cons_inv
 obtain⟨q2,r2,rfl,h2,k2⟩:=k1.cons_inv
 have e:=k2.yw
 subst e
 obtain⟨v0,rfl,u0⟩:=h0.o9 (k:= .i64) (by kernel_rfl)
 obtain⟨v1,rfl⟩:=h1.QO (by kernel_rfl)
 obtain⟨v2,rfl,u2⟩:=h2.o9 (k:= .i64) (by kernel_rfl)
 exact⟨⟨v0,v1,v2⟩,rfl,trivial⟩
theorem YT {r:List TC} (h:sZ C.tt Lb r): ∃x:Vol,r=dx x∧x.name.size≤140737488355328∧x.size≤9223372036854775807:=by
 obtain⟨q0,r0,rfl,h0,k0⟩:=(h.p7 (fs:=[(0,9),(1,3),(2,3),(3,4)]) (by kernel_rfl)).cons_inv
 obtain⟨q1,r1,rfl,h1,k1⟩:=k0.cons_inv
 obtain⟨q2,r2,rfl,h2,k2⟩:=k1.cons_inv
 obtain⟨q3,r3,rfl,h3,k3⟩:=k2.cons_inv
 have e:=k3.yw
 subst e
 obtain⟨v0,rfl,z0⟩:=h0.Th (by kernel_rfl)
 obtain⟨v1,rfl,u1⟩:=h1.o9 (k:= .i64) (by kernel_rfl)
 obtain⟨v2,rfl,u2⟩:=h2.o9 (k:= .i64) (by kernel_rfl)
 obtain⟨v3,rfl⟩:=h3.QO (by kernel_rfl)
 exact⟨⟨v0,v1,v2,v3⟩,rfl,⟨Nat.le_trans z0 (by decide),YQ u2⟩⟩
theorem Un {r:List TC} (h:sZ C.tt Xf r): ∃l:List (Int),r=[.sub 1 (l.map bL)]∧l.length≤140737488355328∧ ∀x∈l,True:=by
 obtain⟨w,rfl,y,z⟩:=h.qZ (e:=Ov) (by kernel_rfl)
 obtain⟨l,rfl,hl⟩:=nO fun r hr=>SC (y r hr)
 rw[List.length_map] at z
 exact⟨l,rfl,DT z (by decide+kernel),hl⟩
theorem Uo {r:List TC} (h:sZ C.tt yC r): ∃l:List (Key),r=[.sub 5 (l.map bN)]∧l.length≤140737488355328∧ ∀x∈l,True:=by
 obtain⟨w,rfl,y,z⟩:=h.qZ (e:=La) (by kernel_rfl)
 obtain⟨l,rfl,hl⟩:=nO fun r hr=>YR (y r hr)
 rw[List.length_map] at z
 exact⟨l,rfl,DT z (by decide+kernel),hl⟩
theorem Up {r:List TC} (h:sZ C.tt Pt r): ∃l:List (Age),r=[.sub 2 (l.map dM)]∧l.length≤140737488355328∧ ∀x∈l,True:=by
 obtain⟨w,rfl,y,z⟩:=h.qZ (e:=K9) (by kernel_rfl)
 obtain⟨l,rfl,hl⟩:=nO fun r hr=>YS (y r hr)
 rw[List.length_map] at z
 exact⟨l,rfl,DT z (by decide+kernel),hl⟩
theorem SD {r:List TC} (h:sZ C.tt Mm r): ∃l:List (Cell),r=[.sub 3 (l.map cK)]∧l.length≤140737488355328∧ ∀x∈l,True:=by
 obtain⟨w,rfl,y,z⟩:=h.qZ (e:=Hz) (by kernel_rfl)
 obtain⟨l,rfl,hl⟩:=nO fun r hr=>Xq (y r hr)
 rw[List.length_map] at z
 exact⟨l,rfl,DT z (by decide+kernel),hl⟩
theorem Uq {r:List TC} (h:sZ C.tt Pu r): ∃l:List (Vol),r=[.sub 4 (l.map dx)]∧l.length≤140737488355328∧ ∀x∈l,x.name.size≤140737488355328∧x.size≤9223372036854775807:=by
 obtain⟨w,rfl,y,z⟩:=h.qZ (e:=Lb) (by kernel_rfl)
 obtain⟨l,rfl,hl⟩:=nO fun r hr=>YT (y r hr)
 rw[List.length_map] at z
 exact⟨l,rfl,DT z (by decide+kernel),hl⟩
theorem YU {r:List TC} (h:sZ C.tt yC r): ∃s:List Key,r=cc s∧s.length≤140737488355328:=by
 obtain⟨l,rfl,hl,_⟩:=Uo h
 exact⟨l,rfl,hl⟩
theorem Ur {r:List TC} (h:sZ C.tt Ml r): ∃l:List (List Key),r=[.sub 1 (l.map cc)]∧l.length≤140737488355328∧ ∀x∈l,x.length≤140737488355328:=by
 obtain⟨w,rfl,y,z⟩:=h.qZ (e:=yC) (by kernel_rfl)
 obtain⟨l,rfl,hl⟩:=nO fun r hr=>YU (y r hr)
 rw[List.length_map] at z
 exact⟨l,rfl,DT z (by decide+kernel),hl⟩
theorem Xt {r:List TC} (h:sZ C.tt HA r): ∃n:List (List Key),r=aW n∧(n.length≤140737488355328∧ ∀s∈n,s.length≤140737488355328):=by
 obtain⟨q0,r0,rfl,h0,k0⟩:=(h.p7 (fs:=[(0,178)]) (by kernel_rfl)).cons_inv
 have e:=k0.yw
 subst e
 obtain⟨l,rfl,hl,hs⟩:=Ur h0
 exact⟨l,rfl,hl,hs⟩
theorem SE {r:List TC} (h:sZ C.tt Mn r): ∃l:List (List (List Key)),r=[.sub 1 (l.map aW)]∧l.length≤140737488355328∧ ∀x∈l,x.length≤140737488355328∧ ∀s∈x,s.length≤140737488355328:=by
 obtain⟨w,rfl,y,z⟩:=h.qZ (e:=HA) (by kernel_rfl)
 obtain⟨l,rfl,hl⟩:=nO fun r hr=>Xt (y r hr)
 rw[List.length_map] at z
 exact⟨l,rfl,DT z (by decide+kernel),hl⟩
theorem Xu {r:List TC} (h:sZ C.tt Rk r): ∃t:Tree,r=Tj t∧V2 t:=by
 obtain⟨q0,r0,rfl,h0,k0⟩:=(h.p7 (fs:=[(0,22),(1,23)]) (by kernel_rfl)).cons_inv
 obtain⟨q1,r1,rfl,h1,k1⟩:=k0.cons_inv
 have e:=k1.yw
 subst e
 obtain⟨l,rfl,hl,_⟩:=Un h0
 obtain⟨n,rfl,hn,hs⟩:=SE h1
 exact⟨⟨l,n⟩,rfl,⟨hl,hn,hs⟩⟩
theorem Xv {r:List TC} (h:sZ C.tt rP r): ∃p:Pool,r=fq p∧Tp p:=by
 obtain⟨q0,r0,rfl,h0,k0⟩:=(h.p7 (fs:=[(0,25),(2,26),(3,27),(4,28),(5,3)]) (by kernel_rfl)).cons_inv
 obtain⟨q1,r1,rfl,h1,k1⟩:=k0.cons_inv
 obtain⟨q2,r2,rfl,h2,k2⟩:=k1.cons_inv
 obtain⟨q3,r3,rfl,h3,k3⟩:=k2.cons_inv
 obtain⟨q4,r4,rfl,h4,k4⟩:=k3.cons_inv
 have e:=k4.yw
 subst e
 obtain⟨t,rfl,ht⟩:=Xu h0
 obtain⟨a,rfl,ha,_⟩:=Up h1
 obtain⟨c,rfl,hc,_⟩:=SD h2
 obtain⟨v,rfl,hv,hw⟩:=Uq h3
 obtain⟨n,rfl,_⟩:=SC h4
 exact⟨⟨t,a,c,v,n⟩,rfl,⟨ht,ha,hc,hv,fun v h=>(hw v h).1,fun v h=>(hw v h).2⟩⟩
theorem Zz {v:TV} (h:Wm C.tt Ov v): ∃n:Int,v=vI n:=by
 have ht:(C.tt Ov).ti= .int .i64:=by kernel_rfl
 cases h with
 |c _ hw=>
  obtain⟨n,h1,_⟩:=SC hw
  unfold bL at h1
  cases h1
  exact⟨n,rfl⟩
 |ag h1 _=>rw[ht] at h1;cases h1
theorem Wh {v:TV} (h:Wm C.tt ER v): ∃n:ByteArray,v=vS n∧n.size≤140737488355328:=by
 have ht:(C.tt ER).ti= .str:=by kernel_rfl
 cases h with
 |c _ hw=>
  obtain⟨n,h1,h2⟩:=hw.Th ht
  cases h1
  exact⟨n,rfl,Nat.le_trans h2 (by decide)⟩
 |ag h1 _=>rw[ht] at h1;cases h1
theorem YV {v:TV} (h:Wm C.tt rP v): ∃x:Pool,v=fX x∧Tp x:=by
 have ht:(C.tt rP).ti= .struct [(0,25),(2,26),(3,27),(4,28),(5,3)]:=by kernel_rfl
 cases h with
 |c hs hw=>exact absurd ht (hs _)
 |ag _ hw=>
  obtain⟨x,rfl,hx⟩:=Xv hw
  exact⟨x,rfl,hx⟩
theorem YW {a:Int} {n:Nat} (h:bK (lX a n) 0=false) (h0:0≤a∧a≤1048576):(n:Int)≤a∧(0≤lX a n∧lX a n≤1048576)∧lX a n=a-n:=by
 rw[eE] at h
 have h: ¬lX a n<0:=of_decide_eq_false h
 unfold lX at*
 split at h<;>simp_all<;>omega
theorem YX {a b:Int} (h:bK a b=false):b≤a:=by
 rw[eE] at h
 have:=of_decide_eq_false h
 omega
theorem Wi {t:Tree} (h:c6 t≤4194304):Ow t:=by
 unfold c6 qw at h
 refine⟨by omega,by omega,fun n hn=> ?_⟩
 have h1:=m6 (w:=aQ) hn
 have e:aQ n=n.length+tot bH n:=rfl
 exact⟨by omega,fun s hs=>by
  have h2:=m6 (w:=bH) hs
  have e2:bH s=s.length:=rfl
  omega⟩
theorem Wj (l:List Key):tot DQ l=5*l.length:=th 5 l
theorem Wk (n:List (List Key)):tot jL n≤5*tot bH n:=by
 induction n with
 |nil=>simp[tot]
 |cons s r ih=>
  simp only[tot]
  have:jL s=5*s.length:=Wj s
  have e:bH s=s.length:=rfl
  omega
theorem Us (l:List (List (List Key))):tot k9 l≤5*tot aQ l:=by
 induction l with
 |nil=>simp[tot]
 |cons n r ih=>
  simp only[tot]
  have h1:=Wk n
  have h2:aQ n=n.length+tot bH n:=rfl
  have h3:k9 n=tot jL n:=rfl
  omega
theorem Wl (t:Tree):yU t≤5*c6 t:=by
 have h1:=Us t.nodes
 have h2:tot E2 t.lows=1*t.lows.length:=th 1 t.lows
 unfold yU c6 qw
 omega
theorem Rq {p:Pool} (h:cq p≤4194304):Rl p:=by
 unfold cq Ds at h
 exact⟨Wi (by omega),by omega,by omega,by omega⟩
theorem Rr (p:Pool):HC p≤5*cq p:=by
 have h1:=Wl p.t
 have h2:tot DR p.ages=2*p.ages.length:=th 2 p.ages
 have h3:tot vg p.cells=3*p.cells.length:=th 3 p.cells
 have h4:tot Gi p.vols=4*p.vols.length:=th 4 p.vols
 unfold HC cq Ds
 omega
theorem SF (p:Pool) (w_p:Tp p) (s:ByteArray) (w_s:s.size≤140737488355328) (n:Int):aa C p9 [fX p,vS s,vI n] (vB true) []:=by
 refine(Cl _ _ _ _ _ _ _ _ _ ?_).run
 refine nN (fun _=>⟨rfl,by first|rfl|trivial⟩) fun hn0=> ?_
 have hn0:=YX hn0
 refine⟨_,Sy _ _ (by first|omega|assumption) (by assumption),?_⟩
 refine nN (fun _=>⟨rfl,by first|rfl|trivial⟩) fun hz1=> ?_
 obtain⟨hz1a,hz1b,hz1c⟩:=YW hz1 (by first|omega|assumption)
 have hB:=Rq (p:=p) (by omega)
 have hS:cq p≤4194304:=by omega
 have hP:=g7 hS
 have hsl_s:Int.ofNat s.data.toList.length=(s.size:Int):=rfl
 have hsz:cq (me p s n).1≤4194304:=Nat.le_trans (St p s n) (by omega)
 have hB2:=Rq (p:=(me p s n).1) hsz
 have hw:=Rr p
 have hw2:=Rr (me p s n).1
 refine⟨_,_,_,_,_,_,Pv _ (by assumption),?_⟩
 refine⟨_,_,_,_,_,_,_,Ih p s n (by omega) (by omega),?_⟩
 refine⟨_,_,_,_,_,_,Pv _ (by assumption),?_⟩
 refine⟨_,_,_,_,_,_,_,yT p s n (by omega) (by omega),?_⟩
 refine⟨_,Pw _ (by assumption),?_⟩
 refine an (by first|rfl|(simp;done)|(simp;omega)) ?_
 refine an (by first|rfl|(simp;done)|(simp;omega)) ?_
 refine⟨_,_,_,_,_,_,Pv _ (by assumption),?_⟩
 refine⟨_,Pw _ (by assumption),?_⟩
 refine an (by first|rfl|(simp;done)|(simp;omega)) ?_
 refine⟨_,_,_,_,_,_,_,Rn _ 1 (by omega) (by omega) (by assumption),?_⟩
 refine an (by first|rfl|(simp;done)|(simp;omega)) ?_
 refine⟨_,Pw _ (by assumption),?_⟩
 refine an (by first|rfl|(simp;done)|(simp;omega)) ?_
 refine an (by first|rfl|(simp;done)|(simp;omega)) ?_
 refine⟨_,_,_,_,_,_,_,Rn _ 1 (by omega) (by omega) (by assumption),?_⟩
 refine⟨_,Ro _ 1 (by omega) (by omega) (by assumption),?_⟩
 refine an (by first|rfl|(simp;done)|(simp;omega)) ?_
 refine an (by first|rfl|(simp;done)|(simp;omega)) ?_
 refine⟨_,_,_,_,_,_,Pv _ (by assumption),?_⟩
 refine⟨_,_,_,_,_,_,_,yT p s n (by omega) (by omega),?_⟩
 refine⟨_,Pw _ (by assumption),?_⟩
 refine an (by first|rfl|(simp;done)|(simp;omega)) ?_
 refine an (by first|rfl|(simp;done)|(simp;omega)) ?_
 refine⟨_,Ro _ 1 (by omega) (by omega) (by assumption),?_⟩
 refine an (by first|rfl|(simp;done)|(simp;omega)) ?_
 refine an (by first|rfl|(simp;done)|(simp;omega)) ?_
 exact⟨rfl,by first|rfl|trivial⟩
theorem SG (vs:List TV) (h:QL C.tt [rP,ER,Ov] vs): ∃k,iH C k p9 vs (vB true) []:=by
 cases h with
 |cons h0 h=>
  cases h with
  |cons h1 h=>
   cases h with
   |cons h2 h=>
    cases h
    obtain⟨p,rfl,wp⟩:=YV h0
    obtain⟨s,rfl,ws⟩:=Wh h1
    obtain⟨n,rfl⟩:=Zz h2
    exact SF p wp s ws n
end Go.T.R
