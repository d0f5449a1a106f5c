import Derived.Test.YtlkjkfidmkdchaaGreatTP0
set_option linter.all false
set_option maxRecDepth 100000
set_option maxHeartbeats 4000000
namespace Go.T.R
open Go Go.T
theorem Jr (p:bu) (hS:aV p≤1048576):ai C yN [fz p] (tPB (kJ p)) []:=by
 have Yi:aV p≤4194304:=by omega
 have hP:=fG Yi;have htl:=jk p.t;have X9:=ck p Yi;have hns:=KT p Yi;have hkk:=jr p.t au;refine(Nj _ _ _ _ _ _ _ ?_).run;rcases Sj p with h0|⟨i,k,hn,hk⟩|⟨i,k,x,hn,hk,hx,he⟩|⟨i,a,hn,ha⟩
 ·have hps:kJ p=(p,false):=by unfold kJ;rw[h0];rfl
  rw[h0] at hns;rw[hps];exact eC
 ·have hrk:rowAt ((az p.t).map bK) i=some [iI k.b,iI k.a,iI k.k,iI k.c,iI k.g]:=by rw[aQ,hk];rfl
  rcases hn with hn|hn
  ·rw[hn] at hns
   have hj:(1:Int)=1∨(1:Int)=2:= .inl rfl;have hps:=xW hn au rfl;rw[hps];have hsz:=yH p (jK k);have hrun:=BO p Yi k;rw[Wj hj hk];generalize hJ p (jK k)=X at*;have pk:=fZ X.1 au
   cases hb:X.2 with
   |false=>
    rw[hb] at hrun;rw[BL hb];exact eC
   |true=>
    rw[hb] at hrun
    cases hg:cK X.1 with
    |false=>
     rw[hg] at pk;rw[BM hg];exact eC
    |true=>
     rw[hg] at pk;rw[BN hb hg];exact eC
  ·rw[hn] at hns
   have hj:(2:Int)=1∨(2:Int)=2:= .inr rfl;have hps:=xW hn au rfl;rw[hps];have hsz:=yH p (jK k);have hrun:=BO p Yi k;rw[Wj hj hk];generalize hJ p (jK k)=X at*;have pk:=fZ X.1 au
   cases hb:X.2 with
   |false=>
    rw[hb] at hrun;rw[BL hb];exact eC
   |true=>
    rw[hb] at hrun
    cases hg:cK X.1 with
    |false=>
     rw[hg] at pk;rw[BM hg];exact eC
    |true=>
     rw[hg] at pk;rw[BN hb hg];exact eC
 ·have hrk:rowAt ((az p.t).map bK) i=some [iI k.b,iI k.a,iI k.k,iI k.c,iI k.g]:=by rw[aQ,hk];rfl
  rw[hn] at hns;have hps:=xW hn au (abN hk);have hsz:=agp p k;have h1:=yG p.t (jK k);have tp:=qO p.t (jK k) au;have tq:=qO (bB p.t (jK k)).1 (Mf p k) au;have kd:=DE p Yi k.a;have pk:=fZ (N0 p k).1 au;rw[hps];unfold Mf at tq
  cases hb1:(bB p.t (jK k)).2 with
  |false=>
   rw[BL (by unfold N0;simp only[];rw[hb1];rfl)];obtain⟨T,hT⟩: ∃T,bB p.t (jK k)=(T,false):=⟨(bB p.t (jK k)).1,by rw[←hb1]⟩;rw[hT] at tp tq;exact eC
  |true=>
   obtain⟨T,hT⟩: ∃T,bB p.t (jK k)=(T,true):=⟨(bB p.t (jK k)).1,by rw[←hb1]⟩;rw[hT] at tp tq;simp only[] at tq;obtain⟨U,c,hU⟩: ∃U c,bB T ⟨k.b,F7 p k.a,k.k,k.c,k.g⟩=(U,c):=⟨_,_,rfl⟩;rw[hU] at tq
   have hM:N0 p k=(⟨U,p.aY,p.cells,p.aD,p.next⟩,c):=by unfold N0 Mf;rw[hT];simp only[];rw[hU];rfl
   rw[hM] at pk ⊢
   cases c with
   |false=>
    rw[BL rfl];exact eC
   |true=>
    cases hg:cK ⟨U,p.aY,p.cells,p.aD,p.next⟩ with
    |false=>
     rw[BM hg];rw[hg] at pk;exact eC
    |true=>
     rw[BN rfl hg];rw[hg] at pk;exact eC
 ·have hra:rowAt (p.aY.map cn) i=some [iI a.id,iI a.fr]:=by rw[aQ,ha];rfl
  rw[hn] at hns;have hps:=xW hn au (adW ha);have hrun:=OF p.aY a.id au;have hsz:=aik p a.id;have pk:=fZ (adG p a.id).1 au;rw[hps];unfold adG at pk ⊢;generalize vq p.aY a.id=Y at*;obtain⟨Y,b⟩:=Y
  cases b with
  |false=>
   rw[BL rfl];exact eC
  |true=>
   cases hg:cK ⟨p.t,Y,p.cells,p.aD,p.next⟩ with
   |false=>
    rw[BM hg];simp only[] at pk;rw[hg] at pk;exact eC
   |true=>
    rw[BN rfl hg];simp only[] at pk;rw[hg] at pk;exact eC
theorem qP {p:bu} {o:Kq} (h:TU o=true) (hp:cK p=true):p0 p o=
 (if o.kind=1 then Ac p o.name o.a else if o.kind=2 then NX p o.name o.to (decide (o.b=1)) else if o.kind=3 then KA p o.name
  else if o.kind=4 then sR p o.name o.a o.b else if o.kind=5 then qw p o.name o.a else if o.kind=6 then uv p o.name o.a
  else if o.kind=7 then xk (kJ p) else if o.kind=8 then xk (qu p o.a) else xk (jO p o.a)):=by
 unfold p0;rw[aR ⟨h,hp⟩]
theorem Sk {p:bu} {o:Kq} (h: ¬(TU o=true∧cK p=true)):p0 p o=(p,1):=by
 unfold p0;rw[aJ h]
theorem adX {o:Kq} (h:TU o=true):o.kind=1∨o.kind=2∨o.kind=3∨o.kind=4∨o.kind=5∨o.kind=6∨o.kind=7∨o.kind=8∨o.kind=9:=by
 unfold TU iU at h;simp only[dY,decide_eq_true_eq] at h;omega
theorem vD (p:bu) (o:Kq) (hS:aV p≤1048576) (hk:o.kind=7∨o.kind=8∨o.kind=9):ai C Dd [fz p,.ag (NS o)] (tPB (if o.kind=7 then kJ p else if o.kind=8 then qu p o.a else jO p o.a)) []:=by
 have r1:=Jr p hS;have r2:=KW p o.a au;have r3:=KY p o.a hS;obtain⟨k,s,t,a,b⟩:=o;refine(S8 _ _ _ _ _ _ _ _ _ _ _ _ ?_).run;simp only[] at hk r1 r2 r3 ⊢;rcases hk with rfl|rfl|rfl
 ·rw[aR rfl]
  exact eC
 ·rw[aJ (by decide),aR rfl]
  exact eC
 ·rw[aJ (by decide),aJ (by decide)]
  exact eC
theorem Sl (p:bu) (o:Kq) (hS:aV p≤1048576) (h1:o.name.size≤1048576) (h2:o.to.size≤1048576):ai C Ji [fz p,.ag (NS o)] (Zn (p0 p o)) []:=by
 have Yi:aV p≤4194304:=by omega
 have X9:=ck p Yi;have hop:=Iu o au au;have hok:=fZ p Yi
 cases h3:TU o with
 |false=>
  rw[h3] at hop;rw[Sk fun h=>by rw[h3] at h;cases h.1];refine(Dn _ _ _ _ _ _ _ _ _ _ _ _ ?_).run;exact eC
 |true=>
 cases h4:cK p with
 |false=>
  rw[h3] at hop;rw[h4] at hok;rw[Sk fun h=>by rw[h4] at h;cases h.2];refine(Dn _ _ _ _ _ _ _ _ _ _ _ _ ?_).run;exact eC
 |true=>
 rw[h3] at hop;rw[h4] at hok;have hkd:=adX h3;obtain⟨k,s,t,a,b⟩:=o;simp only[] at hkd h1 h2;refine(Dn _ _ _ _ _ _ _ _ _ _ _ _ ?_).run;rcases hkd with rfl|rfl|rfl|rfl|rfl|rfl|rfl|rfl|rfl
 ·have e:p0 p ⟨1,s,t,a,b⟩=Ac p s a:=by rw[qP h3 h4,aR rfl]
  rw[e];have r:=OC p s a hS h1;exact eC
 ·have e:p0 p ⟨2,s,t,a,b⟩=NX p s t (decide (b=1)):=by rw[qP h3 h4,aJ (show ¬((2:Int)=1) by decide),aR rfl]
  rw[e];have r:=Uh p s t (decide (b=1)) hS h1 h2;rw[←cJ] at r ⊢;exact eC
 ·have e:p0 p ⟨3,s,t,a,b⟩=KA p s:=by rw[qP h3 h4,aJ (show ¬((3:Int)=1) by decide),aJ (show ¬((3:Int)=2) by decide),aR rfl]
  rw[e];have r:=Ug p s au au;exact eC
 ·have e:p0 p ⟨4,s,t,a,b⟩=sR p s a b:=by rw[qP h3 h4,aJ (show ¬((4:Int)=1) by decide),aJ (show ¬((4:Int)=2) by decide),aJ (show ¬((4:Int)=3) by decide),aR rfl]
  rw[e];have r:=Si p s a b hS h1;exact eC
 ·have e:p0 p ⟨5,s,t,a,b⟩=qw p s a:=by rw[qP h3 h4,aJ (show ¬((5:Int)=1) by decide),aJ (show ¬((5:Int)=2) by decide),aJ (show ¬((5:Int)=3) by decide),aJ (show ¬((5:Int)=4) by decide),aR rfl]
  rw[e];have r:=MI p s a hS h1;exact eC
 ·have e:p0 p ⟨6,s,t,a,b⟩=uv p s a:=by rw[qP h3 h4,aJ (show ¬((6:Int)=1) by decide),aJ (show ¬((6:Int)=2) by decide),aJ (show ¬((6:Int)=3) by decide),aJ (show ¬((6:Int)=4) by decide),aJ (show ¬((6:Int)=5) by decide),aR rfl]
  rw[e];have r:=OE p s a hS h1;exact eC
 ·have e:p0 p ⟨7,s,t,a,b⟩=xk (kJ p):=by rw[qP h3 h4,aJ (show ¬((7:Int)=1) by decide),aJ (show ¬((7:Int)=2) by decide),aJ (show ¬((7:Int)=3) by decide),aJ (show ¬((7:Int)=4) by decide),aJ (show ¬((7:Int)=5) by decide),aJ (show ¬((7:Int)=6) by decide),aR rfl]
  rw[e];have r:=vD p ⟨7,s,t,a,b⟩ hS bZ;rw[aR (show(7:Int)=7 from rfl)] at r;generalize kJ p=Y at*;obtain⟨Y,c⟩:=Y;unfold xk
  cases c with
  |false=>
   rw[aJ bZ];exact eC
  |true=>
   rw[aR rfl];exact eC
 ·have e:p0 p ⟨8,s,t,a,b⟩=xk (qu p a):=by rw[qP h3 h4,aJ (show ¬((8:Int)=1) by decide),aJ (show ¬((8:Int)=2) by decide),aJ (show ¬((8:Int)=3) by decide),aJ (show ¬((8:Int)=4) by decide),aJ (show ¬((8:Int)=5) by decide),aJ (show ¬((8:Int)=6) by decide),aJ (show ¬((8:Int)=7) by decide),aR rfl]
  rw[e];have r:=vD p ⟨8,s,t,a,b⟩ hS bZ;rw[aJ (show ¬((8:Int)=7) by decide),aR (show(8:Int)=8 from rfl)] at r;generalize qu p a=Y at*;obtain⟨Y,c⟩:=Y;unfold xk
  cases c with
  |false=>
   rw[aJ bZ];exact eC
  |true=>
   rw[aR rfl];exact eC
 ·have e:p0 p ⟨9,s,t,a,b⟩=xk (jO p a):=by rw[qP h3 h4,aJ (show ¬((9:Int)=1) by decide),aJ (show ¬((9:Int)=2) by decide),aJ (show ¬((9:Int)=3) by decide),aJ (show ¬((9:Int)=4) by decide),aJ (show ¬((9:Int)=5) by decide),aJ (show ¬((9:Int)=6) by decide),aJ (show ¬((9:Int)=7) by decide),aJ (show ¬((9:Int)=8) by decide)]
  rw[e];have r:=vD p ⟨9,s,t,a,b⟩ hS bZ;rw[aJ (show ¬((9:Int)=7) by decide),aJ (show ¬((9:Int)=8) by decide)] at r;generalize jO p a=Y at*;obtain⟨Y,c⟩:=Y;unfold xk
  cases c with
  |false=>
   rw[aJ bZ];exact eC
  |true=>
   rw[aR rfl];exact eC
attribute [local semireducible] TH in
theorem amw (l:List Kq):aq (l.map NS) 0 (TH (Int.ofNat (List.length (l.map NS))) 200)=(l.take 200).map NS∧eP 0 (TH (Int.ofNat (List.length (l.map NS))) 200) (Int.ofNat (List.length (l.map NS)))=true:=by
 rw[cq]
 have hm:TH (Int.ofNat l.length) 200=((min l.length 200:Nat):Int):=by
  unfold TH;rw[vU]
  split<;>omega
 rw[hm,cc,F4];refine⟨?_,lB (by simp only[vU];omega)⟩;rw[oF,show(0:Int).toNat=0 from rfl,List.drop_zero]
 by_cases h:l.length≤200
 ·rw[H6 au,H6 h]
 ·rw[show min l.length 200=200 from by omega]
theorem Sm (l:List Mp) (m:Mp) (k:Nat) (hk:k≤l.length) (hl:l.length≤1073741824):ai C qd [cM l,vI (k:Int),.c (.sub 3 [dA m])] (cM (V6 l k m)) []:=by
 refine ai.ext (p:=aga 3 48) rfl ?_;unfold aga;simp only[];rw[aR ⟨trivial,trivial,by omega,by simp<;>omega,bR iE⟩,oF];unfold cM V6;rw[td,List.map_cons,Du,Bp]
theorem yT (l:List Mp) (m:Mp) (hl:l.length≤1073741000) (hs: ∀x∈l,x.l.length≤1073741824):ai C fY [cM l,.ag (dA m)] (cM (A9 l m)) []:=by
 refine(Nr _ _ _ _ _ ?_).run
 have key: ∀k:Nat,k≤l.length→I7 l m k=I7 l m l.length→aj C fY Oa 4 0 (oX (l.map dA) (k:Int) m.name m.fx (m.l.map bA)) (fun x st=>aH C fY Oa x st fun r fs=>r=cM (A9 l m)∧fs=[]):=by
  have tail: ∀k:Nat,k≤l.length→k=I7 l m l.length→ ∃(l10:RR),ai C bP ([TV.c (TC.sub 3 (l.map dA))]) (TV.c (TC.sub 3 l10)) []∧(∃(l11:RR),ai C qd ([TV.c (TC.sub 3 l10),TV.c (iI (k:Int)),TV.c (TC.sub 3 [[iS m.name,iB m.fx,TC.sub 1 (m.l.map bA)]])]) (TV.c (TC.sub 3 l11)) []∧((TV.c (TC.sub 3 l11),([]:List TV))=(cM (A9 l m),([]:List TV)))):=fun k hk he=>
   ⟨_,cZ l au hs,_,Sm l m k hk au,by rw[he];rfl⟩
  intro k
  induction k with
  |zero=>
   intro hk he;exact zm _ _ _ _ _ _ (ak bZ (JO _ _ _ _ _ _ ⟨(cM (A9 l m),[]),tail 0 hk he,tail 0 hk he,dH⟩))
  |succ k ih=>
   intro hk he
   have Cu:k<l.length:=by omega
   obtain⟨u,hu⟩: ∃u,l[k]?=some u:=⟨_,bC Cu⟩
   have hsub:dy ((k+1:Nat):Int) 1=(k:Int):=by rw[eg au];omega
   have hru:rowAt (l.map dA) (k:Int)=some [iS u.name,iB u.fx,TC.sub 1 (u.l.map bA)]:=by rw[aQ,aK,hu];rfl
   rw[V5 hu] at he;refine zm _ _ _ _ _ _ (aa iE ?_);rw[hsub];refine⟨_,_,_,hru,?_⟩
   cases hg:gtM m u with
   |true=>
    rw[hg] at he;exact aa (by unfold gtM at hg;exact hg) (ih au (by simpa using he))
   |false=>
    rw[hg] at he
    have he:k+1=I7 l m l.length:=by simpa using he
    exact ak (by unfold gtM at hg;exact hg) (JN _ _ _ _ _ _ _ ⟨(cM (A9 l m),[]),tail (k+1) hk he,tail (k+1) hk he,dH⟩)
 rw[show Int.ofNat (l.map dA).length=(l.length:Int) by simp];exact key l.length (cL _) rfl
theorem DI (l:List Mp) (v:Mp) (hl:l.length≤1073741000) (hs: ∀x∈l,x.l.length≤1073741824):ai C iw [cM l,.ag (dA v)] (cM (A9 l v)) []:=by
 have key: ∀(k:Nat) (y:Mp),k≤l.length→I7 l v k=I7 l v l.length→aj C iw jg 4 0 (pK (k:Int) v.name v.fx (v.l.map bA) ((l.take k++y::l.drop k).map dA)) (fun x st=>aH C iw jg x st fun r fs=>r=cM (A9 l v)∧fs=[]):=by
  intro k
  induction k with
  |zero=>
   intro y hk hg
   have w6:rowAt ((l.take 0++y::l.drop 0).map dA) ((0:Nat):Int)=some [iS y.name,iB y.fx,TC.sub 1 (y.l.map bA)]:=by rw[aQ,aK];rfl
   refine Fw _ _ _ _ _ _ (ak bZ (Qa _ _ _ _ _ _ ⟨_,_,_,w6,_,_,_,w6,?_⟩));refine⟨?_,rfl⟩;unfold A9;rw[←hg,show((0:Nat):Int)=0 from rfl];simp[setRow,dA,V6,I7]
  |succ k ih=>
   intro y hk hg
   have Cu:k<l.length:=by omega
   obtain⟨a,ha⟩: ∃a,l[k]?=some a:=⟨_,bC Cu⟩
   have hsub:dy ((k+1:Nat):Int) 1=(k:Int):=by rw[eg au];omega
   have htl:(l.take (k+1)).length=k+1:=by rw[c7];omega
   have hgk:(l.take (k+1)++y::l.drop (k+1))[k]?=some a:=by rw[kC au,zG,aR au,ha]
   have ag5:(l.take (k+1)++y::l.drop (k+1))[k+1]?=some y:=by rw[m7 au,htl,oI];rfl
   have hra:rowAt ((l.take (k+1)++y::l.drop (k+1)).map dA) (k:Int)=some [iS a.name,iB a.fx,TC.sub 1 (a.l.map bA)]:=by rw[aQ,aK,hgk];rfl
   have hry:rowAt ((l.take (k+1)++y::l.drop (k+1)).map dA) ((k+1:Nat):Int)=some [iS y.name,iB y.fx,TC.sub 1 (y.l.map bA)]:=by rw[aQ,aK,ag5];rfl
   have sZ: ∀u:Mp,setRow ((l.take (k+1)++y::l.drop (k+1)).map dA) ((k+1:Nat):Int) 0 [iS u.name,iB u.fx,TC.sub 1 (u.l.map bA)]=(l.take (k+1)++u::l.drop (k+1)).map dA:=fun u=>by
    rw[IZ (a:=y) (a':=u) ag5 rfl]
    congr 1
    rw[List.set_append_right _ _ au,htl,oI]
    rfl
   rw[V5 ha] at hg;refine Fw _ _ _ _ _ _ (aa iE ?_);rw[hsub];refine⟨_,_,_,hra,_,_,_,hra,?_⟩
   cases hle:gtM v a with
   |true=>
    rw[hle] at hg;refine aa (by unfold gtM at hle;exact hle) ⟨_,_,_,hra,_,_,_,hra,_,_,_,hry,_,_,_,hry,?_⟩;rw[sZ a]
    have e:l.take (k+1)++a::l.drop (k+1)=l.take k++a::l.drop k:=by
     rw[List.take_add_one,ha,zF Cu,show l[k]=a from by rw[bC Cu] at ha;exact Option.some.inj ha];simp
    rw[e];exact ih a au (by simpa using hg)
   |false=>
    rw[hle] at hg
    have hg:k+1=I7 l v l.length:=by simpa using hg
    refine ak (by unfold gtM at hle;exact hle) (P9 _ _ _ _ _ _ _ ⟨_,_,_,hry,_,_,_,hry,?_⟩);rw[sZ v];refine⟨?_,rfl⟩;unfold A9;rw[←hg];rfl
 have hstart:aj C iw jg 4 0 (pK (dy (Int.ofNat (List.length (List.append (l.map dA) [[iS v.name,iB v.fx,TC.sub 1 (v.l.map bA)]]))) 1) v.name v.fx (v.l.map bA) (List.append (l.map dA) [[iS v.name,iB v.fx,TC.sub 1 (v.l.map bA)]])) (fun x st=>aH C iw jg x st fun r fs=>(r,fs)=(cM (A9 l v),([]:List TV))):=by
  have hk:=key l.length v (cL _) rfl;rw[rj,gu] at hk;rw[xH]
  have e:dy (Int.ofNat ((l++[(⟨v.name,v.fx,v.l⟩:Mp)]).map dA).length) 1=(l.length:Int):=by
   rw[eg iE];simp
  rw[e]
  have eQ:(fun(r:TV) (fs:List TV)=>(r,fs)=(cM (A9 l v),([]:List TV)))=fun r fs=>r=cM (A9 l v)∧fs=[]:=by
   funext r fs;simp
  rw[eQ];exact hk
 have S:=And.intro (ia l au hs) (aa (B:=False) (show fits (Nat.succ (l.map dA).length) 48=true from bR iE) hstart);exact(Vi _ _ _ _ _ ⟨(cM (A9 l v),[]),⟨_,S⟩,⟨_,S⟩,dH⟩).run
theorem sX (l:List Mp) (s:ByteArray) (n:Int) (hl:l.length≤1073741000) (hs: ∀x∈l,x.l.length≤1073741824) (hz:s.size≤140737488355328):ai C oh [cM l,vS s,vI n] (TA (oc l s n)) []:=by
 refine(Nm _ _ _ _ ⟨_,ia l au hs,_,(ke s au (dR s)).2 rfl,?_⟩).run;unfold oc
 cases ha:dR s with
 |false=>exact aa rfl dH
 |true=>
  refine ak rfl ⟨_,kr l s au,?_⟩;simp only[if_true]
  by_cases h1:0≤fX l s
  ·rw[aR h1]
   exact aa (by simpa using h1) dH
  ·rw[aJ h1]
   refine ak iE ⟨_,mB n 1 12,?_⟩
   cases h2:iU n 1 12 with
   |false=>exact aa rfl dH
   |true=>
    have hn:=Hw h2;refine ak rfl ?_;simp only[if_true]
    by_cases h3:6≤l.length
    ·rw[aR h3]
     exact aa iE dH
    ·rw[aJ h3]
     refine ak iE (aa (by rw[CU,bR au];simp<;>omega) ?_);rw[show List.replicate (uX n) [iI 0]=(List.replicate n.toNat (0:Int)).map bA from by rw[CU,List.map_replicate];rfl];exact⟨_,DI l ⟨s,false,List.replicate n.toNat 0⟩ hl hs,dH⟩
theorem BP (l:List Mp) (s to:ByteArray) (fx:Bool) (hl:l.length≤1073741000) (hs: ∀x∈l,x.l.length≤1073741824) (hz:s.size≤140737488355328) (hz2:to.size≤140737488355328):ai C uC [cM l,vS s,vS to,vB fx] (TA (uq l s to fx)) []:=by
 refine(Te _ _ _ _ _ ⟨_,ia l au hs,_,kr l s au,_,(ke s au (dR s)).2 rfl,?_⟩).run;unfold uq
 cases ha:dR s with
 |false=>
  rw[aJ bZ];exact aa rfl dH
 |true=>
 refine ak rfl ⟨_,(ke to au (dR to)).2 rfl,?_⟩
 cases hb:dR to with
 |false=>
  rw[aJ bZ];exact aa rfl dH
 |true=>
 rw[aR dH];refine ak rfl ?_
 by_cases hn:fX l s<0
 ·rw[gh au]
  exact aa (by simpa using hn) dH
 ·obtain⟨m,hm,_⟩:=rL _ l (show ¬fW (fun m:Mp=>decide (m.name=s)) l 0<0 from hn)
  have hm:ew l (fX l s)=some m:=hm
  have hrow:rowAt (l.map dA) (fX l s)=some [iS m.name,iB m.fx,TC.sub 1 (m.l.map bA)]:=by rw[aQ,hm];rfl
  have hml:=hs m (nj hm);rw[hm];refine ak (by simpa using hn) ⟨_,kr l to au,?_⟩;simp only[]
  by_cases h1:0≤fX l to
  ·rw[aR h1]
   exact aa (by simpa using h1) dH
  ·rw[aJ h1]
   refine ak iE ?_
   by_cases h3:6≤l.length
   ·rw[aR h3]
    exact aa iE dH
   ·rw[aJ h3]
    exact ak iE ⟨_,_,_,hrow,aa (by rw[iG,bR iE];rfl) ⟨_,DI l ⟨to,fx,m.l⟩ hl hs,dH⟩⟩
theorem Js (l:List Mp) (s:ByteArray) (n:Int) (hl:l.length≤1073741000) (hs: ∀x∈l,x.l.length≤1073741824) (hz:s.size≤140737488355328):ai C uB [cM l,vS s,vI n] (TA (oc l s n)) []:=by
 refine(Nl _ _ _ _ ⟨_,(rV s au (dR s)).2 rfl,?_⟩).run;unfold oc
 cases ha:dR s with
 |false=>exact aa rfl ⟨_,cZ l au hs,dH⟩
 |true=>
  refine ak rfl ⟨_,oq l s au,?_⟩;simp only[if_true]
  by_cases h1:0≤fX l s
  ·rw[aR h1]
   exact aa (by simpa using h1) ⟨_,cZ l au hs,dH⟩
  ·rw[aJ h1]
   refine ak iE ⟨_,sW n 1 12,?_⟩
   cases h2:iU n 1 12 with
   |false=>exact aa rfl ⟨_,cZ l au hs,dH⟩
   |true=>
    have hn:=Hw h2;refine ak rfl ?_;simp only[if_true]
    by_cases h3:6≤l.length
    ·rw[aR h3]
     exact aa iE ⟨_,cZ l au hs,dH⟩
    ·rw[aJ h3]
     refine ak iE (aa (by rw[CU,bR au];simp<;>omega) ?_);rw[show List.replicate (uX n) [iI 0]=(List.replicate n.toNat (0:Int)).map bA from by rw[CU,List.map_replicate];rfl];exact⟨_,yT l ⟨s,false,List.replicate n.toNat 0⟩ hl hs,dH⟩
theorem MJ (l:List Mp) (s to:ByteArray) (fx:Bool) (hl:l.length≤1073741000) (hs: ∀x∈l,x.l.length≤1073741824) (hz:s.size≤140737488355328) (hz2:to.size≤140737488355328):ai C xO [cM l,vS s,vS to,vB fx] (TA (uq l s to fx)) []:=by
 refine(Td _ _ _ _ _ ⟨_,oq l s au,_,(rV s au (dR s)).2 rfl,?_⟩).run;unfold uq
 cases ha:dR s with
 |false=>
  rw[aJ bZ];exact aa rfl ⟨_,cZ l au hs,dH⟩
 |true=>
 refine ak rfl ⟨_,(rV to au (dR to)).2 rfl,?_⟩
 cases hb:dR to with
 |false=>
  rw[aJ bZ];exact aa rfl ⟨_,cZ l au hs,dH⟩
 |true=>
 rw[aR dH];refine ak rfl ?_
 by_cases hn:fX l s<0
 ·rw[gh au]
  exact aa (by simpa using hn) ⟨_,cZ l au hs,dH⟩
 ·obtain⟨m,hm,_⟩:=rL _ l (show ¬fW (fun m:Mp=>decide (m.name=s)) l 0<0 from hn)
  have hm:ew l (fX l s)=some m:=hm
  have hrow:rowAt (l.map dA) (fX l s)=some [iS m.name,iB m.fx,TC.sub 1 (m.l.map bA)]:=by rw[aQ,hm];rfl
  have hml:=hs m (nj hm);rw[hm];refine ak (by simpa using hn) ⟨_,oq l to au,?_⟩;simp only[]
  by_cases h1:0≤fX l to
  ·rw[aR h1]
   exact aa (by simpa using h1) ⟨_,cZ l au hs,dH⟩
  ·rw[aJ h1]
   refine ak iE ?_
   by_cases h3:6≤l.length
   ·rw[aR h3]
    exact aa iE ⟨_,cZ l au hs,dH⟩
   ·rw[aJ h3]
    exact ak iE ⟨_,_,_,hrow,⟨_,Ap m.l au,_,yT l ⟨to,fx,m.l⟩ hl hs,dH⟩⟩
theorem Sn (l:List Mp) (k:Nat) (hk:k<l.length):ai C Ak [cM l,vI (k:Int),vI ((k:Int)+1)] (cM (l.take k++l.drop (k+1))) []:=by
 refine ai.ext (p:=agb 3) rfl ?_;unfold agb;simp only[];rw[aR ⟨trivial,by omega,by simp<;>omega,trivial⟩,oF,show((k:Int)+1).toNat=k+1 from rfl];unfold cM;rw[td,Du,Bp]
theorem MK (l:List Mp) (s:ByteArray) (hl:l.length≤1073741000) (hs: ∀x∈l,x.l.length≤1073741824) (hz:s.size≤140737488355328):ai C xP [cM l,vS s] (TA (ur l s)) []:=by
 refine(Tf _ _ _ ⟨_,oq l s au,_,(rV s au (dR s)).2 rfl,?_⟩).run;unfold ur
 cases ha:dR s with
 |false=>exact aa rfl ⟨_,cZ l au hs,dH⟩
 |true=>
  refine ak rfl ?_;simp only[if_true]
  by_cases hn:fX l s<0
  ·rw[aR hn]
   exact aa (by simpa using hn) ⟨_,cZ l au hs,dH⟩
  ·rw[aJ hn]
   have hlt:=Qv (fun m:Mp=>decide (m.name=s)) l;have hlt:fX l s<l.length:=hlt.2;obtain⟨k,hk⟩: ∃k:Nat,fX l s=(k:Int):=⟨(fX l s).toNat,by omega⟩;rw[hk] at hlt ⊢;refine ak iE ⟨_,cZ l au hs,?_⟩;rw[aO au,oF];exact⟨_,Sn l k au,dH⟩
attribute [local semireducible] kf aq in
theorem agq {rows:RR} {k:Nat} (hk:k<rows.length):aq (kf 3 rows 0 (k:Int)) ((k:Int)+1) (Int.ofNat rows.length)=rows.drop (k+1):=by
 unfold aq kf;rw[oF,show((k:Int)+1).toNat=k+1 from rfl,show(0:Int).toNat=0 from rfl,show(Int.ofNat rows.length).toNat=rows.length from rfl,List.take_zero,tg,Nat.sub_zero];rw[H6 iE,List.drop_append,List.length_replicate,Bo bZ,tg,List.drop_drop]
 congr 1;omega
theorem BQ (l:List Mp) (s:ByteArray) (hl:l.length≤1073741000) (hs: ∀x∈l,x.l.length≤1073741824) (hz:s.size≤140737488355328):ai C uD [cM l,vS s] (TA (ur l s)) []:=by
 refine(Tg _ _ _ ⟨_,ia l au hs,_,vz l s au hz,?_⟩).run;unfold ur
 cases ha:dR s with
 |false=>exact aa bZ dH
 |true=>
  simp only[Bool.true_eq_false,if_false,if_true]
  by_cases hn:fX l s<0
  ·rw[aR hn,aR hn]
   exact aa bZ dH
  ·rw[aJ hn,aJ hn]
   have hlt:=Qv (fun m:Mp=>decide (m.name=s)) l;have hlt:fX l s<l.length:=hlt.2;refine ak bZ ⟨_,kr l s au,?_⟩;obtain⟨k,hk⟩: ∃k:Nat,fX l s=(k:Int):=⟨(fX l s).toNat,by omega⟩;rw[hk] at hlt ⊢;rw[aO au,agq iE,oF]
   have e1:aq (l.map dA) 0 (k:Int)=(l.take k).map dA:=by rw[cc];rfl
   have e2:(l.map dA).drop (k+1)=(l.drop (k+1)).map dA:=List.map_drop.symm;rw[e1,e2];refine aa iE (aa iE (aa (bR iE) (aa (bR iE) ?_)));rw[jL];exact dH
attribute [local semireducible] mg in
theorem agr (L:List Int) (n:Nat):mg ((List.replicate n (0:Int)).map bA) (L.map bA)=(KC L n).map bA:=by
 unfold mg KC;rw[cq,cq,List.length_replicate,td,Du,←Bp,List.drop_replicate]
theorem Jt (l:List Mp) (s:ByteArray) (n:Int) (hl:l.length≤1073741000) (hs: ∀x∈l,x.l.length≤1073741824) (hz:s.size≤140737488355328):ai C uE [cM l,vS s,vI n] (TA (oe l s n)) []:=by
 refine(Nn _ _ _ _ ⟨_,cZ l au hs,_,_,xo l s au hz,?_⟩).run;unfold oe
 cases h1:dR s with
 |false=>exact aa bZ dH
 |true=>
  simp only[Bool.true_eq_false,if_false]
  by_cases h2:fX l s<0
  ·rw[gh au]
   exact aa bZ dH
  ·obtain⟨m,hm⟩:=yQ h2
   have hrow:rowAt (l.map dA) (fX l s)=some [iS m.name,iB m.fx,TC.sub 1 (m.l.map bA)]:=by rw[aQ,hm];rfl
   rw[hm]
   cases h3:m.fx with
   |true=>exact aa (by simp[h3]) ⟨by simp[h3],by trivial⟩
   |false=>
    refine ak (by simp[h3]) ⟨_,sW n 1 12,?_⟩;rw[h3] at hrow
    cases h4:iU n 1 12 with
    |false=>exact aa rfl ⟨by simp[h3,h4],by trivial⟩
    |true=>
     have hn:=Hw h4;refine ak rfl (aa (by rw[CU,bR au];simp<;>omega) ⟨_,_,_,hrow,aa (iG _) ⟨_,_,_,hrow,_,_,_,hrow,?_⟩⟩);rw[show List.replicate (uX n) [iI 0]=(List.replicate n.toNat (0:Int)).map bA from by rw[CU,List.map_replicate];rfl,agr,Kt];exact⟨by simp[h3,h4],by trivial⟩
theorem yU (l:List Mp) (s:ByteArray) (n:Int) (hl:l.length≤1073741000) (hs: ∀x∈l,x.l.length≤1073741824) (hz:s.size≤140737488355328):ai C e9 [cM l,vS s,vI n] (TA (oe l s n)) []:=by
 refine(No _ _ _ _ ⟨_,ia l au hs,_,vz l s au hz,_,kr l s au,?_⟩).run;unfold oe
 cases h1:dR s with
 |false=>exact aa bZ dH
 |true=>
  simp only[Bool.true_eq_false,if_false]
  by_cases h2:fX l s<0
  ·rw[aR h2,gh au]
   exact aa bZ dH
  ·obtain⟨m,hm⟩:=yQ h2
   have hml:=hs m (nj hm)
   have hrow:rowAt (l.map dA) (fX l s)=some [iS m.name,iB m.fx,TC.sub 1 (m.l.map bA)]:=by rw[aQ,hm];rfl
   rw[aJ h2,hm];refine ak bZ ⟨_,_,_,hrow,?_⟩
   cases h3:m.fx with
   |true=>exact aa rfl ⟨by simp[h3],by trivial⟩
   |false=>
    refine ak rfl ⟨_,mB n 1 12,?_⟩
    cases h4:iU n 1 12 with
    |false=>exact aa rfl ⟨by simp[h3,h4],by trivial⟩
    |true=>
     have hn:=Hw h4;have hT:=RG m.l n.toNat;refine ak rfl ?_
     have key:aj C e9 oW 4 1 (j5 (l.map dA) n (fX l s) ((0:Nat):Int) (l.map dA) (((KC m.l n.toNat).take 0).map bA)) (fun x st=>aH C e9 oW x st fun r fs=>r=TA (l.modify (fX l s).toNat (fun x=>{x with l:=KC m.l n.toNat}),0)∧fs=[]):=by
      refine bV (KC m.l n.toNat) (fun i=>aj C e9 oW 4 1 (j5 (l.map dA) n (fX l s) (i:Int) (l.map dA) (((KC m.l n.toNat).take i).map bA)) _) ?_ ?_
      ·rw[hT]
       refine zk _ _ _ _ _ _ _ (ak iE (JM _ _ _ _ _ _ _ _ ⟨_,_,_,hrow,_,_,_,hrow,?_⟩));rw[H6 au,Kt];exact dH
      ·intro i a hi ha hd zw hnx
       rw[zw] at hnx;rw[hT] at hi;rw[afW hi] at ha
       have Wl:((KC m.l n.toNat).take i).length=i:=by rw[c7,hT];omega
       refine zk _ _ _ _ _ _ _ (aa iE ⟨_,_,_,hrow,?_⟩)
       by_cases h5:i<m.l.length
       ·have hy:rowAt (m.l.map bA) (i:Int)=some [iI a]:=by
         rw[aQ,aK,bC h5];rw[oG,bC h5] at ha
         cases ha;rfl
        refine aa iE ⟨_,_,_,hrow,_,hy,aa (by rw[CV,bR iE];rfl) ?_⟩;rw[aO au,CW];exact hnx
       ·have ha0:a=0:=by
         rw[oG,Vq au] at ha
         cases ha;rfl
        subst ha0;refine ak iE (aa (by rw[CV,bR iE];rfl) ?_);rw[aO au,CW];exact hnx
     simp only[h3,Ds,if_false,if_true];exact key
theorem Ar (l:List Mp) (o:Kq) (hl:l.length≤1073741000) (hs: ∀x∈l,x.l.length≤1073741824) (h1:o.name.size≤1073741824) (h2:o.to.size≤1073741824):ai C vP [cM l,.ag (NS o)] (TA (KD l o)) []:=by
 refine(Qb _ _ _ _ _ _ _ ⟨_,Iu o au au,?_⟩).run;unfold KD
 cases h:TU o with
 |false=>exact aa rfl ⟨_,ia l au hs,dH⟩
 |true=>
  refine ak rfl ?_;simp only[if_true]
  by_cases k1:o.kind=1
  ·rw[aR k1];exact aa (by simp[k1]) ⟨_,_,sX l o.name o.a hl hs au,dH⟩
  ·rw[aJ k1]
   refine ak (by simp[k1]) ?_
   by_cases k2:o.kind=2
   ·rw[aR k2]
    refine aa (by simp[k2]) ⟨_,_,BP l o.name o.to (cO o.b 1) hl hs au au,?_⟩;rw[cJ];exact dH
   ·rw[aJ k2]
    refine ak (by simp[k2]) ?_
    by_cases k3:o.kind=3
    ·rw[aR k3];exact aa (by simp[k3]) ⟨_,_,BQ l o.name hl hs au,dH⟩
    ·rw[aJ k3]
     refine ak (by simp[k3]) ?_
     by_cases k4:o.kind=4
     ·rw[aR k4];exact aa (by simp[k4]) ⟨_,_,uM l o.name o.a o.b au au hs,dH⟩
     ·rw[aJ k4]
      refine ak (by simp[k4]) ?_
      by_cases k5:o.kind=5
      ·rw[aR k5];exact aa (by simp[k5]) ⟨_,_,uM l o.name o.a 0 au au hs,dH⟩
      ·rw[aJ k5]
       refine ak (by simp[k5]) ?_
       by_cases k6:o.kind=6
       ·rw[aR k6];exact aa (by simp[k6]) ⟨_,_,yU l o.name o.a hl hs au,dH⟩
       ·rw[aJ k6]
        exact ak (by simp[k6]) ⟨_,ia l au hs,dH⟩
theorem Dj (b:List Int) (hb:b.length≤1048576):aU C gq [mP b] (fun r fs=>fs=[]∧ ∃h,r=ki b 0 h):=by
 refine XP _ _ ?_
 have key: ∀(d i:Nat) (h:Int),i+d=4000→aj C gq ah 4 0 (uP (b.map jh) h (i:Int)) (fun x st=>aH C gq ah x st fun r fs=>fs=[]∧ ∃h,r=ki b 0 h):=by
  intro d
  induction d with
  |zero=>
   intro i h hd;refine GV _ _ _ _ ?_
   by_cases h1:(i:Int)<(b.length:Int)
   ·exact aa iE (ak iE (SL _ _ _ _ ⟨rfl,_,rfl⟩))
   ·exact ak iE (GW _ _ _ _ ⟨rfl,_,rfl⟩)
  |succ d ih=>
   intro i h hd;refine GV _ _ _ _ ?_
   by_cases h1:(i:Int)<(b.length:Int)
   ·refine aa iE (aa iE ⟨b[i]'au,by rw[aQ,aK,bC au];rfl,?_⟩)
    rw[aO (a:=(i:Int)) au];exact ih (i+1) _ au
   ·exact ak iE (GW _ _ _ _ ⟨rfl,_,rfl⟩)
 exact key 4000 0 _ rfl
theorem KZ (b:List Int) (i h:Int) (hi:0≤i) (hb:b.length≤1048576):aU C tM [ki b i h] (Dr b fun r=> ∃x,r=vI x∧0≤x∧x≤255):=by
 refine UN _ _ _ _ ?_
 by_cases h1:i<(b.length:Int)
 ·obtain⟨x,hx⟩:=eT hi h1
  refine aa iE ⟨x,by rw[aQ,hx];rfl,aF i 1,_,?_,rfl,_,rfl,afR _⟩;rw[aO au];omega
 ·exact ak iE ⟨i,_,hi,rfl,_,rfl,afR _⟩
theorem bX (b:List Int) (i h:Int) (hi:0≤i) (hb:b.length≤1048576) (n:Int) (hn:n≤16777216):aU C aL [ki b i h,vI n] (Dr b fun r=> ∃x,r=vI x∧0≤x∧(0<n→x<n)):=by
 refine SM _ _ _ _ _ ?_
 by_cases h0:n≤0
 ·exact aa iE ⟨i,h,hi,rfl,0,rfl,Int.le_refl _,fun h=>by omega⟩
 refine ak iE ?_
 by_cases h1:n≤256
 ·obtain⟨_,_,hr,i1,Cv,hi1,rfl,x,rfl,x0,x1⟩:=KZ b i h hi hb
  refine aa iE ⟨x,_,i1,Cv,hr,ak iE ⟨i1,Cv,hi1,rfl,_,rfl,?_⟩⟩;rw[acG];have:=Zo x0 (show 0<n by omega);exact⟨this.1,fun _=>this.2⟩
 ·obtain⟨_,_,hr,i1,Cv,hi1,rfl,x,rfl,x0,x1⟩:=KZ b i h hi hb
  obtain⟨_,_,IG,i2,QA,hi2,rfl,y,rfl,y0,y1⟩:=KZ b i1 Cv hi1 hb;obtain⟨_,_,hr3,i3,h3',u6,rfl,z,rfl,z0,z1⟩:=KZ b i2 QA hi2 hb;refine ak iE ⟨x,_,i1,Cv,hr,y,_,i2,QA,IG,z,_,i3,h3',hr3,ak iE ⟨i3,h3',u6,rfl,_,rfl,?_⟩⟩;have e1:Kr x 65536=x*65536:=W5 au;have e2:Kr y 256=y*256:=W5 au;rw[acG,e1,e2,aO (a:=x*65536) au,aO au];have:=Zo (show 0≤x*65536+y*256+z by omega) (show 0<n by omega);exact⟨this.1,fun _=>this.2⟩
theorem K0 (b:List Int) (i h:Int) (hi:0≤i) (hb:b.length≤1048576) (n:Int) (hn:n≤16777216):aU C tK [ki b i h,vI n] (Dr b fun r=> ∃x,r=vB x):=by
 obtain⟨_,_,hr,i1,Cv,hi1,rfl,x,rfl,x0,x1⟩:=bX b i h hi hb n hn;exact Uv _ _ _ _ _ ⟨x,_,i1,Cv,hr,i1,Cv,hi1,rfl,_,rfl⟩
theorem ga (b:List Int) (i h:Int) (hi:0≤i) (hb:b.length≤1048576) (l:List Int) (h0:0<l.length) (hl:l.length≤1000):aU C bT [ki b i h,nq l] (Dr b fun r=> ∃x,r=vI x∧x∈l):=by
 obtain⟨_,_,hr,i1,Cv,hi1,rfl,x,rfl,x0,x1⟩:=bX b i h hi hb (l.length:Int) au;have:=x1 au;obtain⟨y,hy⟩:=eT x0 this;refine XT _ _ _ _ _ ⟨x,_,i1,Cv,by rw[cq];exact hr,y,by rw[aQ,hy];rfl,i1,Cv,hi1,rfl,y,rfl,nj hy⟩
theorem Ju:ai C vQ [] (qt (List.replicate 24 (⟨0,false,0⟩:Cell))) []:=by
 refine(Fk _ ?_).run
 first
  |exact aa bZ ⟨by simp[CU];rfl,rfl⟩
  |(simp;exact dH)
  |(simp;rfl)
theorem ags (b:List Int) (i h:Int) (hi:0≤i) (hb:b.length≤1048576):aU C kk [ki b i h] (Dr b fun r=> ∃l,r=qt l∧l.length=24):=by
 obtain⟨_,_,hr,i1,Cv,hi1,rfl,x,rfl,x0,x1⟩:=bX b i h hi hb 30 au;refine U8 _ _ _ _ ⟨_,Ju,x,_,i1,Cv,hr,?_⟩
 have key: ∀(d:Nat) (i h:Int) (l:List Cell),0≤i→d≤30→l.length=24→aj C kk ah 4 0 (pJ (d:Int) (b.map jh) i h (l.map cC)) (fun x st=>aH C kk ah x st (Dr b fun r=> ∃l,r=qt l∧l.length=24)):=by
  intro d
  induction d with
  |zero=>
   intro i h l hi hd hl;exact Fm _ _ _ _ _ _ (ak bZ (PM _ _ _ _ _ _ _ ⟨i,h,hi,rfl,l,rfl,hl⟩))
  |succ d ih=>
   intro i h l hi hd hl;obtain⟨_,_,hr,i1,Cv,hi1,rfl,x,rfl⟩:=K0 b i h hi hb 3 au;have e:dy ((d+1:Nat):Int) 1=(d:Int):=(eg au).trans au;refine Fm _ _ _ _ _ _ (aa iE ⟨x,_,i1,Cv,hr,?_⟩);rw[e]
   cases x with
   |true=>
    obtain⟨_,_,IG,i2,QA,hi2,rfl,y,rfl,y0,y1⟩:=bX b i1 Cv hi1 hb 6 au;exact aa rfl ⟨y,_,i2,QA,IG,_,uK l y au,ih _ _ _ hi2 au (by rw[CX];exact hl)⟩
   |false=>
    obtain⟨_,_,IG,i2,QA,hi2,rfl,y,rfl,hy⟩:=ga b i1 Cv hi1 hb [0,5,65535] bZ bZ;exact ak rfl ⟨y,_,i2,QA,IG,_,_,_,uL l y au,ih _ _ _ hi2 au (by rw[Kz];exact hl)⟩
 have:=x1 au;obtain⟨d,rfl⟩: ∃d:Nat,x=(d:Int):=⟨x.toNat,by omega⟩;exact key d _ _ _ hi1 au bZ
theorem ail (b:List Int) (i h:Int) (hi:0≤i) (hb:b.length≤1048576):aU C Db [ki b i h] (Dr b fun r=> ∃l,r=qt l∧l.length≤24):=by
 obtain⟨_,_,hr,i1,Cv,hi1,rfl,l,rfl,hl⟩:=ags b i h hi hb;obtain⟨_,_,IG,i2,QA,hi2,rfl,x,rfl,x0,x1⟩:=bX b i1 Cv hi1 hb 10 au;obtain⟨_,_,hr3,i3,h3',u6,rfl,y,rfl,y0,y1⟩:=bX b i2 QA hi2 hb (l.length:Int) au;have hy:=y1 au;refine XY _ _ _ _ ⟨_,_,i1,Cv,hr,x,_,i2,QA,IG,?_⟩
 (try dsimp only)
 rw[cq];refine aZ (fun e0=> ?_) fun e0=>aZ (fun e1=> ?_) fun e1=>aZ (fun e2=> ?_) fun e2=>aZ (fun e3=> ?_) fun e3=> ?_
 ·refine aa iE ⟨i2,QA,hi2,rfl,_,by rw[cc],by simp<;>omega⟩
 ·obtain⟨_,_,hr4,i4,h4',Nz,rfl,z,rfl,hz⟩:=ga b i3 h3' u6 hb [-1,999,1000] bZ bZ
  obtain⟨c,hc⟩:=eT y0 hy;refine⟨y,_,i3,h3',hr3,z,_,i4,h4',hr4,?_⟩;simp only[um,hc,bq,fj];refine⟨i4,h4',Nz,rfl,oD l y ⟨z,c.u,c.n⟩,?_,by rw[lI];omega⟩;rw[iY hc (a':=⟨z,c.u,c.n⟩) rfl]
 ·obtain⟨_,_,hr4,i4,h4',Nz,rfl,z,rfl,hz⟩:=ga b i3 h3' u6 hb [-1,5,65536] bZ bZ
  obtain⟨c,hc⟩:=eT y0 hy;refine⟨y,_,i3,h3',hr3,z,_,i4,h4',hr4,?_⟩;simp only[um,hc,bq,fj];refine⟨i4,h4',Nz,rfl,oD l y ⟨c.g,c.u,z⟩,?_,by rw[lI];omega⟩;rw[iY hc (a':=⟨c.g,c.u,z⟩) rfl]
 ·obtain⟨c,hc⟩:=eT (l:=l) (i:=0) au au
  simp only[um,hc,bq,fj];refine⟨i2,QA,hi2,rfl,oD l 0 ⟨999,c.u,c.n⟩,?_,by rw[lI];omega⟩;rw[iY hc (a':=⟨999,c.u,c.n⟩) rfl]
 ·exact⟨i2,QA,hi2,rfl,l,rfl,by omega⟩
theorem aim (b:List Int):ai C KN [mP b] (vB (decide (1048576<b.length))) []:=by
 refine(abV _ _ ⟨?_,by trivial⟩).run;simp<;>omega
def aj8 (s:ByteArray):List TC:=[.sc (.string s)]
theorem ain {l:List ByteArray} {i:Int} {s:ByteArray} (h:ew l i=some s):rowAt (l.map aj8) i=some [.sc (.string s)]:=by rw[aQ,h];rfl
theorem aio {l:List Int} {x lo hi:Int} (h:x∈l) (ha:l.all (fun y=>decide (lo≤y∧y≤hi))=true):lo≤x∧x≤hi:=th (List.all_eq_true.1 ha x h)
theorem aj9 {l:List ByteArray} {x:ByteArray} (h:x∈l) (ha:l.all dR=true):dR x=true:=List.all_eq_true.1 ha x h
theorem ef {l:List ByteArray} {x:ByteArray} (h:x∈l) (ha:l.all (fun s=>decide (s.size≤7))=true):x.size≤7:=th (List.all_eq_true.1 ha x h)
attribute [local semireducible] dW in
theorem alB {a:Int} (h0:0≤a) (h1:a≤9223372036854775807):dW .i64 a 12=a/12:=by
 show IntKind.i64.wrap (a.tdiv 12)=_;rw[Int.tdiv_eq_ediv_of_nonneg h0];exact IntWalk.i64_in _ au
theorem Qy (b:List Int) (i h:Int) (hi:0≤i) (hb:b.length≤1048576) (l:List ByteArray) (h0:0<l.length) (hl:l.length≤1000):aU C oS [ki b i h,.c (.sub 1 (l.map aj8))] (Dr b fun r=> ∃x,r=vS x∧x∈l):=by
 obtain⟨_,_,hr,i1,Cv,hi1,rfl,x,rfl,x0,x1⟩:=bX b i h hi hb (l.length:Int) au;have:=x1 au;obtain⟨y,hy⟩:=eT x0 this;exact XV _ _ _ _ _ ⟨x,_,i1,Cv,by rw[cq];exact hr,y,ain hy,i1,Cv,hi1,rfl,y,rfl,nj hy⟩
theorem agt (b:List Int) (n:Int) (h3:3≤n) (hn:n≤1000) (hb:b.length≤1048576): ∃x,3≤x∧x≤n∧ai C Aj [mP b,vI n] (vI x) []:=by
 have e:aF 3 (dW .i64 (Int.ofNat (b.map jh).length) 12)=3+(b.length:Int)/12:=by
  rw[alB iE iE,aO iE];simp
 by_cases h:n<3+(b.length:Int)/12
 ·refine⟨n,h3,Int.le_refl _,(IC _ _ _ (ak bZ ?_)).run⟩
  rw[e];exact aa (by simpa using h) dH
 ·refine⟨3+(b.length:Int)/12,by omega,by omega,(IC _ _ _ (ak bZ ?_)).run⟩
  rw[e];exact ak (by simpa using h) dH
theorem K1 (b:List Int) (i h:Int) (hi:0≤i) (hb:b.length≤1048576):aU C tL [ki b i h] (Dr b fun r=> ∃x,r=vI x∧0≤x∧x≤65535):=by
 refine UT _ _ _ _ ?_;refine cg (bX b _ _ hi hb _ (by first|omega|(simp<;>omega))) fun n3 i1 h1 hi1 hx1=> ?_;refine cg (ga b _ _ hi1 hb [0,1,2,7,65535,(aF 1 n3)] bZ bZ) fun n7 i2 h2 hi2 Qz=> ?_
 exact bO hi2 ⟨_,rfl,by
  have g2:=hx1.2 au;have g1:=hx1.1;rw[aO au] at Qz;simp only[dJ,List.not_mem_nil,or_false] at Qz
  omega⟩
theorem K2 (b:List Int) (i h:Int) (hi:0≤i) (hb:b.length≤1048576):aU C tI [ki b i h] (Dr b fun r=> ∃x,r=vS x∧dR x=true):=by
 refine UY _ _ _ _ ?_;refine vu (Qy b _ _ hi hb [⟨#[97]⟩,⟨#[98]⟩,⟨#[99]⟩,⟨#[100]⟩,⟨#[101,53]⟩] bZ bZ) fun s3 i1 h1 hi1 hx1=> ?_;exact bO hi1 ⟨_,rfl,aj9 hx1 (by decide+kernel)⟩
theorem yc (b:List Int) (i h:Int) (hi:0≤i) (hb:b.length≤1048576):aU C nu [ki b i h] (Dr b fun r=> ∃x,r=vS x∧x.size≤7):=by
 refine Tk _ _ _ _ ?_;refine vu (Qy b _ _ hi hb [⟨#[97]⟩,⟨#[97]⟩,⟨#[98]⟩,⟨#[99]⟩,⟨#[100]⟩,⟨#[65]⟩] bZ bZ) fun s3 i1 h1 hi1 hx1=> ?_;exact bO hi1 ⟨_,rfl,ef hx1 (by decide+kernel)⟩
theorem agu (b:List Int) (i h:Int) (hi:0≤i) (hb:b.length≤1048576):aU C Gl [ki b i h] (Dr b fun r=> ∃x,r=vI x∧True):=by
 refine Vj _ _ _ _ ?_;refine cg (ga b _ _ hi hb [0,0,1,2,3,5,11,12,(-1)] bZ bZ) fun n3 i1 h1 hi1 hx1=> ?_;exact bO hi1 ⟨_,rfl,by first|trivial|assumption|omega⟩
theorem yV (b:List Int) (i h:Int) (hi:0≤i) (hb:b.length≤1048576):aU C lM [ki b i h] (Dr b fun r=> ∃x,r=TV.ag (bK x)∧fM x=true):=by
 refine UA _ _ _ _ ?_;refine cg (bX b _ _ hi hb _ (by first|omega|(simp<;>omega))) fun n3 i1 h1 hi1 hx1=> ?_;refine cg (bX b _ _ hi1 hb _ (by first|omega|(simp<;>omega))) fun n7 i2 h2 hi2 Qz=> ?_;refine cg (ga b _ _ hi2 hb [0,1,1,1,2] bZ bZ) fun n11 i3 h3 u6 hx3=> ?_;refine aZ (fun e=> ?_) fun e=> ?_
 ·refine cg (bX b _ _ u6 hb _ (by first|omega|(simp<;>omega))) fun n15 i4 h4 Nz hx4=> ?_
  refine cg (ga b _ _ Nz hb [0,1,256,999] bZ bZ) fun n19 i5 h5 hi5 hx5=> ?_;have p1:=hx1.2 au;have p2:=Qz.2 au;have p3:=aio hx3 (lo:=0) (hi:=2) rfl;have q1:=hx1.1;have q2:=Qz.1;have p4:=hx4.2 au;have q4:=hx4.1;have p5:=aio hx5 (lo:=0) (hi:=999) rfl;have e1:=th ((cJ _ _).symm.trans e);exact bO hi5 ⟨⟨n3,aF 1 n7,n11,n15,n19⟩,rfl,by rw[aO au];exact af5 au au au (.inl ⟨e1,by omega⟩)⟩
 ·have p1:=hx1.2 au
  have p2:=Qz.2 au;have p3:=aio hx3 (lo:=0) (hi:=2) rfl;have q1:=hx1.1;have q2:=Qz.1;have e1:=of_decide_eq_false ((cJ _ _).symm.trans e);exact bO u6 ⟨⟨n3,aF 1 n7,n11,0,0⟩,rfl,by rw[aO au];exact af5 au au au (.inr ⟨e1,rfl,rfl⟩)⟩
theorem aip (b:List Int) (i h:Int) (hi:0≤i) (hb:b.length≤1048576):aU C Jm [ki b i h] (Dr b fun r=> ∃x,r=TV.ag (bK x)∧True):=by
 refine XQ _ _ _ _ ?_;refine Gg (yV b _ _ hi hb) fun k1 i1 h1 hi1 hx1=> ?_;refine cg (bX b _ _ hi1 hb _ (by first|omega|(simp<;>omega))) fun n11 i2 h2 hi2 Qz=> ?_;refine aZ (fun e=> ?_) fun e=> ?_
 ·refine cg (ga b _ _ hi2 hb [(-1),15,16] bZ bZ) fun n15 i3 h3 u6 hx3=> ?_
  exact bO u6 ⟨⟨n15,k1.a,k1.k,k1.c,k1.g⟩,rfl,trivial⟩
 ·refine aZ (fun e=> ?_) fun e=> ?_
  ·refine cg (ga b _ _ hi2 hb [0,60,61] bZ bZ) fun n19 i4 h4 Nz hx4=> ?_
   exact bO Nz ⟨⟨k1.b,n19,k1.k,k1.c,k1.g⟩,rfl,trivial⟩
  ·refine aZ (fun e=> ?_) fun e=> ?_
   ·refine cg (ga b _ _ hi2 hb [(-1),3] bZ bZ) fun n23 i5 h5 hi5 hx5=> ?_
    exact bO hi5 ⟨⟨k1.b,k1.a,n23,k1.c,k1.g⟩,rfl,trivial⟩
   ·refine aZ (fun e=> ?_) fun e=> ?_
    ·refine cg (ga b _ _ hi2 hb [(-1),1,23,24] bZ bZ) fun n27 i6 h6 hi6 hx6=> ?_
     exact bO hi6 ⟨⟨k1.b,k1.a,k1.k,n27,k1.g⟩,rfl,trivial⟩
    ·refine aZ (fun e=> ?_) fun e=> ?_
     ·refine cg (ga b _ _ hi2 hb [(-1),1,999,1000] bZ bZ) fun n31 i7 h7 hi7 hx7=> ?_
      exact bO hi7 ⟨⟨k1.b,k1.a,k1.k,k1.c,n31⟩,rfl,trivial⟩
     ·exact bO hi2 ⟨⟨k1.b,k1.a,k1.k,k1.c,k1.g⟩,rfl,trivial⟩
theorem aiq (b:List Int) (i h:Int) (hi:0≤i) (hb:b.length≤1048576):aU C De [ki b i h] (Dr b fun r=> ∃x,r=TV.ag (bK x)∧fM x=true):=by
 refine XO _ _ _ _ ?_;refine Gg (yV b _ _ hi hb) fun k1 i1 h1 hi1 hx1=> ?_;refine cg (bX b _ _ hi1 hb _ (by first|omega|(simp<;>omega))) fun n11 i2 h2 hi2 Qz=> ?_;exact bO hi2 ⟨⟨_,_,_,_,_⟩,rfl,ah7 hx1 ⟨Qz.1,by have:=Qz.2 au;omega⟩⟩
theorem agv (b:List Int) (i h:Int) (hi:0≤i) (hb:b.length≤1048576) (n:Int) (h0:0≤n) (hn:n≤100):aU C lN [ki b i h,vI n] (Dr b fun r=> ∃l:List Key,r=TV.c (TC.sub 5 (l.map bK))∧(l.length:Int)≤n):=by
 refine Uw _ _ _ _ _ ?_;rw[aO au];refine cg (bX b _ _ hi hb _ au) fun x i1 h1 hi1 hx=> ?_;have hx1:=hx.2 au
 have key: ∀(d:Nat) (i h:Int) (l:List Key),0≤i→(l.length:Int)+d≤n→aj C lN ah 4 0 (sx (d:Int) (b.map jh) i h (l.map bK)) (fun x st=>aH C lN ah x st (Dr b fun r=> ∃l:List Key,r=TV.c (TC.sub 5 (l.map bK))∧(l.length:Int)≤n)):=by
  intro d
  induction d with
  |zero=>
   intro i h l hi hl;exact ES _ _ _ _ _ _ (ak bZ (O1 _ _ _ _ _ _ _ (bO hi ⟨l,rfl,by omega⟩)))
  |succ d ih=>
   intro i h l hi hl;have e:dy ((d+1:Nat):Int) 1=(d:Int):=(eg au).trans au;refine ES _ _ _ _ _ _ (aa iE (Gg (yV b _ _ hi hb) fun k i2 h2 hi2 _=>⟨_,kX l k au,?_⟩));rw[e];exact ih _ _ _ hi2 (by have:=mq l k;omega)
 obtain⟨d,rfl⟩: ∃d:Nat,x=(d:Int):=⟨x.toNat,by omega⟩;exact key d _ _ [] hi1 gZ
theorem air (b:List Int) (i h:Int) (hi:0≤i) (hb:b.length≤1048576) (n:Int) (h0:0≤n) (hn:n≤100):aU C Jl [ki b i h,vI n] (Dr b fun r=> ∃l:List Key,r=TV.c (TC.sub 5 (l.map bK))∧(l.length:Int)≤n+1):=by
 refine XR _ _ _ _ _ (ux (e:=bK) (agv b _ _ hi hb n h0 hn) fun l i1 h1 hi1 hl=>cg (bX b _ _ hi1 hb _ au) fun x i2 h2 hi2 hx=>aZ (fun e0=> ?_) fun e0=>aZ (fun e1=>aZ (fun e2=> ?_) fun e2=> ?_) fun e1=> ?_)
 ·refine Gg (aip b _ _ hi2 hb) fun k i3 h3 u6 _=>aa ?_ (bO u6 ⟨l++[k],by simp[bK],by simp;omega⟩)
  rw[bR iE];simp
 ·have Bn:1<l.length:=by have:(1:Int)<l.length:=by simpa using e2
                         omega
  have g0:ew l 0=some l[0]:=by rw[show(0:Int)=((0:Nat):Int) from rfl,aK];exact bC au
  have g1:ew l 1=some l[1]:=by rw[show(1:Int)=((1:Nat):Int) from rfl,aK];exact bC Bn
  have r0:rowAt (l.map bK) 0=some (bK l[0]):=by rw[aQ,g0];rfl
  have r1:rowAt (l.map bK) 1=some (bK l[1]):=by rw[aQ,g1];rfl
  have s0:setRow (l.map bK) 0 0 (bK l[1])=(oD l 0 l[1]).map bK:=iY g0 (a':=l[1]) rfl
  have g2:ew (oD l 0 l[1]) 1=some l[1]:=by
   rw[show(1:Int)=((1:Nat):Int) from rfl,aK];unfold oD;rw[List.getElem?_set_ne bZ,bC Bn]
  have r2:rowAt ((oD l 0 l[1]).map bK) 1=some (bK l[1]):=by rw[aQ,g2];rfl
  have r3:rowAt (setRow (l.map bK) 0 0 (bK l[1])) 1=some (bK l[1]):=by rw[s0];exact r2
  have s1:setRow ((oD l 0 l[1]).map bK) 1 0 (bK l[0])=(oD (oD l 0 l[1]) 1 l[0]).map bK:=iY g2 (a':=l[0]) rfl;refine⟨_,_,_,_,_,r0,_,_,_,_,_,r0,_,_,_,_,_,r1,_,_,_,_,_,r1,_,_,_,_,_,r0,_,_,_,_,_,r0,_,_,_,_,_,r3,_,_,_,_,_,r3,bO hi2 ⟨oD (oD l 0 l[1]) 1 l[0],?_,by rw[lI,lI];omega⟩⟩;show TV.c (TC.sub 5 (setRow (setRow (l.map bK) 0 0 (bK l[1])) 1 0 (bK l[0])))=_;rw[s0,s1]
 ·exact bO hi2 ⟨l,rfl,by omega⟩
 ·exact bO hi2 ⟨l,rfl,by omega⟩
theorem agw (b:List Int) (i h:Int) (hi:0≤i) (hb:b.length≤1048576):aU C jc [ki b i h] (Dr b fun r=> ∃x:List (List Key),r=TV.ag [TC.sub 1 (x.map fO)]∧gn x=true):=by
 refine Ur _ _ _ _ (cg (bX b _ _ hi hb _ au) fun x i1 h1 hi1 hx=> ?_);have hx1:=hx.2 au
 have key: ∀(d:Nat) (i h:Int) (n:List (List Key)),d≤100→0≤i→gn n=true→aj C jc ah 4 0 (su (d:Int) (b.map jh) i h (n.map fO)) (fun x st=>aH C jc ah x st (Dr b fun r=> ∃x:List (List Key),r=TV.ag [TC.sub 1 (x.map fO)]∧gn x=true)):=by
  intro d
  induction d with
  |zero=>
   intro i h n hd hi hn;exact EM _ _ _ _ _ _ (ak bZ (OV _ _ _ _ _ _ _ (bO hi ⟨n,rfl,hn⟩)))
  |succ d ih=>
   intro i h n hd hi hn;have hs:=og hn;have e:dy ((d+1:Nat):Int) 1=(d:Int):=(eg au).trans au;refine EM _ _ _ _ _ _ (aa iE (Gg (yV b _ _ hi hb) fun k i2 h2 hi2 _=>⟨_,_,qN n k au au,?_⟩));rw[e];exact ih _ _ _ au hi2 (N5 hn k)
 obtain⟨d,rfl⟩: ∃d:Nat,x=(d:Int):=⟨x.toNat,by omega⟩
 cases d with
 |zero=>exact EL _ _ _ _ _ (ak bZ (OU _ _ _ _ _ _ (bO hi1 ⟨[],rfl,by decide+kernel⟩)))
 |succ d=>
  have e:dy ((d+1:Nat):Int) 1=(d:Int):=(eg au).trans au;refine EL _ _ _ _ _ (aa iE (Gg (yV b _ _ hi1 hb) fun k i2 h2 hi2 _=>⟨_,_,qN [] k (cW _) (cW _),?_⟩));rw[e];exact key d _ _ _ au hi2 (N5 (by decide+kernel) k)
theorem So (n m:List (List Key)):aW (n++m)=aW n+aW m:=by
 unfold aW;rw[ct,xL];omega
theorem ais (b:List Int) (i h:Int) (hi:0≤i) (hb:b.length≤1048576):aU C yM [ki b i h] (Dr b fun r=> ∃x:List (List Key),r=TV.ag [TC.sub 1 (x.map fO)]∧aW x≤40):=by
 refine XL _ _ _ _ (Xw (agw b _ _ hi hb) fun n i1 h1 hi1 hn=>cg (bX b _ _ hi1 hb _ au) fun x i2 h2 hi2 hx=> ?_);have hs:=og hn;have hz:=abC hn;refine aZ (fun e0=> ?_) fun e0=>aZ (fun e1=> ?_) fun e1=>bO hi2 ⟨n,rfl,by omega⟩
 ·refine ux (e:=bK) (air b _ _ hi2 hb 6 au au) fun l i3 h3 u6 hl=>aa (bR iE) (bO u6 ⟨n++[l],by simp[fO],?_⟩)
  rw[So]
  have:aW [l]=1+l.length:=by simp[aW,tot,c8]
  omega
 ·refine Gg (yV b _ _ hi2 hb) fun k i3 h3 u6 _=> ?_
  obtain⟨_,_,hr,i4,h4,Nz,rfl,k2,rfl,_⟩:=yV b i3 h3 u6 hb;have hfit:fits (Nat.succ (Nat.succ (List.length (n.map fO)))) 24=true:=bR iE;refine⟨(TV.ag [TC.sub 1 ((n++[[k],[k2]]).map fO)],[ki b i4 h4]),?_,?_,bO Nz ⟨_,rfl,?_⟩⟩
  ·refine⟨k2.b,k2.a,k2.k,k2.c,k2.g,_,i4,h4,hr,?_⟩
   exact aa hfit (by simp[fO,bK])
  ·refine⟨k2.b,k2.a,k2.k,k2.c,k2.g,_,i4,h4,hr,(TV.ag [TC.sub 1 ((n++[[k],[k2]]).map fO)],[ki b i4 h4]),?_,?_,rfl⟩
   ·exact aa hfit (by simp[fO,bK])
   ·exact aa hfit (by simp[fO,bK])
  ·rw[So]
   have:aW [[k],[k2]]=4:=by simp[aW,tot,c8]
   omega
theorem Jv:ai CA uH [] (eR ⟨[0],[[]]⟩) []:=(Qd _ dH).run
theorem Dk (b:List Int) (i h:Int) (hi:0≤i) (hb:b.length≤1048576) (n:Int) (hn:n≤16777216):aU CA aL [ki b i h,vI n] (Dr b fun r=> ∃x,r=vI x∧0≤x∧(0<n→x<n)):=aiG (bX b i h hi hb n hn)
theorem agx (b:List Int) (i h:Int) (hi:0≤i) (hb:b.length≤1048576):aU CA De [ki b i h] (Dr b fun r=> ∃x,r=TV.ag (bK x)∧fM x=true):=aiG (aiq b i h hi hb)
theorem ML (t:Tree) (hl:t.aA.length≤1073741824∧t.nodes.length≤1073741824) (hs: ∀n∈t.nodes,n.length≤1073741824∧ ∀s∈n,s.length≤1073741824):ai CA cH [eR t] (eR t) []:=upA (sn t hl hs)
theorem BR (t:Tree) (hl:dZ t≤1073741824):ai CA aI [eR t] (vB (de t)) []:=upA (sj t hl)
theorem Ui (b a k c g:Int) (q:Bool):ai CA sV [.ag [iI b,iI a,iI k,iI c,iI g]] (vB q) []↔q=fM ⟨b,a,k,c,g⟩:=⟨fun h=>(xV b a k c g q).1 (down zYr h),fun h=>upA ((xV b a k c g q).2 h)⟩
theorem K3 (t:Tree) (b a:Int) (hl:t.aA.length≤1073741824):ai CA eF [eR t,vI b,vI a] (vI (jJ t b a)) []:=upA (vA t b a hl)
theorem BS (t:Tree) (hn:t.nodes.length≤1073741824) (hz:tot aW t.nodes≤1073740000):ai CA gm [eR t] (vI (Iv (mz t))) []:=upA (sq t hn hz)
theorem ot (n:List (List Key)) (hb:n.length≤1073741824) (hl:tot c8 n≤1073741824) (q:RR):ai CA aN [.ag [.sub 1 (n.map fO)]] (.c (.sub 5 q)) []↔q=(aB n).map bK:=⟨fun h=>(eA n hb hl q).1 (down zYr h),fun h=>upA ((eA n hb hl q).2 h)⟩
theorem sY (l:List Key) (hl:l.length≤1073741824):ai CA aC [eo l] (o8 (cE l)) []:=upA (ju l hl)
theorem MM (t0:Tree) (hw0:t0.aA.length=t0.nodes.length) (Qg:tot aW t0.nodes+t0.nodes.length≤1073700000):ai CA aE [eR t0] (eR (j8 t0.nodes.length t0)) []:=by
 refine(Tq _ _ _ ⟨_,BS t0 au au,?_⟩).run
 have key: ∀(m:Nat) (t:Tree),t.nodes.length=m→t.aA.length=t.nodes.length→tot aW t.nodes+t.nodes.length≤1073700000→j8 m t=j8 t0.nodes.length t0→aj CA aE aG 4 0 (oC (Iv (mz t)) (t.aA.map bA) (t.nodes.map bn)) (fun x st=>aH CA aE aG x st fun r fs=>r=eR (j8 t0.nodes.length t0)∧fs=[]):=by
  intro m
  induction m with
  |zero=>
   intro t hm hw hz he
   have hp:mz t=none:=by unfold mz;rw[hm];rfl
   rw[hp];exact vG _ _ _ _ (ak (by simp[Iv]) (Cs _ _ _ _ _ ⟨by rw[←he];rfl,rfl⟩))
  |succ m ih=>
   intro t hm hw hz he;rw[vr] at he
   cases hp:mz t with
   |none=>
    rw[hp] at he;have he:t=j8 t0.nodes.length t0:=he;exact vG _ _ _ _ (ak (by simp[Iv]) (Cs _ _ _ _ _ ⟨by rw[←he],rfl⟩))
   |some i=>
   rw[hp] at he;have he:j8 m (cv t i)=j8 t0.nodes.length t0:=he;have hlt:=x9 hp;show aj CA aE aG 4 0 (oC (i:Int) (t.aA.map bA) (t.nodes.map bn)) _;obtain⟨a,ha⟩: ∃a,t.nodes[i]?=some a:=⟨_,bC au⟩;obtain⟨b,hb⟩: ∃b,t.nodes[i+1]?=some b:=⟨_,bC hlt.1⟩;have za:a.length+tot c8 a≤tot aW t.nodes:=qH (w:=aW) ha;have zb:b.length+tot c8 b≤tot aW t.nodes:=qH (w:=aW) hb;have la:=cY a;have lb:=cY b;have h6:=hlt.2
   rw[fU ha,fU hb] at h6
   have ea:aF (i:Int) 1=((i+1:Nat):Int):=by rw[aO au];omega
   have eb:aF (i:Int) 2=((i+2:Nat):Int):=by rw[aO au];omega
   have ra:rowAt (t.nodes.map bn) (i:Int)=some [TC.sub 1 (a.map fO)]:=by rw[aQ,aK,ha];rfl
   have rb:rowAt (t.nodes.map bn) ((i+1:Nat):Int)=some [TC.sub 1 (b.map fO)]:=by rw[aQ,aK,hb];rfl
   have c1:aq (t.aA.map bA) 0 ((i+1:Nat):Int)=(t.aA.take (i+1)).map bA:=by rw[cc];rfl
   have c2:aq (t.aA.map bA) ((i+2:Nat):Int) (Int.ofNat (t.aA.map bA).length)=(t.aA.drop (i+2)).map bA:=by
    rw[cc,cq,oF,show(Int.ofNat t.aA.length).toNat=t.aA.length from rfl,rj]
   have c3:aq (t.nodes.map bn) 0 (i:Int)=(t.nodes.take i).map bn:=by rw[cc];rfl
   have c4:aq (t.nodes.map bn) ((i+2:Nat):Int) (Int.ofNat (t.nodes.map bn).length)=(t.nodes.drop (i+2)).map bn:=by
    rw[cc,cq,oF,show(Int.ofNat t.nodes.length).toNat=t.nodes.length from rfl,rj]
   have hlo:i<t.aA.length:=by omega
   have eL:List.append ((t.aA.take (i+1)).map bA) ((t.aA.drop (i+2)).map bA)=(cv t i).aA.map bA:=by
    rw[jL];unfold cv mM;simp only[];rw[List.take_add_one,oG,bC hlo];simp
   have eN:List.append (List.append ((t.nodes.take i).map bn) [[TC.sub 1 ((cE (aB a++aB b)).map fO)]]) ((t.nodes.drop (i+2)).map bn)=(cv t i).nodes.map bn:=by
    rw[BF,jL];unfold cv mM;simp only[];rw[fU ha,fU hb]
   have hsz:=Ah hlt.1;have hjl:=uu hlt.1
   have hjw:(cv t i).aA.length+1=t.aA.length:=by
    have:=yF t i 2 [t.aA.getD i 0] [cE (jf t i++jf t (i+1))] au;unfold cv;simp only[ic] at this;omega
   have k1:(t.aA.take (i+1)).length≤t.aA.length:=by rw[c7];omega
   have k2:(t.aA.drop (i+2)).length≤t.aA.length:=by rw[gQ];omega
   have k3:(t.nodes.take i).length≤t.nodes.length:=by rw[c7];omega
   have k4:(t.nodes.drop (i+2)).length≤t.nodes.length:=by rw[gQ];omega
   refine vG _ _ _ _ (aa bZ ?_);rw[ea,eb];refine⟨_,ra,_,ra,_,rb,_,rb,_,(ot a au au _).2 rfl,_,(ot b au au _).2 rfl,?_⟩
   (try dsimp only)
   rw[jL,c1,c2,c3,c4]
   refine aa (by rw[lQ,bR (by simp only[cq,qi];omega)];rfl) (aa iE (aa iE (aa (by rw[iG,bR (by simp only[cq,qi];omega)];rfl) (aa (by rw[iG,bR (by simp only[cq,qi];omega)];rfl)
    (aa iE (aa iE (aa (bR (by simp only[cq,qi];omega)) ⟨_,sY (aB a++aB b) (by rw[ct];omega),aa (bR (by simp only[cq,Nat.succ_eq_add_one];omega)) ?_⟩)))))))
   rw[eL,eN];refine aa (bR (by rw[BF];simp only[cq,ct,ic,qi];omega)) ⟨_,BS (cv t i) au au,?_⟩;exact ih (cv t i) au au au he
 exact key t0.nodes.length t0 rfl hw0 Qg rfl
theorem K4 (n:List (List Key)) (k:Key) (hb:n.length≤1073740000) (hl:tot c8 n≤1073740000):ai CA oU [o8 n,BD k] (tNB (cF n k)) []:=upA (qN n k hb hl)
theorem wW (t:Tree) (i:Nat) (lw:List Int) (nd:List (List (List Key))) (h1:i+1≤t.aA.length) (h2:i+1≤t.nodes.length) (hl:t.aA.length≤1073741824) (hn:t.nodes.length≤1073741824) (hlw:lw.length≤1073741824) (Ya:nd.length≤1073741824):ai CA bg [eR t,vI (i:Int),nq lw,afI nd] (eR (mM t i 1 lw nd)) []:=by
 have e1:aq (t.aA.map bA) 0 (i:Int)=(t.aA.take i).map bA:=by rw[cc];rfl
 have e2:aq (t.aA.map bA) ((i:Int)+1) (Int.ofNat (t.aA.map bA).length)=(t.aA.drop (i+1)).map bA:=by
  rw[cc,cq,show((i:Int)+1).toNat=i+1 from by omega,show(Int.ofNat t.aA.length).toNat=t.aA.length from rfl,rj]
 have e3:aq (t.nodes.map bn) 0 (i:Int)=(t.nodes.take i).map bn:=by rw[cc];rfl
 have ea:aF (i:Int) 1=(i:Int)+1:=aO au
 have k1:(t.aA.take i).length≤t.aA.length:=by rw[c7];omega
 have k2:(t.aA.drop (i+1)).length≤t.aA.length:=by rw[gQ];omega
 have k3:(t.nodes.take i).length≤t.nodes.length:=by rw[c7];omega
 have k4:(t.nodes.drop (i+1)).length≤t.nodes.length:=by rw[gQ];omega
 have e4:aq (t.nodes.map bn) ((i:Int)+1) (Int.ofNat (t.nodes.map bn).length)=(t.nodes.drop (i+1)).map bn:=by
  rw[cc,cq,show((i:Int)+1).toNat=i+1 from by omega,show(Int.ofNat t.nodes.length).toNat=t.nodes.length from rfl,rj]
 refine(Vl _ _ _ _ _ _ ?_).run;rw[ea,e1,e2,e3,e4,jL,jL,jL,jL]
 refine aa iE (aa iE (aa (by rw[iG,bR iE];rfl) (aa (by rw[iG,bR (by simp only[cq,qi];omega)];rfl) (aa (by rw[iG,bR (by simp only[cq,ct,qi];omega)];rfl)
  (aa iE (aa iE (aa (bR iE) (aa (bR (by simp only[cq,qi];omega)) (aa (bR (by simp only[cq,ct,qi];omega)) ?_)))))))))
 exact dH
theorem Sp (l:List Key) (hl:l.length≤1073741824):ai CA cT [eo l] (eo (kH l)) []:=upA (vR l hl)
theorem MN (l:List Key) (x:Key) (hl:l.length≤1073741824):ai CA bH [eo l,BD x] (eo (eB l x)) []:=upA (kX l x hl)
theorem Sq (b a k c g q:Int):ai CA iA [.ag [iI b,iI a,iI k,iI c,iI g]] (vI q) []↔q=dz b a:=⟨fun h=>(vT b a k c g q).1 (down zYr h),fun h=>upA ((vT b a k c g q).2 h)⟩
theorem K5 (t:Tree) (k:Key) (hz:dZ t≤4194304) (hroom:de t=true→fM k=true→(kH (eB (az t) k)).length≤60):ai CA jo [eR t,BD k] (FF (bB t k)) []:=by
 have hN:=Aq hz;have X9:ai CA cH [eR t] (eR t) []:=ML t hN.1 hN.2;refine(Qe _ _ _ _ _ _ _ _ ⟨_,_,X9,_,BR t au,?_⟩).run
 cases h1:de t with
 |false=>exact aa rfl ⟨by unfold bB;rw[aJ (by rw[h1];simp)],rfl⟩
 |true=>
 refine ak rfl ⟨_,(Ui _ _ _ _ _ _).2 rfl,?_⟩;change ax (!fM k) _ _
 cases h2:fM k with
 |false=>exact aa rfl ⟨by unfold bB;rw[aJ (by rw[h2];simp)],rfl⟩
 |true=>
 obtain⟨i,hi,hil⟩:=RT h1 h2;have hlen:=nM h1
 have hw:ai CA eF [eR t,vI k.b,vI k.a] (vI (i:Int)) []:=by rw[←hi];exact K3 t k.b k.a au
 have hrow:rowAt (t.nodes.map bn) (i:Int)=some [TC.sub 1 (t.nodes[i].map fO)]:=by rw[aQ,aK,bC hil];rfl
 have Yd:rowAt (t.aA.map bA) (i:Int)=some [iI (t.aA.getD i 0)]:=by
  rw[aQ,aK,oG,bC au];rfl
 have hg:t.nodes.getD i []=t.nodes[i]:=by rw[oG,bC hil];rfl
 have hok:=qv h1 (tV hil);have hsz:=og hok;have hps:=F9 t.nodes[i] k;have hpt:=Ga t.nodes[i] k;have hkl:=qJ t.nodes[i] k;have hnk:=cY t.nodes[i];obtain⟨hp1,X8,hp3⟩:=ZD (k:=k) h1 hil
 have hR:bB t k=if de (j8 (jN t i k).nodes.length (jN t i k))=true then(j8 (jN t i k).nodes.length (jN t i k),true) else(t,false):=by
  unfold bB;rw[aR ⟨h1,h2⟩,hi,oF]
 have fin: ∀Q:QV,Q (FF (bB t k)) []→ ∃(l39 l40:RR),ai CA aE [eR (jN t i k)] (.ag [.sub 1 l39,.sub 1 l40]) []∧(∃b:Bool,ai CA aI [.ag [.sub 1 l39,.sub 1 l40]] (vB b) []∧(ax (!b) (False) (Q (.tu [(1,[.sub 1 l39,.sub 1 l40]),(0,[iB true])]) []))):=by
  intro Q hQ;have h3:=(RY h1 h2).2.2 (hroom h1 h2);rw[hi,oF] at h3;refine⟨_,_,MM (jN t i k) X8 au,_,BR _ au,?_⟩;rw[hR,aR h3] at hQ;exact ak (by rw[h3];rfl) hQ
 have np:=K4 t.nodes[i] k au au;have hx:=wW t i [t.aA.getD i 0] [(cF t.nodes[i] k).1] au au au au bZ bZ;refine ak rfl ⟨_,hw,_,hrow,?_⟩
 cases hp:(cF t.nodes[i] k).2 with
 |false=>
  have hno:=(Ja hok h2 hp).1
  have cno:(!(cF t.nodes[i] k).2)=true:=by rw[hp];rfl
  obtain⟨ks,hks⟩: ∃ks,ks=cQ t.nodes[i] k:=⟨_,rfl⟩;rw[←hks] at hno hkl;have hh:=Xk hno;obtain⟨h,hhe⟩: ∃h,h=(ks.length+1)/2:=⟨_,rfl⟩
  have hq:dW .i64 (aF (Int.ofNat (List.length (ks.map bK))) 1) 2=(h:Int):=by rw[cq,alA au,hhe]
  have hkk:rowAt (ks.map bK) (h:Int)=some [iI (ks.getD h eK).b,iI (ks.getD h eK).a,iI (ks.getD h eK).k,iI (ks.getD h eK).c,iI (ks.getD h eK).g]:=by
   rw[aQ,aK,oG,bC au];rfl
  have ep:jN t i k=mM t i 1 [t.aA.getD i 0,dz (ks.getD h eK).b (ks.getD h eK).a] [cE (ks.take h),cE (ks.drop h)]:=by
   unfold jN;rw[hg,aJ (by rw[hp];simp),←hks,←hhe]
  have rp:=wW t i [t.aA.getD i 0,dz (ks.getD h eK).b (ks.getD h eK).a] [cE (ks.take h),cE (ks.drop h)] au au au au bZ bZ;rw[←ep] at rp
  have e1:aq (ks.map bK) 0 (h:Int)=(ks.take h).map bK:=by rw[cc];rfl
  have e2:aq (ks.map bK) (h:Int) (Int.ofNat (List.length (ks.map bK)))=(ks.drop h).map bK:=by
   rw[cc,cq,oF,show(Int.ofNat ks.length).toNat=ks.length from rfl,rj]
  have nn1:ai CA aC [.c (.sub 5 (aq (ks.map bK) 0 (h:Int)))] (o8 (cE (ks.take h))) []:=by rw[e1];exact sY _ (by rw[c7];omega)
  have nn2:ai CA aC [.c (.sub 5 (aq (ks.map bK) (h:Int) (Int.ofNat (List.length (ks.map bK)))))] (o8 (cE (ks.drop h))) []:=by rw[e2];exact sY _ (by rw[gQ];omega)
  have c1:eP 0 (h:Int) (Int.ofNat (List.length (ks.map bK)))=true:=by rw[F4];simp;omega
  have c2:eP (h:Int) (Int.ofNat (List.length (ks.map bK))) (Int.ofNat (List.length (ks.map bK)))=true:=by rw[F4];simp;omega
  have kw:ai CA cT [eo (eB (aB t.nodes[i]) k)] (eo ks) []:=by
   rw[hks];exact Sp (eB (aB t.nodes[i]) k) (by have:=mq (aB t.nodes[i]) k;omega)
  clear hks hhe hR
  repeat' first
   |refine⟨_,hrow,?_⟩
   |refine⟨_,Yd,?_⟩
   |refine⟨_,_,np,?_⟩
   |refine⟨_,_,hx,?_⟩
   |refine aa cno ?_
   |refine⟨_,kw,?_⟩
   |refine⟨_,(ot t.nodes[i] au au _).2 rfl,?_⟩
   |refine⟨_,MN (aB t.nodes[i]) k au,?_⟩
   |refine ak (by rw[cJ];rfl) ?_
   |rw[hq]
   |refine⟨_,_,_,_,_,hkk,?_⟩
   |refine aa c1 ?_
   |refine aa c2 ?_
   |refine⟨_,(Sq _ _ _ _ _ _).2 rfl,?_⟩
   |refine⟨_,nn1,?_⟩
   |refine⟨_,nn2,?_⟩
   |refine⟨_,_,rp,?_⟩
   |refine⟨(FF (bB t k),([]:List TV)),?_,?_,rfl⟩
   |refine⟨(FF (bB t k),([]:List TV)),?_,?_,dH⟩
   |exact fin (fun a b=>(a,b)=(FF (bB t k),([]:List TV))) rfl
   |exact fin (fun r fs=>r=FF (bB t k)∧fs=[]) dH
 |true=>
  have cno:(!(cF t.nodes[i] k).2)=false:=by rw[hp];rfl
  by_cases hc:0<i∧(aB (cF t.nodes[i] k).1).length=0
  ·have ci:cP 0 (i:Int)=true:=by rw[mO];simp;omega
   have nk:=(ot (cF t.nodes[i] k).1 au au _).2 rfl
   have cl:cO (Int.ofNat (List.length ((aB (cF t.nodes[i] k).1).map bK))) 0=true:=by rw[cJ,cq,hc.2];rfl
   have ep:jN t i k=mM t i 1 [] []:=by unfold jN;rw[hg,aR hp,aR hc]
   have rp:=wW t i [] [] au au au au bZ bZ;rw[←ep] at rp;clear hR
   repeat' first
   |refine⟨_,hrow,?_⟩
   |refine⟨_,Yd,?_⟩
   |refine⟨_,_,np,?_⟩
   |refine⟨_,_,hx,?_⟩
   |refine ak cno ?_
   |refine aa ci ?_
   |refine⟨_,nk,?_⟩
   |refine aa cl ?_
   |refine⟨_,_,rp,?_⟩
   |refine⟨(FF (bB t k),([]:List TV)),?_,?_,rfl⟩
   |refine⟨(FF (bB t k),([]:List TV)),?_,?_,dH⟩
   |exact fin (fun a b=>(a,b)=(FF (bB t k),([]:List TV))) rfl
   |exact fin (fun r fs=>r=FF (bB t k)∧fs=[]) dH
  ·have ep:mM t i 1 [t.aA.getD i 0] [(cF t.nodes[i] k).1]=jN t i k:=by
    unfold jN;rw[hg,aR hp,aJ hc]
   rw[ep] at hx;clear hR
   by_cases hi0:0<i
   ·have ci:cP 0 (i:Int)=true:=by rw[mO];simp;omega
    have nk:=(ot (cF t.nodes[i] k).1 au au _).2 rfl
    have cl:cO (Int.ofNat (List.length ((aB (cF t.nodes[i] k).1).map bK))) 0=false:=by
     rw[cJ,cq];exact lH fun e=>hc ⟨hi0,by have e:((aB (cF t.nodes[i] k).1).length:Int)=0:=e;omega⟩
    repeat' first
   |refine⟨_,hrow,?_⟩
   |refine⟨_,Yd,?_⟩
   |refine⟨_,_,np,?_⟩
   |refine⟨_,_,hx,?_⟩
   |refine ak cno ?_
   |refine aa ci ?_
   |refine⟨_,nk,?_⟩
   |refine ak cl ?_
   |refine⟨(FF (bB t k),([]:List TV)),?_,?_,rfl⟩
   |refine⟨(FF (bB t k),([]:List TV)),?_,?_,dH⟩
   |exact fin (fun a b=>(a,b)=(FF (bB t k),([]:List TV))) rfl
   |exact fin (fun r fs=>r=FF (bB t k)∧fs=[]) dH
   ·have ci:cP 0 (i:Int)=false:=by rw[mO];simp;omega
    repeat' first
   |refine⟨_,hrow,?_⟩
   |refine⟨_,Yd,?_⟩
   |refine⟨_,_,np,?_⟩
   |refine⟨_,_,hx,?_⟩
   |refine ak cno ?_
   |refine ak ci ?_
   |refine⟨(FF (bB t k),([]:List TV)),?_,?_,rfl⟩
   |refine⟨(FF (bB t k),([]:List TV)),?_,?_,dH⟩
   |exact fin (fun a b=>(a,b)=(FF (bB t k),([]:List TV))) rfl
   |exact fin (fun r fs=>r=FF (bB t k)∧fs=[]) dH
theorem adY (b:List Int) (i h:Int) (hi:0≤i) (hb:b.length≤1048576) (n:Int) (h0:0≤n) (hn:n≤55):aU CA lK [ki b i h,vI n] (Dr b fun r=> ∃t:Tree,r=eR t∧de t=true∧((az t).length:Int)≤n):=by
 refine Tp _ _ _ _ _ ⟨_,_,Jv,?_⟩;rw[aO au];refine cg (Dk b _ _ hi hb _ au) fun x i1 h1 hi1 hx=> ?_;have hx1:=hx.2 au
 have key: ∀(d:Nat) (i h:Int) (t:Tree),0≤i→de t=true→((az t).length:Int)+d≤n→aj CA lK ah 4 0 (q8 (d:Int) (b.map jh) i h (t.aA.map bA) (t.nodes.map bn)) (fun x st=>aH CA lK ah x st (Dr b fun r=> ∃t:Tree,r=eR t∧de t=true∧((az t).length:Int)≤n)):=by
  intro d
  induction d with
  |zero=>
   intro i h t hi ht hl;exact Cq _ _ _ _ _ _ _ (ak bZ (Nv _ _ _ _ _ _ _ _ (bO hi ⟨t,rfl,ht,by omega⟩)))
  |succ d ih=>
   intro i h t hi ht hl;have hz:=HA ht;have e:dy ((d+1:Nat):Int) 1=(d:Int):=(eg au).trans au
   refine Cq _ _ _ _ _ _ _ (aa iE (Gg (agx b _ _ hi hb) fun k i2 h2 hi2 hk=>⟨_,_,_,K5 t k au (fun _ _=>by
    have h3:(kH (eB (az t) k)).length≤(eB (az t) k).length:=QD _ _;have h4:=mq (az t) k
    omega),?_⟩))
   rw[e];exact ih _ _ _ hi2 (ZT ht k) (by have:=Xu ht hk;omega)
 obtain⟨d,rfl⟩: ∃d:Nat,x=(d:Int):=⟨x.toNat,by omega⟩;exact key d _ _ ⟨[0],[[]]⟩ hi1 abB (by rw[show az ⟨[0],[[]]⟩=[] from rfl];simp;omega)
theorem agy (b:List Int) (i h:Int) (hi:0≤i) (hb:b.length≤1048576) (l:List Int) (h0:0<l.length) (hl:l.length≤1000):aU CA bT [ki b i h,nq l] (Dr b fun r=> ∃x,r=vI x∧x∈l):=aiG (ga b i h hi hb l h0 hl)
theorem aab (b:List Int) (i h:Int) (hi:0≤i) (hb:b.length≤1048576):aU CA yM [ki b i h] (Dr b fun r=> ∃x:List (List Key),r=TV.ag [TC.sub 1 (x.map fO)]∧aW x≤40):=aiG (ais b i h hi hb)
theorem agz (l:List (List (List Key))) (i:Nat) (m:List (List Key)):tot aW (l.set i m)≤tot aW l+aW m:=by
 induction l generalizing i with
 |nil=>simp[tot]
 |cons a r ih=>
  cases i with
  |zero=>simp only[List.set_cons_zero,tot];omega
  |succ i=>have:=ih i;simp only[List.set_cons_succ,tot];omega
theorem aac: ∀(l:List (List (List Key))) (i:Nat) (m:List (List Key)),((l.set i m).flatMap aB).length≤(l.flatMap aB).length+(aB m).length
 |[],i,m=>by simp
 |a::r,0,m=>by simp only[List.set_cons_zero,List.flatMap_cons,ct];omega
 |a::r,i+1,m=>by have:=aac r i m;simp only[List.set_cons_succ,List.flatMap_cons,ct];omega
theorem agA (b:List Int) (i h:Int) (hi:0≤i) (hb:b.length≤1048576) (n:Int) (h0:0≤n) (hn:n≤55):aU CA Da [ki b i h,vI n] (Dr b fun r=> ∃t:Tree,r=eR t∧dZ t≤400∧(de t=true→((az t).length:Int)≤n+8)):=by
 refine Vk _ _ _ _ _ (acS (adY b _ _ hi hb n h0 hn) fun t i1 h1 hi1 ht=>cg (Dk b _ _ hi1 hb _ au) fun x i2 h2 hi2 hx=> ?_);obtain⟨ht,hl⟩:=ht;have hz:=HA ht;have htl:=nM ht;have htt:=Jb ht;have e1:dZ t=t.aA.length+(t.nodes.length+tot aW t.nodes):=rfl;refine aZ (fun e0=> ?_) fun e0=>aZ (fun e1=> ?_) fun e1=>aZ (fun e2=> ?_) fun e2=>aZ (fun e3=> ?_) fun e3=> ?_
 ·obtain⟨_,_,hr3,i3,h3,u6,rfl,z,rfl,z0,z1⟩:=Dk b i2 h2 hi2 hb (t.aA.length:Int) au
  obtain⟨_,_,hr4,i4,h4,Nz,rfl,v,rfl,_⟩:=agy b i3 h3 u6 hb [0,-1,1,300] bZ bZ;obtain⟨u,hu⟩:=eT z0 (z1 au)
  have hrow:rowAt (t.aA.map bA) z=some [iI u]:=by rw[aQ,hu];rfl
  have sZ:setRow (t.aA.map bA) z 0 [iI v]=(oD t.aA z v).map bA:=iY hu (a':=v) rfl;rw[show Int.ofNat (List.length (t.aA.map bA))=(t.aA.length:Int) from by simp]
  have A: ∀Q:QV,Q (eR ⟨oD t.aA z v,t.nodes⟩) [ki b i4 h4]→ ∃(n13:Int) (l14:RR) (n15 n16:Int),ai CA aL [ki b i2 h2,vI (t.aA.length:Int)] (vI n13) [TV.bx [TC.sub 1 l14,iI n15,iI n16]]∧ ∃(n17:Int) (l18:RR) (n19 n20:Int),ai CA bT [TV.bx [TC.sub 1 l14,iI n15,iI n16],TV.c (TC.sub 1 [[iI 0],[iI (-1)],[iI 1],[iI 300]])] (vI n17) [TV.bx [TC.sub 1 l18,iI n19,iI n20]]∧ ∃n21:Int,rowAt (t.aA.map bA) n13=some [iI n21]∧ ∃n22:Int,rowAt (t.aA.map bA) n13=some [iI n22]∧Q (TV.ag [TC.sub 1 (setRow (t.aA.map bA) n13 0 [iI n17]),TC.sub 1 (t.nodes.map bn)]) [TV.bx [TC.sub 1 l18,iI n19,iI n20]]:=fun Q hQ=>
   ⟨z,_,i3,h3,hr3,v,_,i4,h4,hr4,u,hrow,u,hrow,by rw[sZ];exact hQ⟩
  refine⟨(eR ⟨oD t.aA z v,t.nodes⟩,[ki b i4 h4]),A (fun u w=>(u,w)=(eR ⟨oD t.aA z v,t.nodes⟩,[ki b i4 h4])) rfl,A (fun u w=>(u,w)=(eR ⟨oD t.aA z v,t.nodes⟩,[ki b i4 h4])) rfl,bO Nz ⟨_,rfl,?_,fun _=> ?_⟩⟩
  ·show(oD t.aA z v).length+(t.nodes.length+tot aW t.nodes)≤400
   rw[lI];omega
  ·show((az t).length:Int)≤n+8
   omega
 ·refine Xw (aab b _ _ hi2 hb) fun m i3 h3 u6 hm=>aa (bR iE) (bO u6 ⟨⟨t.aA,t.nodes++[m]⟩,by simp[bn],?_,fun hk=> ?_⟩)
  ·show t.aA.length+((t.nodes++[m]).length+tot aW (t.nodes++[m]))≤400
   rw[xL,ct];simp[tot];omega
  ·have hm8:=og (qv hk (n:=m) bZ)
   have:=cY m;show(((t.nodes++[m]).flatMap aB).length:Int)≤n+8;have e5:(az t).length=(t.nodes.flatMap aB).length:=rfl;rw[List.flatMap_append,ct];simp only[List.flatMap_cons,List.flatMap_nil,m0];omega
 ·refine cg (Dk b _ _ hi2 hb _ iE) fun z i3 h3 u6 hz3=>Xw (aab b _ _ u6 hb) fun m i4 h4 Nz hm=> ?_
  obtain⟨u,hu⟩:=eT (l:=t.nodes) hz3.1 (by have:=hz3.2 iE;simpa using this)
  have hrow:rowAt (t.nodes.map bn) z=some [TC.sub 1 (u.map fO)]:=by rw[aQ,hu];rfl
  have sZ:setRow (t.nodes.map bn) z 0 [TC.sub 1 (m.map fO)]=(oD t.nodes z m).map bn:=iY hu (a':=m) rfl;refine⟨_,hrow,_,hrow,?_⟩;rw[sZ];refine bO Nz ⟨⟨t.aA,oD t.nodes z m⟩,rfl,?_,fun hk=> ?_⟩
  ·show t.aA.length+((oD t.nodes z m).length+tot aW (oD t.nodes z m))≤400
   have:=agz t.nodes z.toNat m;rw[lI];unfold oD;omega
  ·have hzl:=(afS hu)
   have hm8:=og (qv hk (n:=m) (by show m∈t.nodes.set z.toNat m;exact List.mem_set au m));have:=cY m;have h6:=aac t.nodes z.toNat m;show(((t.nodes.set z.toNat m).flatMap aB).length:Int)≤n+8;have e5:(az t).length=(t.nodes.flatMap aB).length:=rfl;omega
 ·exact bO hi2 ⟨⟨[],[]⟩,rfl,by simp[dZ,xF,tot],fun _=>by rw[show az ⟨[],[]⟩=[] from rfl];simp;omega⟩
 ·exact bO hi2 ⟨t,rfl,by omega,fun _=>by omega⟩
theorem agB (b:List Int) (i h:Int) (hi:0≤i) (hb:b.length≤1048576):aU C iz [ki b i h] (Dr b fun r=> ∃l:List mS,r=TV.c (TC.sub 2 (l.map cn))∧iJ l=true):=by
 refine UQ _ _ _ _ (cg (bX b _ _ hi hb _ au) fun x i1 h1 hi1 hx=> ?_);have hx1:=hx.2 au
 have key: ∀(d:Nat) (i h:Int) (l:List mS),d≤100→0≤i→iJ l=true→aj C iz ah 4 0 (lg (d:Int) (b.map jh) i h (l.map cn)) (fun x st=>aH C iz ah x st (Dr b fun r=> ∃l:List mS,r=TV.c (TC.sub 2 (l.map cn))∧iJ l=true)):=by
  intro d
  induction d with
  |zero=>
   intro i h l hd hi hl;exact Fa _ _ _ _ _ _ (ak bZ (Pw _ _ _ _ _ _ _ (bO hi ⟨l,rfl,hl⟩)))
  |succ d ih=>
   intro i h l hd hi hl;have hlen:=RZ hl;have e:dy ((d+1:Nat):Int) 1=(d:Int):=(eg au).trans au
   have tail: ∀(i h fr:Int),0≤i→ ∃(n24:Int) (l25:RR) (n26 n27:Int),ai C aL [ki b i h,vI 8] (vI n24) [TV.bx [TC.sub 1 l25,iI n26,iI n27]]∧ ∃(l28:RR) (b29:Bool),ai C fe [qq l,vI (aF 1 n24),vI fr] (TV.tu [(0,[TC.sub 2 l28]),(0,[iB b29])]) []∧aj C iz ah 4 0 (lg (d:Int) l25 n26 n27 l28) (fun x st=>aH C iz ah x st (Dr b fun r=> ∃l:List mS,r=TV.c (TC.sub 2 (l.map cn))∧iJ l=true)):=fun i h fr hi=>
    cg (bX b _ _ hi hb _ au) fun z i2 h2 hi2 hz=>⟨_,_,so l (aF 1 z) fr au,ih _ _ _ au hi2 (adO hl _ _)⟩
   refine Fa _ _ _ _ _ _ (aa iE ?_);rw[e];refine aZ (fun e1=>Xv (K0 b _ _ hi hb 4 au) fun y i2 h2 hi2=>aZ (fun e2=> ?_) fun e2=>tail _ _ _ hi2) fun e1=>tail _ _ _ hi
   have e1':0<l.length:=by simpa using e1
   refine cg (bX b _ _ hi2 hb _ iE) fun z i3 h3 u6 hz=> ?_;obtain⟨a,ha⟩:=eT (l:=l) hz.1 (by have:=hz.2 iE;simpa using this)
   have hrow:rowAt (l.map cn) z=some [iI a.id,iI a.fr]:=by rw[aQ,ha];rfl
   exact⟨_,_,hrow,_,_,hrow,tail _ _ _ u6⟩
 obtain⟨d,rfl⟩: ∃d:Nat,x=(d:Int):=⟨x.toNat,by omega⟩;exact key d _ _ [] au hi1 (by decide+kernel)
theorem ait (b:List Int) (i h:Int) (hi:0≤i) (hb:b.length≤1048576):aU C mA [ki b i h] (Dr b fun r=> ∃l:List mS,r=TV.c (TC.sub 2 (l.map cn))∧l.length≤40):=by
 refine XU _ _ _ _ (ux (e:=cn) (agB b _ _ hi hb) fun l i1 h1 hi1 hl=>cg (bX b _ _ hi1 hb _ au) fun x i2 h2 hi2 hx=> ?_);have hlen:=RZ hl;refine aZ (fun e0=> ?_) fun e0=>aZ (fun e1=>aZ (fun e2=> ?_) fun e2=>bO hi2 ⟨l,rfl,by omega⟩) fun e1=>aZ (fun e2=> ?_) fun e2=>bO hi2 ⟨l,rfl,by omega⟩
 ·refine cg (ga b _ _ hi2 hb [0,3,60,61] bZ bZ) fun z i3 h3 u6 _=>cg (ga b _ _ u6 hb [0,1,9,-1] bZ bZ) fun y i4 h4 Nz _=>aa ?_ (bO Nz ⟨l++[⟨z,y⟩],by simp[cn],by simp;omega⟩)
  rw[bR iE];simp
 ·have e2':0<l.length:=by simpa using e2
  refine cg (ga b _ _ hi2 hb [1,2,3] bZ bZ) fun z i3 h3 u6 _=> ?_
  have h0:ew l 0=some l[0]:=by rw[show(0:Int)=((0:Nat):Int) from rfl,aK];exact bC e2'
  have hrow:rowAt (l.map cn) 0=some [iI l[0].id,iI l[0].fr]:=by rw[aQ,h0];rfl
  have sZ:setRow (l.map cn) 0 1 [iI z]=(oD l 0 ⟨l[0].id,z⟩).map cn:=iY h0 (a':=⟨l[0].id,z⟩) rfl;refine⟨_,_,hrow,_,_,hrow,?_⟩;rw[sZ];exact bO u6 ⟨_,rfl,by rw[lI];omega⟩
 ·have key: ∀(d k:Nat) (m:List mS),k+d=14→m.length+d≤40→aj C mA mD 4 1 (uQ (k:Int) (b.map jh) i2 h2 (m.map cn)) (fun x st=>aH C mA mD x st (Dr b fun r=> ∃l:List mS,r=TV.c (TC.sub 2 (l.map cn))∧l.length≤40)):=by
   intro d
   induction d with
   |zero=>
    intro k m hk hm;exact GX _ _ _ _ _ _ (ak iE (SP _ _ _ _ _ _ (bO hi2 ⟨m,rfl,by omega⟩)))
   |succ d ih=>
    intro k m hk hm;refine GX _ _ _ _ _ _ (aa iE (aa ?_ ?_))
    ·rw[bR iE];simp
    ·rw[aO (a:=(k:Int)) au,xG]
     exact ih (k+1) _ au gZ
  exact key 14 0 l rfl au
theorem MO (b:List Int) (i h:Int) (hi:0≤i) (hb:b.length≤1048576):aU C uF [ki b i h] (Dr b fun r=> ∃x,r=TV.ag (NS x)∧x.name.size≤7∧x.to.size≤7):=by
 refine SQ _ _ _ _ ?_;refine cg (ga b _ _ hi hb [1,1,1,2,2,3,4,4,4,4,4,4,5,6,7,7,8,9] bZ bZ) fun n3 i1 h1 hi1 hx1=> ?_;refine aZ (fun e=> ?_) fun e=> ?_
 ·refine vu (Qy b _ _ hi1 hb [⟨#[97]⟩,⟨#[97]⟩,⟨#[98]⟩,⟨#[99]⟩,⟨#[100]⟩] bZ bZ) fun s7 i2 h2 hi2 Qz=> ?_
  refine aZ (fun e=> ?_) fun e=> ?_
  ·refine aZ (fun e=> ?_) fun e=> ?_
   ·refine cg (ga b _ _ hi2 hb [1,3,4,12,5] bZ bZ) fun n11 i3 h3 u6 hx3=> ?_
    exact bO u6 ⟨⟨n3,s7,(lX),n11,0⟩,rfl,by first|exact cW _|assumption|exact ef ir (by decide+kernel)|exact bQ (aX ir).2 (by decide),by first|exact cW _|assumption|exact ef ir (by decide+kernel)|exact bQ (aX ir).2 (by decide)⟩
   ·refine aZ (fun e=> ?_) fun e=> ?_
    ·refine vu (K2 b _ _ hi2 hb) fun s15 i4 h4 Nz hx4=> ?_
     refine cg (ga b _ _ Nz hb [0,0,0,1] bZ bZ) fun n19 i5 h5 hi5 hx5=> ?_;exact bO hi5 ⟨⟨n3,s7,s15,0,n19⟩,rfl,by first|exact cW _|assumption|exact ef ir (by decide+kernel)|exact bQ (aX ir).2 (by decide),by first|exact cW _|assumption|exact ef ir (by decide+kernel)|exact bQ (aX ir).2 (by decide)⟩
    ·refine aZ (fun e=> ?_) fun e=> ?_
     ·refine cg (bX b _ _ hi2 hb _ (by first|omega|(simp<;>omega))) fun n23 i6 h6 hi6 hx6=> ?_
      refine cg (K1 b _ _ hi6 hb) fun n27 i7 h7 hi7 hx7=> ?_;exact bO hi7 ⟨⟨n3,s7,(lX),n23,n27⟩,rfl,by first|exact cW _|assumption|exact ef ir (by decide+kernel)|exact bQ (aX ir).2 (by decide),by first|exact cW _|assumption|exact ef ir (by decide+kernel)|exact bQ (aX ir).2 (by decide)⟩
     ·refine aZ (fun e=> ?_) fun e=> ?_
      ·refine cg (bX b _ _ hi2 hb _ (by first|omega|(simp<;>omega))) fun n31 i8 h8 hi8 hx8=> ?_
       exact bO hi8 ⟨⟨n3,s7,(lX),n31,0⟩,rfl,by first|exact cW _|assumption|exact ef ir (by decide+kernel)|exact bQ (aX ir).2 (by decide),by first|exact cW _|assumption|exact ef ir (by decide+kernel)|exact bQ (aX ir).2 (by decide)⟩
      ·refine aZ (fun e=> ?_) fun e=> ?_
       ·refine aZ (fun e=> ?_) fun e=> ?_
        ·refine cg (bX b _ _ hi2 hb _ (by first|omega|(simp<;>omega))) fun n35 i9 h9 hi9 hx9=> ?_
         exact bO hi9 ⟨⟨n3,s7,(lX),n35,0⟩,rfl,by first|exact cW _|assumption|exact ef ir (by decide+kernel)|exact bQ (aX ir).2 (by decide),by first|exact cW _|assumption|exact ef ir (by decide+kernel)|exact bQ (aX ir).2 (by decide)⟩
        ·exact bO hi2 ⟨⟨n3,s7,(lX),0,0⟩,rfl,by first|exact cW _|assumption|exact ef ir (by decide+kernel)|exact bQ (aX ir).2 (by decide),by first|exact cW _|assumption|exact ef ir (by decide+kernel)|exact bQ (aX ir).2 (by decide)⟩
       ·refine aZ (fun e=> ?_) fun e=> ?_
        ·refine cg (bX b _ _ hi2 hb _ (by first|omega|(simp<;>omega))) fun n39 i10 h10 aoc aqC=> ?_
         exact bO aoc ⟨⟨n3,s7,(lX),n39,0⟩,rfl,by first|exact cW _|assumption|exact ef ir (by decide+kernel)|exact bQ (aX ir).2 (by decide),by first|exact cW _|assumption|exact ef ir (by decide+kernel)|exact bQ (aX ir).2 (by decide)⟩
        ·exact bO hi2 ⟨⟨n3,s7,(lX),0,0⟩,rfl,by first|exact cW _|assumption|exact ef ir (by decide+kernel)|exact bQ (aX ir).2 (by decide),by first|exact cW _|assumption|exact ef ir (by decide+kernel)|exact bQ (aX ir).2 (by decide)⟩
  ·refine aZ (fun e=> ?_) fun e=> ?_
   ·refine cg (ga b _ _ hi2 hb [1,3,4,12,5] bZ bZ) fun n43 i11 h11 aod aqD=> ?_
    exact bO aod ⟨⟨n3,s7,(lX),n43,0⟩,rfl,by first|exact cW _|assumption|exact ef ir (by decide+kernel)|exact bQ (aX ir).2 (by decide),by first|exact cW _|assumption|exact ef ir (by decide+kernel)|exact bQ (aX ir).2 (by decide)⟩
   ·refine aZ (fun e=> ?_) fun e=> ?_
    ·refine vu (K2 b _ _ hi2 hb) fun s47 i12 h12 aoe aqE=> ?_
     refine cg (ga b _ _ aoe hb [0,0,0,1] bZ bZ) fun n51 i13 h13 aof aqF=> ?_;exact bO aof ⟨⟨n3,s7,s47,0,n51⟩,rfl,by first|exact cW _|assumption|exact ef ir (by decide+kernel)|exact bQ (aX ir).2 (by decide),by first|exact cW _|assumption|exact ef ir (by decide+kernel)|exact bQ (aX ir).2 (by decide)⟩
    ·refine aZ (fun e=> ?_) fun e=> ?_
     ·refine cg (bX b _ _ hi2 hb _ (by first|omega|(simp<;>omega))) fun n55 i14 h14 aog aqG=> ?_
      refine cg (K1 b _ _ aog hb) fun n59 i15 h15 aoh aqH=> ?_;exact bO aoh ⟨⟨n3,s7,(lX),n55,n59⟩,rfl,by first|exact cW _|assumption|exact ef ir (by decide+kernel)|exact bQ (aX ir).2 (by decide),by first|exact cW _|assumption|exact ef ir (by decide+kernel)|exact bQ (aX ir).2 (by decide)⟩
     ·refine aZ (fun e=> ?_) fun e=> ?_
      ·refine cg (bX b _ _ hi2 hb _ (by first|omega|(simp<;>omega))) fun n63 i16 h16 aoi aqI=> ?_
       exact bO aoi ⟨⟨n3,s7,(lX),n63,0⟩,rfl,by first|exact cW _|assumption|exact ef ir (by decide+kernel)|exact bQ (aX ir).2 (by decide),by first|exact cW _|assumption|exact ef ir (by decide+kernel)|exact bQ (aX ir).2 (by decide)⟩
      ·refine aZ (fun e=> ?_) fun e=> ?_
       ·refine aZ (fun e=> ?_) fun e=> ?_
        ·refine cg (bX b _ _ hi2 hb _ (by first|omega|(simp<;>omega))) fun n67 i17 h17 aoj aqJ=> ?_
         exact bO aoj ⟨⟨n3,s7,(lX),n67,0⟩,rfl,by first|exact cW _|assumption|exact ef ir (by decide+kernel)|exact bQ (aX ir).2 (by decide),by first|exact cW _|assumption|exact ef ir (by decide+kernel)|exact bQ (aX ir).2 (by decide)⟩
        ·exact bO hi2 ⟨⟨n3,s7,(lX),0,0⟩,rfl,by first|exact cW _|assumption|exact ef ir (by decide+kernel)|exact bQ (aX ir).2 (by decide),by first|exact cW _|assumption|exact ef ir (by decide+kernel)|exact bQ (aX ir).2 (by decide)⟩
       ·refine aZ (fun e=> ?_) fun e=> ?_
        ·refine cg (bX b _ _ hi2 hb _ (by first|omega|(simp<;>omega))) fun n71 i18 h18 aok aqK=> ?_
         exact bO aok ⟨⟨n3,s7,(lX),n71,0⟩,rfl,by first|exact cW _|assumption|exact ef ir (by decide+kernel)|exact bQ (aX ir).2 (by decide),by first|exact cW _|assumption|exact ef ir (by decide+kernel)|exact bQ (aX ir).2 (by decide)⟩
        ·exact bO hi2 ⟨⟨n3,s7,(lX),0,0⟩,rfl,by first|exact cW _|assumption|exact ef ir (by decide+kernel)|exact bQ (aX ir).2 (by decide),by first|exact cW _|assumption|exact ef ir (by decide+kernel)|exact bQ (aX ir).2 (by decide)⟩
 ·refine aZ (fun e=> ?_) fun e=> ?_
  ·refine aZ (fun e=> ?_) fun e=> ?_
   ·refine cg (ga b _ _ hi1 hb [1,3,4,12,5] bZ bZ) fun n75 i19 h19 aol aqL=> ?_
    exact bO aol ⟨⟨n3,(lX),(lX),n75,0⟩,rfl,by first|exact cW _|assumption|exact ef ir (by decide+kernel)|exact bQ (aX ir).2 (by decide),by first|exact cW _|assumption|exact ef ir (by decide+kernel)|exact bQ (aX ir).2 (by decide)⟩
   ·refine aZ (fun e=> ?_) fun e=> ?_
    ·refine vu (K2 b _ _ hi1 hb) fun s79 i20 h20 aom aqM=> ?_
     refine cg (ga b _ _ aom hb [0,0,0,1] bZ bZ) fun n83 i21 h21 aon aqN=> ?_;exact bO aon ⟨⟨n3,(lX),s79,0,n83⟩,rfl,by first|exact cW _|assumption|exact ef ir (by decide+kernel)|exact bQ (aX ir).2 (by decide),by first|exact cW _|assumption|exact ef ir (by decide+kernel)|exact bQ (aX ir).2 (by decide)⟩
    ·refine aZ (fun e=> ?_) fun e=> ?_
     ·refine cg (bX b _ _ hi1 hb _ (by first|omega|(simp<;>omega))) fun n87 i22 h22 aoo aqO=> ?_
      refine cg (K1 b _ _ aoo hb) fun n91 i23 h23 aop aqP=> ?_;exact bO aop ⟨⟨n3,(lX),(lX),n87,n91⟩,rfl,by first|exact cW _|assumption|exact ef ir (by decide+kernel)|exact bQ (aX ir).2 (by decide),by first|exact cW _|assumption|exact ef ir (by decide+kernel)|exact bQ (aX ir).2 (by decide)⟩
     ·refine aZ (fun e=> ?_) fun e=> ?_
      ·refine cg (bX b _ _ hi1 hb _ (by first|omega|(simp<;>omega))) fun n95 i24 h24 aoq aqQ=> ?_
       exact bO aoq ⟨⟨n3,(lX),(lX),n95,0⟩,rfl,by first|exact cW _|assumption|exact ef ir (by decide+kernel)|exact bQ (aX ir).2 (by decide),by first|exact cW _|assumption|exact ef ir (by decide+kernel)|exact bQ (aX ir).2 (by decide)⟩
      ·refine aZ (fun e=> ?_) fun e=> ?_
       ·refine aZ (fun e=> ?_) fun e=> ?_
        ·refine cg (bX b _ _ hi1 hb _ (by first|omega|(simp<;>omega))) fun n99 i25 h25 aor aqR=> ?_
         exact bO aor ⟨⟨n3,(lX),(lX),n99,0⟩,rfl,by first|exact cW _|assumption|exact ef ir (by decide+kernel)|exact bQ (aX ir).2 (by decide),by first|exact cW _|assumption|exact ef ir (by decide+kernel)|exact bQ (aX ir).2 (by decide)⟩
        ·exact bO hi1 ⟨⟨n3,(lX),(lX),0,0⟩,rfl,by first|exact cW _|assumption|exact ef ir (by decide+kernel)|exact bQ (aX ir).2 (by decide),by first|exact cW _|assumption|exact ef ir (by decide+kernel)|exact bQ (aX ir).2 (by decide)⟩
       ·refine aZ (fun e=> ?_) fun e=> ?_
        ·refine cg (bX b _ _ hi1 hb _ (by first|omega|(simp<;>omega))) fun n103 i26 h26 aos aqS=> ?_
         exact bO aos ⟨⟨n3,(lX),(lX),n103,0⟩,rfl,by first|exact cW _|assumption|exact ef ir (by decide+kernel)|exact bQ (aX ir).2 (by decide),by first|exact cW _|assumption|exact ef ir (by decide+kernel)|exact bQ (aX ir).2 (by decide)⟩
        ·exact bO hi1 ⟨⟨n3,(lX),(lX),0,0⟩,rfl,by first|exact cW _|assumption|exact ef ir (by decide+kernel)|exact bQ (aX ir).2 (by decide),by first|exact cW _|assumption|exact ef ir (by decide+kernel)|exact bQ (aX ir).2 (by decide)⟩
  ·refine aZ (fun e=> ?_) fun e=> ?_
   ·refine cg (ga b _ _ hi1 hb [1,3,4,12,5] bZ bZ) fun n107 i27 h27 aot aqT=> ?_
    exact bO aot ⟨⟨n3,(lX),(lX),n107,0⟩,rfl,by first|exact cW _|assumption|exact ef ir (by decide+kernel)|exact bQ (aX ir).2 (by decide),by first|exact cW _|assumption|exact ef ir (by decide+kernel)|exact bQ (aX ir).2 (by decide)⟩
   ·refine aZ (fun e=> ?_) fun e=> ?_
    ·refine vu (K2 b _ _ hi1 hb) fun s111 i28 h28 aou aqU=> ?_
     refine cg (ga b _ _ aou hb [0,0,0,1] bZ bZ) fun n115 i29 h29 aov aqV=> ?_;exact bO aov ⟨⟨n3,(lX),s111,0,n115⟩,rfl,by first|exact cW _|assumption|exact ef ir (by decide+kernel)|exact bQ (aX ir).2 (by decide),by first|exact cW _|assumption|exact ef ir (by decide+kernel)|exact bQ (aX ir).2 (by decide)⟩
    ·refine aZ (fun e=> ?_) fun e=> ?_
     ·refine cg (bX b _ _ hi1 hb _ (by first|omega|(simp<;>omega))) fun n119 i30 h30 aow aqW=> ?_
      refine cg (K1 b _ _ aow hb) fun n123 i31 h31 aox aqX=> ?_;exact bO aox ⟨⟨n3,(lX),(lX),n119,n123⟩,rfl,by first|exact cW _|assumption|exact ef ir (by decide+kernel)|exact bQ (aX ir).2 (by decide),by first|exact cW _|assumption|exact ef ir (by decide+kernel)|exact bQ (aX ir).2 (by decide)⟩
     ·refine aZ (fun e=> ?_) fun e=> ?_
      ·refine cg (bX b _ _ hi1 hb _ (by first|omega|(simp<;>omega))) fun n127 i32 h32 aoy aqY=> ?_
       exact bO aoy ⟨⟨n3,(lX),(lX),n127,0⟩,rfl,by first|exact cW _|assumption|exact ef ir (by decide+kernel)|exact bQ (aX ir).2 (by decide),by first|exact cW _|assumption|exact ef ir (by decide+kernel)|exact bQ (aX ir).2 (by decide)⟩
      ·refine aZ (fun e=> ?_) fun e=> ?_
       ·refine aZ (fun e=> ?_) fun e=> ?_
        ·refine cg (bX b _ _ hi1 hb _ (by first|omega|(simp<;>omega))) fun n131 i33 h33 aoz aqZ=> ?_
         exact bO aoz ⟨⟨n3,(lX),(lX),n131,0⟩,rfl,by first|exact cW _|assumption|exact ef ir (by decide+kernel)|exact bQ (aX ir).2 (by decide),by first|exact cW _|assumption|exact ef ir (by decide+kernel)|exact bQ (aX ir).2 (by decide)⟩
        ·exact bO hi1 ⟨⟨n3,(lX),(lX),0,0⟩,rfl,by first|exact cW _|assumption|exact ef ir (by decide+kernel)|exact bQ (aX ir).2 (by decide),by first|exact cW _|assumption|exact ef ir (by decide+kernel)|exact bQ (aX ir).2 (by decide)⟩
       ·refine aZ (fun e=> ?_) fun e=> ?_
        ·refine cg (bX b _ _ hi1 hb _ (by first|omega|(simp<;>omega))) fun n135 i34 h34 aoA aq0=> ?_
         exact bO aoA ⟨⟨n3,(lX),(lX),n135,0⟩,rfl,by first|exact cW _|assumption|exact ef ir (by decide+kernel)|exact bQ (aX ir).2 (by decide),by first|exact cW _|assumption|exact ef ir (by decide+kernel)|exact bQ (aX ir).2 (by decide)⟩
        ·exact bO hi1 ⟨⟨n3,(lX),(lX),0,0⟩,rfl,by first|exact cW _|assumption|exact ef ir (by decide+kernel)|exact bQ (aX ir).2 (by decide),by first|exact cW _|assumption|exact ef ir (by decide+kernel)|exact bQ (aX ir).2 (by decide)⟩
theorem adZ (b:List Int) (i h:Int) (hi:0≤i) (hb:b.length≤1048576) (n:Int) (h0:0≤n) (hn:n≤1000):aU C jn [ki b i h,vI n] (Dr b fun r=> ∃p:bu,r=fz p∧cK p=true∧aV p≤500):=by
 refine SZ _ _ _ _ _ ⟨_,_,_,_,_,_,Mz,?_⟩;rw[aO au];refine cg (bX b _ _ hi hb _ au) fun x i1 h1 hi1 hx=> ?_
 have key: ∀(d:Nat) (i h:Int) (p:bu),0≤i→d≤2000→cK p=true→aV p≤500→aj C jn ah 4 0 (qR (d:Int) (p.t.aA.map bA) (p.t.nodes.map bn) p.next (b.map jh) i h (p.aY.map cn) (p.cells.map cC) (p.aD.map dh)) (fun x st=>aH C jn ah x st (Dr b fun r=> ∃p:bu,r=fz p∧cK p=true∧aV p≤500)):=by
  intro d
  induction d with
  |zero=>
   intro i h p hi hd hp hz;exact Cg _ _ _ _ _ _ _ _ _ _ _ (ak bZ (M3 _ _ _ _ _ _ _ _ _ _ _ _ (bO hi ⟨p,rfl,hp,hz⟩)))
  |succ d ih=>
   intro i h p hi hd hp hz;have e:dy ((d+1:Nat):Int) 1=(d:Int):=(eg au).trans au;refine Cg _ _ _ _ _ _ _ _ _ _ _ (aa iE (af6 (MO b _ _ hi hb) fun o i2 h2 hi2 ho=>⟨_,_,_,_,_,_,_,Sl p o au au au,?_⟩));rw[e];exact ih _ _ _ hi2 au (adN hp o) (by have:=adJ p o;omega)
 have:=hx.2 au;have:=hx.1;obtain⟨d,rfl⟩: ∃d:Nat,x=(d:Int):=⟨x.toNat,by omega⟩;exact key d _ _ W7 hi1 au abA (by decide+kernel)
theorem HO (l m:List (Int)) (hl:l.length≤1073741824) (he:l.length=m.length):ai C eI [nq l,nq m] (vB ((dK l.length (kz jl l m)))) []:=by
 refine(EK _ _ _ ?_).run;refine ak (by simp[he]) ?_
 have key:((List.range' 0 (l.length-0)).all (kz jl l m))=(dK l.length (kz jl l m))→aj C eI ah 4 0 (kK (l.map bA) (m.map bA) ((0:Nat):Int)) (fun u st=>aH C eI ah u st fun r fs=>r=vB ((dK l.length (kz jl l m)))∧fs=[]):=by
  refine rK (l.length) (fun i=>((List.range' i (l.length-i)).all (kz jl l m))=(dK l.length (kz jl l m))→aj C eI ah 4 0 (kK (l.map bA) (m.map bA) i) (fun u st=>aH C eI ah u st fun r fs=>r=vB ((dK l.length (kz jl l m)))∧fs=[])) ?_ ?_
  ·intro h0
   refine AK _ _ _ _ (ak bZ (Le _ _ _ _ _ ?_));rw[oI] at h0;simp only[List.range'_zero,tQ,eO] at h0;rw[←h0];exact dH
  ·intro i hi hn h0
   rw[nK hi,tP] at h0;have ha:l[i]?=some l[i]:=bC hi
   have gO:(kz jl l m) i=false→(dK l.length (kz jl l m))=false:=fun e=>by rw[←h0,e];rfl
   have gN:(kz jl l m) i=true→aj C eI ah 4 0 (kK (l.map bA) (m.map bA) ((i:Int)+1)) (fun u st=>aH C eI ah u st fun r fs=>r=vB ((dK l.length (kz jl l m)))∧fs=[]):=fun e=>hn (by rw[←h0,e];rfl);refine AK _ _ _ _ (aa gZ ?_);have hb:m[i]?=some m[i]:=bC au;have e:kz jl l m i=jl l[i] m[i]:=BG ha hb;simp only[yA,aK,ha,hb,bq,fj];rw[aO au]
   cases h1:jl l[i] m[i] with
   |false=>exact aa (show(!jl l[i] m[i])=true by rw[h1];rfl) (Ld _ (by rw[gO (by rw[e];exact h1)];exact dH))
   |true=>exact ak (show(!jl l[i] m[i])=false by rw[h1];rfl) (gN (by rw[e];exact h1))
 exact key rfl
theorem Jw (l m:List (Int)) (hl:l.length≤1073741824):ai C eI [nq l,nq m] (vB (Zg jl l m)) []:=by
 by_cases he:l.length=m.length
 ·rw[RA he];exact HO l m hl he
 ·rw[W8 he]
  refine(EK _ _ _ (aa gZ ?_)).run;exact dH
theorem Jx (l m:List Mp) (hl:l.length≤1073741824) (he:l.length=m.length) (hs: ∀x∈l,x.l.length≤1073741824):ai C cG [cM l,cM m] (vB ((dK l.length (kz jm l m)))) []:=by
 refine(Ft _ _ _ ?_).run;refine ak (by simp[he]) ?_
 have key:((List.range' 0 (l.length-0)).all (kz jm l m))=(dK l.length (kz jm l m))→aj C cG ah 4 0 (kN (l.map dA) (m.map dA) ((0:Nat):Int)) (fun u st=>aH C cG ah u st fun r fs=>r=vB ((dK l.length (kz jm l m)))∧fs=[]):=by
  refine rK (l.length) (fun i=>((List.range' i (l.length-i)).all (kz jm l m))=(dK l.length (kz jm l m))→aj C cG ah 4 0 (kN (l.map dA) (m.map dA) i) (fun u st=>aH C cG ah u st fun r fs=>r=vB ((dK l.length (kz jm l m)))∧fs=[])) ?_ ?_
  ·intro h0
   refine AT _ _ _ _ (ak bZ (Ls _ _ _ _ _ ?_));rw[oI] at h0;simp only[List.range'_zero,tQ,eO] at h0;rw[←h0];exact dH
  ·intro i hi hn h0
   rw[nK hi,tP] at h0;have ha:l[i]?=some l[i]:=bC hi
   have gO:(kz jm l m) i=false→(dK l.length (kz jm l m))=false:=fun e=>by rw[←h0,e];rfl
   have gN:(kz jm l m) i=true→aj C cG ah 4 0 (kN (l.map dA) (m.map dA) ((i:Int)+1)) (fun u st=>aH C cG ah u st fun r fs=>r=vB ((dK l.length (kz jm l m)))∧fs=[]):=fun e=>hn (by rw[←h0,e];rfl);refine AT _ _ _ _ (aa gZ ?_);have hb:m[i]?=some m[i]:=bC au;have e:kz jm l m i=jm l[i] m[i]:=BG ha hb;have e2:jm l[i] m[i]=(FE l[i].name m[i].name&&(eqB l[i].fx m[i].fx&&Zg jl l[i].l m[i].l)):=rfl;rw[e2] at e;simp only[yB,aK,ha,hb,bq,fj]
   rw[aO au]
   cases h1:FE l[i].name m[i].name with
   |false=>exact aa rfl (uU _ (by rw[gO (by rw[e];first|(rw[h1,h2,h3];rfl)|(rw[h1,h2];rfl)|(rw[h1];rfl))];exact dH))
   |true=>
    refine ak rfl ?_
    cases h2:eqB l[i].fx m[i].fx with
    |false=>exact aa rfl (uU _ (by rw[gO (by rw[e];first|(rw[h1,h2,h3];rfl)|(rw[h1,h2];rfl)|(rw[h1];rfl))];exact dH))
    |true=>
     refine ak rfl ⟨_,Jw _ _ (hs _ (tV hi)),?_⟩
     cases h3:Zg jl l[i].l m[i].l with
     |false=>exact aa rfl (uU _ (by rw[gO (by rw[e];first|(rw[h1,h2,h3];rfl)|(rw[h1,h2];rfl)|(rw[h1];rfl))];exact dH))
     |true=>exact ak rfl (gN (by rw[e];first|(rw[h1,h2,h3];rfl)|(rw[h1,h2];rfl)|(rw[h1];rfl)))
 exact key rfl
theorem K6 (l m:List Mp) (hl:l.length≤1073741824) (hs: ∀x∈l,x.l.length≤1073741824):ai C cG [cM l,cM m] (vB (Zg jm l m)) []:=by
 by_cases he:l.length=m.length
 ·rw[RA he];exact Jx l m hl he hs
 ·rw[W8 he]
  refine(Ft _ _ _ (aa gZ ?_)).run;exact dH
theorem aad {α:Type} {f:α→α→Bool} {l:List α} (h: ∀a∈l,f a a=true):Zg f l l=true:=by
 rw[RA rfl]
 exact uo.2 fun i hi=>by rw[BG (bC hi) (bC hi)];exact h _ (tV hi)
theorem abO (x:Mp):jm x x=true:=by
 have h1:FE x.name x.name=true:=by unfold FE;simp
 have h2:eqB x.fx x.fx=true:=by unfold eqB;simp
 have h3:Zg jl x.l x.l=true:=aad fun a _=>by unfold jl;simp
 unfold jm;rw[h1,h2,h3];rfl
theorem yd (l:List Mp):Zg jm l l=true:=aad fun a _=>abO a
theorem oV {l:List Mp} (h:rB l):l.length≤1073741000:=bQ h.1 (by decide)
theorem u9 {l:List Mp} (h:rB l): ∀x∈l,x.l.length≤1073741824:=fun x hx=>bQ (h.2 x hx).2.1 (by decide)
theorem ye (b:List Int) (i h:Int) (hi:0≤i) (hb:b.length≤1048576):aU C eE [ki b i h] (Dr b fun r=> ∃l:List Mp,r=cM l∧rB l):=by
 refine Tj _ _ _ _ (cg (bX b _ _ hi hb 8 au) fun x i1 h1 hi1 hx=> ?_);have hx1:=hx.2 au
 have key: ∀(d:Nat) (i h:Int) (l:List Mp),0≤i→d≤2000→rB l→aj C eE ah 4 0 (qU (l.map dA) (d:Int) (b.map jh) i h) (fun x st=>aH C eE ah x st (Dr b fun r=> ∃l:List Mp,r=cM l∧rB l)):=by
  intro d
  induction d with
  |zero=>
   intro i h l hi hd hl;exact Cn _ _ _ _ _ _ (ak bZ (Nq _ _ _ _ _ _ _ (bO hi ⟨l,rfl,hl⟩)))
  |succ d ih=>
   intro i h l hi hd hl;have e:dy ((d+1:Nat):Int) 1=(d:Int):=(eg au).trans au;refine Cn _ _ _ _ _ _ (aa iE (af6 (MO b _ _ hi hb) fun o i2 h2 hi2 ho=>⟨_,_,Ar l o (oV hl) (u9 hl) au au,?_⟩));rw[e];exact ih _ _ _ hi2 au (N7 hl o)
 obtain⟨d,rfl⟩: ∃d:Nat,x=(d:Int):=⟨x.toNat,by omega⟩
 cases d with
 |zero=>exact Cm _ _ _ _ _ (ak bZ (Np _ _ _ _ _ _ (bO hi1 ⟨[],rfl,ZU⟩)))
 |succ d=>
  have e:dy ((d+1:Nat):Int) 1=(d:Int):=(eg au).trans au;refine Cm _ _ _ _ _ (aa iE (af6 (MO b _ _ hi1 hb) fun o i2 h2 hi2 ho=>⟨_,_,Ar [] o (cW _) (fun x hx=>by cases hx) au au,?_⟩));rw[e];exact key d _ _ _ hi2 au (N7 ZU o)
theorem aae (b:List Int) (hb:b.length≤1048576):aU C yL [mP b] (fun r fs=>fs=[]∧ ∃(l:List Mp) (s:ByteArray),r= .tu [(0,[.sub 3 (l.map dA)]),(0,[iS s])]∧rB l∧s.size≤7):=by
 refine Nt _ _ ?_;refine Jf (Dj b hb) fun h1=> ?_;refine ux (ye b _ _ (Int.le_refl 0) hb) fun v2 i2 h2 hi2 Qz=> ?_;refine vu (yc b _ _ hi2 hb) fun s8 i3 h3 u6 hx3=> ?_;exact⟨rfl,v2,_,rfl,Qz,hx3⟩
theorem Uj (b:List Int) (hb:b.length≤1048576):aU C qL [mP b] (fun r fs=>fs=[]∧ ∃(l:List Mp) (s:ByteArray),r= .tu [(0,[.sub 3 (l.map dA)]),(0,[iS s])]∧rB l∧s.size≤7):=by
 obtain⟨_,_,e,rfl,l,s,rfl,h1,h2⟩:=aae b hb;exact JL _ _ ⟨_,_,e,rfl,l,s,rfl,h1,h2⟩
theorem Ss (b:List Int) (hb:b.length≤1048576):aU C qb [mP b] (fun r fs=>fs=[]∧ ∃(l:List Mp) (s:ByteArray) (x y:Int),r= .tu [(0,[.sub 3 (l.map dA)]),(0,[iS s]),(0,[iI x]),(0,[iI y])]∧rB l∧s.size≤7):=by
 refine HU _ _ ?_;refine Jf (Dj b hb) fun h1=> ?_;refine ux (ye b _ _ (Int.le_refl 0) hb) fun v2 i2 h2 hi2 Qz=> ?_;refine vu (yc b _ _ hi2 hb) fun s8 i3 h3 u6 hx3=> ?_;refine cg (agu b _ _ u6 hb) fun n12 i4 h4 Nz hx4=> ?_;refine cg (ga b _ _ Nz hb [0,5,65535,65536] bZ bZ) fun n16 i5 h5 hi5 hx5=> ?_;exact⟨rfl,v2,_,_,_,rfl,Qz,hx3⟩
theorem OG (b:List Int) (hb:b.length≤1048576):aU C oQ [mP b] (fun r fs=>fs=[]∧ ∃(l:List Mp) (s:ByteArray) (x:Int),r= .tu [(0,[.sub 3 (l.map dA)]),(0,[iS s]),(0,[iI x])]∧rB l∧s.size≤7):=by
 refine G0 _ _ ?_;refine Jf (Dj b hb) fun h1=> ?_;refine ux (ye b _ _ (Int.le_refl 0) hb) fun v2 i2 h2 hi2 Qz=> ?_;refine vu (yc b _ _ hi2 hb) fun s8 i3 h3 u6 hx3=> ?_;refine cg (ga b _ _ u6 hb [1,2,4,12,0,13] bZ bZ) fun n12 i4 h4 Nz hx4=> ?_;exact⟨rfl,v2,_,_,rfl,Qz,hx3⟩
theorem aiu (x:Int):(FJ [x]).data.toList.length=1:=by rw[Wh];rfl
theorem DJ (b:List Int) (hb:b.length≤1048576):aU C dS [mP b] (fun r fs=>fs=[]∧ ∃(l:List Mp) (s:ByteArray) (x:Int),r= .tu [(0,[.sub 3 (l.map dA)]),(0,[iS s]),(0,[iI x])]∧rB l∧s.size≤7):=by
 refine GZ _ _ (Jf (Dj b hb) fun h1=>ux (e:=dA) (ye b _ _ (Int.le_refl 0) hb) fun l i2 h2 hi2 hl=>Xv (K0 b _ _ hi2 hb 6 au) fun x i3 h3 u6=>aZ (fun e=> ?_) fun e=> ?_)
 ·have key: ∀(d k:Nat) (l:List Mp),k+d=6→rB l→aj C dS vE 4 0 (lF (l.map dA) (k:Int) (b.map jh) i3 h3) (fun x st=>aH C dS vE x st (fun r fs=>fs=[]∧ ∃(l:List Mp) (s:ByteArray) (x:Int),r= .tu [(0,[.sub 3 (l.map dA)]),(0,[iS s]),(0,[iI x])]∧rB l∧s.size≤7)):=by
   intro d
   induction d with
   |zero=>
    intro k l hk hl;exact uT _ _ _ _ _ _ (ak iE (Dp _ _ _ _ _ _ (vu (yc b _ _ u6 hb) fun s i4 h4 Nz hs=>cg (ga b _ _ Nz hb [1,4,12,0,13] bZ bZ) fun z i5 h5 hi5 _=>⟨rfl,l,s,z,rfl,hl,hs⟩)))
   |succ d ih=>
    intro k l hk hl;refine uT _ _ _ _ _ _ (aa iE ⟨_,Xh [_],aa ?_ ⟨_,_,sX l _ 1 (oV hl) (u9 hl) ?_,?_⟩⟩)
    ·exact bR (by rw[aiu];decide)
    ·show(aeo _ (FJ [_])).size≤_
     unfold aeo;rw[Wh];simp[ByteArray.size_append,ByteArray.size]
    ·rw[aO (a:=(k:Int)) au]
     exact ih (k+1) _ au (C8 hl _ _)
  exact key 6 0 l rfl hl
 ·exact vu (yc b _ _ u6 hb) fun s i4 h4 Nz hs=>cg (ga b _ _ Nz hb [1,4,12,0,13] bZ bZ) fun z i5 h5 hi5 _=>⟨rfl,l,s,z,rfl,hl,hs⟩
theorem Uk (b:List Int) (hb:b.length≤1048576):aU C qK [mP b] (fun r fs=>fs=[]∧ ∃(l:List Mp) (s to:ByteArray) (x:Bool),r= .tu [(0,[.sub 3 (l.map dA)]),(0,[iS s]),(0,[iS to]),(0,[iB x])]∧rB l∧s.size≤7∧to.size≤7):=by
 obtain⟨_,_,e,rfl,l,s,z,rfl,hl,hs⟩:=DJ b hb;exact JK _ _ ⟨_,_,_,e,Jf (Dj b hb) fun h1=>vu (yc b _ _ (Int.le_refl 0) hb) fun t i2 h2 hi2 ht=>Xv (K0 b _ _ hi2 hb 2 au) fun x i3 h3 u6=>⟨rfl,l,s,t,x,rfl,hl,hs,ht⟩⟩
theorem St (b:List Int) (hb:b.length≤1048576):aU C qc [mP b] (fun r fs=>fs=[]∧ ∃(l m:List Mp),r= .tu [(0,[.sub 3 (l.map dA)]),(0,[.sub 3 (m.map dA)])]∧(l.length≤6∧ ∀x∈l,x.l.length≤12)):=by
 refine HV _ _ (Jf (Dj b hb) fun h1=>ux (e:=dA) (ye b _ _ (Int.le_refl 0) hb) fun l i2 h2 hi2 hl=>⟨_,ia l (by have:=hl.1;omega) (u9 hl),cg (bX b _ _ hi2 hb 4 au) fun x i3 h3 u6 hx=> ?_⟩);have Bn:l.length≤6∧ ∀x∈l,x.l.length≤12:=⟨hl.1,fun x hx=>(hl.2 x hx).2.1⟩;refine aZ (fun e0=> ?_) fun e0=>aZ (fun e1=>aZ (fun e2=> ?_) fun e2=>⟨rfl,l,l,rfl,Bn⟩) fun e1=>aZ (fun e3=>aZ (fun e4=> ?_) fun e4=>⟨rfl,l,l,rfl,Bn⟩) fun e3=>⟨rfl,l,l,rfl,Bn⟩
 ·exact ux (e:=dA) (ye b _ _ u6 hb) fun m i4 h4 Nz hm=>⟨rfl,l,m,rfl,Bn⟩
 ·have hp:0<l.length:=by simpa using e2
  obtain⟨m,hm⟩:=eT (l:=l) (i:=0) au au;have hml:=hl.2 m (nj hm);obtain⟨y,hy⟩:=eT (l:=m.l) (i:=0) au (by have:=hml.1;omega)
  have hr:rowAt (l.map dA) 0=some [iS m.name,iB m.fx,TC.sub 1 (m.l.map bA)]:=by rw[aQ,hm];rfl
  have IG:rowAt (m.l.map bA) 0=some [iI y]:=by rw[aQ,hy];rfl
  have hs2:setRow (m.l.map bA) 0 0 [iI (aF y 1)]=(oD m.l 0 (aF y 1)).map bA:=iY hy (a':=aF y 1) rfl;have JQ:setRow (l.map dA) 0 2 [TC.sub 1 ((oD m.l 0 (aF y 1)).map bA)]=(oD l 0 ⟨m.name,m.fx,oD m.l 0 (aF y 1)⟩).map dA:=iY hm (a':=⟨m.name,m.fx,oD m.l 0 (aF y 1)⟩) rfl
  repeat' first
   |refine⟨_,_,_,hr,?_⟩
   |refine⟨_,IG,?_⟩
  rw[hs2,JQ];exact⟨rfl,l,_,rfl,Bn⟩
 ·have hp:0<l.length:=by simpa using e4
  obtain⟨m,hm⟩:=eT (l:=l) (i:=0) au au
  have hr:rowAt (l.map dA) 0=some [iS m.name,iB m.fx,TC.sub 1 (m.l.map bA)]:=by rw[aQ,hm];rfl
  have JQ:setRow (l.map dA) 0 1 [iB (!m.fx)]=(oD l 0 ⟨m.name,!m.fx,m.l⟩).map dA:=iY hm (a':=⟨m.name,!m.fx,m.l⟩) rfl
  repeat' first
   |refine⟨_,_,_,hr,?_⟩
  rw[JQ];exact⟨rfl,l,_,rfl,Bn⟩
theorem agC (b:List Int) (i h:Int) (hi:0≤i) (hb:b.length≤1048576) (n:Int) (h0:0≤n) (hn:n≤55):aU CD Da [ki b i h,vI n] (Dr b fun r=> ∃t:Tree,r=eR t∧dZ t≤400∧(de t=true→((az t).length:Int)≤n+8)):=ani (agA b i h hi hb n h0 hn)
theorem agD (b:List Int):ai CD KN [mP b] (vB (decide (1048576<b.length))) []:=Yf (aim b)
theorem MP (b:List Int) (hb:b.length≤1048576):aU CD dS [mP b] (fun r fs=>fs=[]∧ ∃(l:List Mp) (s:ByteArray) (x:Int),r= .tu [(0,[.sub 3 (l.map dA)]),(0,[iS s]),(0,[iI x])]∧rB l∧s.size≤7):=Nu (DJ b hb)
theorem Su (b:List Int) (hb:b.length≤1048576):aU CD qK [mP b] (fun r fs=>fs=[]∧ ∃(l:List Mp) (s to:ByteArray) (x:Bool),r= .tu [(0,[.sub 3 (l.map dA)]),(0,[iS s]),(0,[iS to]),(0,[iB x])]∧rB l∧s.size≤7∧to.size≤7):=Nu (Uk b hb)
theorem Sv (b:List Int) (hb:b.length≤1048576):aU CD qL [mP b] (fun r fs=>fs=[]∧ ∃(l:List Mp) (s:ByteArray),r= .tu [(0,[.sub 3 (l.map dA)]),(0,[iS s])]∧rB l∧s.size≤7):=Nu (Uj b hb)
theorem OH (b:List Int) (hb:b.length≤1048576):aU CD qb [mP b] (fun r fs=>fs=[]∧ ∃(l:List Mp) (s:ByteArray) (x y:Int),r= .tu [(0,[.sub 3 (l.map dA)]),(0,[iS s]),(0,[iI x]),(0,[iI y])]∧rB l∧s.size≤7):=Nu (Ss b hb)
theorem MQ (b:List Int) (hb:b.length≤1048576):aU CD oQ [mP b] (fun r fs=>fs=[]∧ ∃(l:List Mp) (s:ByteArray) (x:Int),r= .tu [(0,[.sub 3 (l.map dA)]),(0,[iS s]),(0,[iI x])]∧rB l∧s.size≤7):=Nu (OG b hb)
theorem OI (b:List Int) (hb:b.length≤1048576):aU CD qc [mP b] (fun r fs=>fs=[]∧ ∃(l m:List Mp),r= .tu [(0,[.sub 3 (l.map dA)]),(0,[.sub 3 (m.map dA)])]∧(l.length≤6∧ ∀x∈l,x.l.length≤12)):=Nu (St b hb)
theorem ad3 (b:List Int) (n:Int) (h3:3≤n) (hn:n≤1000) (hb:b.length≤1048576): ∃x,3≤x∧x≤n∧ai CD Aj [mP b,vI n] (vI x) []:=let ⟨x,q0,q1,q2⟩:=agt b n h3 hn hb;⟨x,q0,q1,Yf q2⟩
theorem agE (b:List Int) (hb:b.length≤1048576):aU CD gq [mP b] (fun r fs=>fs=[]∧ ∃h,r=ki b 0 h):=Nu (Dj b hb)
theorem abP (b:List Int) (i h:Int) (hi:0≤i) (hb:b.length≤1048576) (n:Int) (h0:0≤n) (hn:n≤1000):aU CD jn [ki b i h,vI n] (Dr b fun r=> ∃p:bu,r=fz p∧cK p=true∧aV p≤500):=Nu (adZ b i h hi hb n h0 hn)
theorem Dl (b:List Int) (i h:Int) (hi:0≤i) (hb:b.length≤1048576) (n:Int) (hn:n≤16777216):aU CD aL [ki b i h,vI n] (Dr b fun r=> ∃x,r=vI x∧0≤x∧(0<n→x<n)):=Nu (bX b i h hi hb n hn)
theorem agF (b:List Int) (i h:Int) (hi:0≤i) (hb:b.length≤1048576):aU CD mA [ki b i h] (Dr b fun r=> ∃l:List mS,r=TV.c (TC.sub 2 (l.map cn))∧l.length≤40):=Nu (ait b i h hi hb)
theorem agG (b:List Int) (i h:Int) (hi:0≤i) (hb:b.length≤1048576):aU CD Db [ki b i h] (Dr b fun r=> ∃l,r=qt l∧l.length≤24):=Nu (ail b i h hi hb)
theorem agH (b:List Int) (i h:Int) (hi:0≤i) (hb:b.length≤1048576) (l:List ByteArray) (h0:0<l.length) (hl:l.length≤1000):aU CD oS [ki b i h,.c (.sub 1 (l.map aj8))] (Dr b fun r=> ∃x,r=vS x∧x∈l):=Nu (Qy b i h hi hb l h0 hl)
theorem aaf (b:List Int) (i h:Int) (hi:0≤i) (hb:b.length≤1048576) (l:List Int) (h0:0<l.length) (hl:l.length≤1000):aU CD bT [ki b i h,nq l] (Dr b fun r=> ∃x,r=vI x∧x∈l):=Nu (ga b i h hi hb l h0 hl)
theorem ad4 (b:List Int) (i h:Int) (hi:0≤i) (hb:b.length≤1048576) (n:Int) (h0:0≤n) (hn:n≤1000):aU CD Gj [ki b i h,vI n] (Dr b fun r=> ∃p:bu,r=fz p∧aV p≤2000∧ ∀v∈p.aD,0≤v.size∧v.size≤13):=by
 refine Ts _ _ _ _ _ (acT (abP b _ _ hi hb n h0 hn) fun p i1 h1 hi1 hp=>cg (Dl b _ _ hi1 hb _ au) fun x i2 h2 hi2 hx=> ?_);obtain⟨hok,hz⟩:=hp
 have hv: ∀v∈p.aD,0≤v.size∧v.size≤13:=fun v hv=>by have:=ZS hok hv;omega
 have hc:p.cells.length=24:=by have:=xK hok;unfold gK at this;simp only[dY,decide_eq_true_eq] at this;exact this.2
 have Qg:aV p≤2000:=by omega
 have hvl:p.aD.length≤500:=by unfold aV sO at hz;omega
 refine aZ (fun e0=> ?_) fun e0=>aZ (fun e1=> ?_) fun e1=>aZ (fun e2=> ?_) fun e2=>aZ (fun e3=> ?_) fun e3=>aZ (fun e4=> ?_) fun e4=>aZ (fun e5=> ?_) fun e5=>aZ (fun e6=>aZ (fun e7=> ?_) fun e7=> ?_) fun e6=> ?_
 ·exact acS (agC b _ _ hi2 hb 6 au au) fun t i3 h3 u6 ht=>bO u6 ⟨⟨t,p.aY,p.cells,p.aD,p.next⟩,rfl,by have:=ht.1;unfold aV sO at hz ⊢;simp only[] at*;omega,hv⟩
 ·exact ux (e:=cn) (agF b _ _ hi2 hb) fun l i3 h3 u6 hl=>bO u6 ⟨⟨p.t,l,p.cells,p.aD,p.next⟩,rfl,by unfold aV sO at hz ⊢;simp only[] at*;omega,hv⟩
 ·exact ux (e:=cC) (agG b _ _ hi2 hb) fun l i3 h3 u6 hl=>bO u6 ⟨⟨p.t,p.aY,l,p.aD,p.next⟩,rfl,by unfold aV sO at hz ⊢;simp only[] at*;omega,hv⟩
 ·obtain⟨_,_,rS,i3,h3,u6,rfl,s,rfl,hs⟩:=agH b i2 h2 hi2 hb [⟨#[97]⟩,⟨#[122,122]⟩,⟨#[65]⟩] bZ bZ
  obtain⟨_,_,rA,i4,h4,Nz,rfl,a,rfl,ha⟩:=Dl b i3 h3 u6 hb 4 au;obtain⟨_,_,rZ,i5,h5,hi5,rfl,m,rfl,hm⟩:=aaf b i4 h4 Nz hb [0,1,13] bZ bZ;have hm2:=aio hm (lo:=0) (hi:=13) rfl
  have hfit:(bF [[iS s,iI (aF 1 a),iI m,iB false]]&&fits (Nat.succ (List.length (p.aD.map dh))) 40)=true:=by
   rw[bR iE];simp
  have hs7:=ef hs (by decide+kernel);obtain⟨q,hq⟩: ∃q:bu,q=⟨p.t,p.aY,p.cells,p.aD++[⟨s,aF 1 a,m,false⟩],p.next⟩:=⟨_,rfl⟩
  have fin:TV.ag [TC.sub 1 (p.t.aA.map bA),TC.sub 1 (p.t.nodes.map bn),TC.sub 2 (p.aY.map cn),TC.sub 3 (p.cells.map cC),TC.sub 4 (List.append (p.aD.map dh) [[iS s,iI (aF 1 a),iI m,iB false]]),iI p.next]=fz q:=by rw[hq];simp[dh]
  refine⟨(fz q,[ki b i5 h5]),?_,?_,bO hi5 ⟨q,rfl,?_,?_⟩⟩
  ·repeat' first
    |refine⟨_,_,_,_,rS,?_⟩
    |refine⟨_,_,_,_,rA,?_⟩
    |refine⟨_,_,_,_,rZ,?_⟩
    |refine aa hfit ?_
    |(rw[fin])
    |exact(by rw[fin])
    |refine⟨(fz q,[ki b i5 h5]),?_,?_,rfl⟩
  ·repeat' first
    |refine⟨_,_,_,_,rS,?_⟩
    |refine⟨_,_,_,_,rA,?_⟩
    |refine⟨_,_,_,_,rZ,?_⟩
    |refine aa hfit ?_
    |(rw[fin])
    |exact(by rw[fin])
    |refine⟨(fz q,[ki b i5 h5]),?_,?_,rfl⟩
  ·subst hq
   unfold aV sO at hz ⊢;rw[xL,ct];simp only[tot,xh,ic];omega
  ·subst hq
   intro v hv2;rcases List.mem_append.1 hv2 with h|h
   ·exact hv v h
   ·rw[j6.1 h];exact hm2
 ·exact cg (aaf b _ _ hi2 hb [0,1,60,61,62] bZ bZ) fun z i3 h3 u6 _=>bO u6 ⟨⟨p.t,p.aY,p.cells,p.aD,z⟩,rfl,Qg,hv⟩
 ·refine cg (Dl b _ _ hi2 hb _ iE) fun z i3 h3 u6 JS=> ?_
  obtain⟨c,hcc⟩:=eT (l:=p.cells) JS.1 (by have:=JS.2 iE;simpa using this)
  have hrow:rowAt (p.cells.map cC) z=some [iI c.g,iB c.u,iI c.n]:=by rw[aQ,hcc];rfl
  have sZ:setRow (p.cells.map cC) z 1 [iB true]=(oD p.cells z ⟨c.g,true,c.n⟩).map cC:=iY hcc (a':=⟨c.g,true,c.n⟩) rfl;refine⟨_,_,_,hrow,_,_,_,hrow,?_⟩;rw[sZ];exact bO u6 ⟨⟨p.t,p.aY,oD p.cells z ⟨c.g,true,c.n⟩,p.aD,p.next⟩,rfl,by unfold aV sO at hz ⊢;simp only[lI] at*;omega,hv⟩
 ·have e7':0<p.aD.length:=by simpa using e7
  refine cg (Dl b _ _ hi2 hb _ au) fun z i3 h3 u6 JS=> ?_;obtain⟨v,hvv⟩:=eT (l:=p.aD) (i:=0) au au
  have hrow:rowAt (p.aD.map dh) 0=some [iS v.name,iI v.fq,iI v.size,iB v.fx]:=by rw[aQ,hvv];rfl
  have sZ:setRow (p.aD.map dh) 0 1 [iI (aF 1 z)]=(oD p.aD 0 ⟨v.name,aF 1 z,v.size,v.fx⟩).map dh:=iY hvv (a':=⟨v.name,aF 1 z,v.size,v.fx⟩) rfl;have hvm:=hv v (nj hvv);refine⟨_,_,_,_,hrow,_,_,_,_,hrow,?_⟩;rw[sZ];refine bO u6 ⟨⟨p.t,p.aY,p.cells,oD p.aD 0 ⟨v.name,aF 1 z,v.size,v.fx⟩,p.next⟩,rfl,?_,fun u hu=> ?_⟩
  ·have h6:p.aD[0]?=some v:=by rw[←aK];exact hvv
   have h7:=RH xh 0 p.aD 0 v ⟨v.name,aF 1 z,v.size,v.fx⟩ h6 (cL _);have h8:tot xh (oD p.aD 0 ⟨v.name,aF 1 z,v.size,v.fx⟩)≤tot xh p.aD+0:=h7;unfold aV sO at hz ⊢;simp only[lI] at*;omega
  ·unfold oD at hu
   rcases List.mem_or_eq_of_mem_set hu with hu|hu
   ·exact hv u hu
   ·rw[hu];exact hvm
 ·exact bO hi2 ⟨p,rfl,Qg,hv⟩
 ·exact bO hi2 ⟨p,rfl,Qg,hv⟩
theorem Ul (b:List Int) (hb:b.length≤1048576):aU CD wO [mP b] (fun r fs=>fs=[]∧ ∃p:bu,r=fz p∧aV p≤2000∧ ∀v∈p.aD,0≤v.size∧v.size≤13):=by
 obtain⟨z,Qg,hz1,hz⟩:=ad3 b 20 au au hb;refine JP _ _ ?_;refine Jf (agE b hb) fun h1=> ?_;refine⟨_,hz,?_⟩;refine acT (ad4 b _ _ (Int.le_refl 0) hb z au au) fun v2 i2 h2 hi2 Qz=> ?_;exact⟨rfl,v2,rfl,Qz⟩
theorem iQ (l m:List Mp) (hl:l.length≤1073741824) (hs: ∀x∈l,x.l.length≤1073741824):ai CD cG [cM l,cM m] (vB (Zg jm l m)) []:=Yf (K6 l m hl hs)
theorem HP (l:List Mp) (s:ByteArray) (n:Int) (hl:l.length≤1073741000) (hs: ∀x∈l,x.l.length≤1073741824) (hz:s.size≤140737488355328):ai CD uB [cM l,vS s,vI n] (TA (oc l s n)) []:=Yf (Js l s n hl hs hz)
theorem HQ (l:List Mp) (s:ByteArray) (n:Int) (hl:l.length≤1073741000) (hs: ∀x∈l,x.l.length≤1073741824) (hz:s.size≤140737488355328):ai CD oh [cM l,vS s,vI n] (TA (oc l s n)) []:=Yf (sX l s n hl hs hz)
theorem K7 (l:List Mp) (s to:ByteArray) (fx:Bool) (hl:l.length≤1073741000) (hs: ∀x∈l,x.l.length≤1073741824) (hz:s.size≤140737488355328) (hz2:to.size≤140737488355328):ai CD xO [cM l,vS s,vS to,vB fx] (TA (uq l s to fx)) []:=Yf (MJ l s to fx hl hs hz hz2)
theorem K8 (l:List Mp) (s to:ByteArray) (fx:Bool) (hl:l.length≤1073741000) (hs: ∀x∈l,x.l.length≤1073741824) (hz:s.size≤140737488355328) (hz2:to.size≤140737488355328):ai CD uC [cM l,vS s,vS to,vB fx] (TA (uq l s to fx)) []:=Yf (BP l s to fx hl hs hz hz2)
theorem K9 (l:List Mp) (s:ByteArray) (hl:l.length≤1073741000) (hs: ∀x∈l,x.l.length≤1073741824) (hz:s.size≤140737488355328):ai CD xP [cM l,vS s] (TA (ur l s)) []:=Yf (MK l s hl hs hz)
theorem La (l:List Mp) (s:ByteArray) (hl:l.length≤1073741000) (hs: ∀x∈l,x.l.length≤1073741824) (hz:s.size≤140737488355328):ai CD uD [cM l,vS s] (TA (ur l s)) []:=Yf (BQ l s hl hs hz)
theorem Jy (l:List Mp) (s:ByteArray) (b n:Int) (hl:l.length≤1073741824) (hz:s.size≤140737488355328) (hs: ∀x∈l,x.l.length≤1073741824):ai CD vM [cM l,vS s,vI b,vI n] (TA (nr l s b n)) []:=Yf (KS l s b n hl hz hs)
theorem Jz (l:List Mp) (s:ByteArray) (b n:Int) (hl:l.length≤1073741824) (hz:s.size≤140737488355328) (hs: ∀x∈l,x.l.length≤1073741824):ai CD pQ [cM l,vS s,vI b,vI n] (TA (nr l s b n)) []:=Yf (uM l s b n hl hz hs)
theorem HR (l:List Mp) (s:ByteArray) (n:Int) (hl:l.length≤1073741000) (hs: ∀x∈l,x.l.length≤1073741824) (hz:s.size≤140737488355328):ai CD uE [cM l,vS s,vI n] (TA (oe l s n)) []:=Yf (Jt l s n hl hs hz)
theorem HS (l:List Mp) (s:ByteArray) (n:Int) (hl:l.length≤1073741000) (hs: ∀x∈l,x.l.length≤1073741824) (hz:s.size≤140737488355328):ai CD e9 [cM l,vS s,vI n] (TA (oe l s n)) []:=Yf (yU l s n hl hs hz)
theorem JA (l m:List Mp) (hl:l.length≤1073741824) (hs: ∀x∈l,x.l.length≤1073741824):ai CD vN [cM l,cM m] (vB (Zg jm l m)) []:=Yf (KR l m hl hs)
theorem OJ (l:List Mp) (s:ByteArray) (hl:l.length≤1073741824):ai CD oR [cM l,vS s] (vI (fX l s)) []:=Yf (oq l s hl)
theorem OK (l:List Mp) (s:ByteArray) (hl:l.length≤1073741824):ai CD fH [cM l,vS s] (vI (fX l s)) []:=Yf (kr l s hl)
theorem MR (p:bu) (hS:aV p≤4194304) (hz: ∀v∈p.aD,v.size≤9223372036854775807):ai CD cw [fz p] (cM (nZ p)) []:=Yf (Ox p hS hz)
theorem MS (p:bu) (hS:aV p≤4194304) (hz: ∀v∈p.aD,v.size≤9223372036854775807):ai CD cz [fz p] (cM (nZ p)) []:=Yf (Ow p hS hz)
theorem aag (b:List Int):ai CD Gi [mP b] (vB true) []:=by
 refine(Tr _ _ ⟨_,agD b,?_⟩).run
 by_cases hb:1048576<b.length
 ·exact aa iE dH
 have hb:b.length≤1048576:=by omega
 obtain⟨_,_,e1,rfl,l1,s1,z1,rfl,h1,n1⟩:=MP b hb;obtain⟨_,_,e2,rfl,l2,s2,t2,f2,rfl,h2,n2,m2⟩:=Su b hb;obtain⟨_,_,e3,rfl,l3,s3,rfl,h3,n3⟩:=Sv b hb;obtain⟨_,_,e4,rfl,l4,s4,x4,y4,rfl,h4,n4⟩:=OH b hb;obtain⟨_,_,e5,rfl,l5,s5,z5,rfl,h5,n5⟩:=MQ b hb;obtain⟨_,_,e6,rfl,l6,m6,rfl,h6⟩:=OI b hb;obtain⟨_,_,e7,rfl,p,rfl,h7,h7v⟩:=Ul b hb;have g1:=C8 h1 s1 z1;have k1:=iQ (oc l1 s1 z1).1 (oc l1 s1 z1).1 (bQ (oV g1) (by decide)) (u9 g1)
 rw[yd] at k1;have g2:=R0 h2 s2 t2 f2;have k2:=iQ (uq l2 s2 t2 f2).1 (uq l2 s2 t2 f2).1 (bQ (oV g2) (by decide)) (u9 g2);rw[yd] at k2;have g3:=R1 h3 s3;have k3:=iQ (ur l3 s3).1 (ur l3 s3).1 (bQ (oV g3) (by decide)) (u9 g3);rw[yd] at k3;have g4:=N6 h4 s4 x4 y4;have k4:=iQ (nr l4 s4 x4 y4).1 (nr l4 s4 x4 y4).1 (bQ (oV g4) (by decide)) (u9 g4);rw[yd] at k4;have g5:=KM h5 s5 z5;have k5:=iQ (oe l5 s5 z5).1 (oe l5 s5 z5).1 (bQ (oV g5) (by decide)) (u9 g5)
 rw[yd] at k5;have k8:=iQ (nZ p) (nZ p) (by rw[I3];unfold aV sO at h7;omega) (fun x hx=>by have:=afP p x hx;omega);rw[yd] at k8;refine ak iE ⟨_,_,_,e1,_,_,HP l1 s1 z1 (oV h1) (u9 h1) (bQ n1 (by decide)),_,_,HQ l1 s1 z1 (oV h1) (u9 h1) (bQ n1 (by decide)),_,_,_,_,e2,_,_,K7 l2 s2 t2 f2 (oV h2) (u9 h2) (bQ n2 (by decide)) (bQ m2 (by decide)),_,_,K8 l2 s2 t2 f2 (oV h2) (u9 h2) (bQ n2 (by decide)) (bQ m2 (by decide)),_,_,e3,_,_,K9 l3 s3 (oV h3) (u9 h3) (bQ n3 (by decide)),_,_,La l3 s3 (oV h3) (u9 h3) (bQ n3 (by decide)),_,_,_,_,e4,_,_,Jy l4 s4 x4 y4 (bQ (oV h4) (by decide)) (bQ n4 (by decide)) (u9 h4),_,_,Jz l4 s4 x4 y4 (bQ (oV h4) (by decide)) (bQ n4 (by decide)) (u9 h4),_,_,_,e5,_,_,HR l5 s5 z5 (oV h5) (u9 h5) (bQ n5 (by decide)),_,_,HS l5 s5 z5 (oV h5) (u9 h5) (bQ n5 (by decide)),_,_,e6,_,_,_,_,_,_,e7,?_⟩
 exact(aa bZ ⟨_,k1,aa rfl (aa bZ ⟨_,k2,aa rfl (aa bZ ⟨_,k3,aa rfl (aa bZ ⟨_,k4,aa rfl (aa bZ ⟨_,k5,aa rfl ⟨_,JA l6 m6 (by have:=h6.1;omega) (fun x hx=>by have:=h6.2 x hx;omega),_,iQ l6 m6 (by have:=h6.1;omega) (fun x hx=>by have:=h6.2 x hx;omega),aa bZ ⟨_,OJ l3 s3 (bQ (oV h3) (by decide)),_,OK l3 s3 (bQ (oV h3) (by decide)),aa bZ ⟨_,MR p au (fun v hv=>by have:=h7v v hv;omega),_,MS p au (fun v hv=>by have:=h7v v hv;omega),_,k8,rfl,by trivial⟩⟩⟩⟩)⟩)⟩)⟩)⟩)
theorem aka {n z:Nat} (h:n*z≤reachBytes) (hz:1≤z):n≤140737488355328:=by
 have:reachBytes≤140737488355328:=by decide
 have h2:n*1≤n*z:=Nat.mul_le_mul_left n hz;omega
theorem aiv {r:List TC} (h:L4 C.tt acV r): ∃n:Int,r=jh n∧(0≤n∧n≤255):=by
 obtain⟨n,rfl,h1⟩:=h.ahS (k:= .u8) zYk;exact⟨n,rfl,ald h1⟩
theorem abQ {r:List TC} (h:L4 C.tt BK r): ∃l:List (Int),r=[.sub 1 (l.map jh)]∧l.length≤140737488355328∧ ∀x∈l,0≤x∧x≤255:=by
 obtain⟨w,rfl,y,z⟩:=h.adB (e:=acV) zYk;obtain⟨l,rfl,hl⟩:=Rv fun r hr=>aiv (y r hr);rw[cq] at z;exact⟨l,rfl,aka z (by decide+kernel),hl⟩
theorem aiw {v:TV} (h:WfV C.tt BK v): ∃l:List Int,v=mP l∧l.length≤140737488355328∧ ∀x∈l,0≤x∧x≤255:=by
 have ht:(C.tt BK).ti= .slice 5:=by kernel_rfl
 cases h with
 |c _ hw=>
  obtain⟨l,h1,h2,h3⟩:=abQ hw
  cases h1
  exact⟨l,rfl,h2,h3⟩
 |ag h1 _=>rw[ht] at h1;cases h1
theorem abR (vs:List TV) (h:Y6 CD.tt [BK] vs): ∃k,j7 CD k Gi vs (vB true) []:=by
 cases h with
 |cons h0 h=>
  cases h
  obtain⟨b,rfl,_,hB⟩:=aiw h0;exact aag b
end Go.T.R
