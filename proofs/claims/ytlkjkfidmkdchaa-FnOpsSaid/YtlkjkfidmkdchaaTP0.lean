import Derived.Test.YtlkjkfidmkdchaaTR0
set_option linter.all false
set_option maxRecDepth 100000
set_option maxHeartbeats 4000000
namespace Go.T.R
open Go Go.T
theorem DH {P:Prop} (h:P:=by kernel_rfl):P:=h
theorem wk (a b c:Int):aq C ei [vI a,vI b,vI c] (vB (gX a b c)) []:=by
 refine(xb _ _ _ _ ?_).run;simp only[vL,rH,gX]
 split<;>simp_all<;>omega
theorem rS (a b c:Int):aq C cQ [vI a,vI b,vI c] (vB (gX a b c)) []:=by
 refine(Bv _ _ _ _ ?_).run;simp only[vL,rH,gX]
 split<;>simp_all<;>omega
@[simp] theorem wm (a b c:Int) (q:Bool):aq C ei [vI a,vI b,vI c] (vB q) []↔q=gX a b c:=Cr (wk a b c)
@[simp] theorem zE (a b c:Int) (q:Bool):aq C cQ [vI a,vI b,vI c] (vB q) []↔q=gX a b c:=Cr (rS a b c)
@[simp] theorem w4 (a:Int) (q:Bool):aq C cX [vI a] (vB q) []↔q=gR a:=Cr ((xd _ _ ⟨_,rS _ _ _,rfl,by trivial⟩).run)
@[simp] theorem w5 (a:Int) (q:Bool):aq C lg [vI a] (vB q) []↔q=gR a:=Cr ((xh _ _ ⟨_,wk _ _ _,rfl,by trivial⟩).run)
theorem uj (s:ByteArray) (hl:s.size≤140737488355328):aq C bB [vS s] (vB ((jA s.size (bK s)&&gX s.size 1 6))) []:=by
 refine(xk _ _ ?_).run
 have key:((List.range' 0 (s.size-0)).all (bK s)&&gX s.size 1 6)=(jA s.size (bK s)&&gX s.size 1 6)→dn C bB ej 4 0 (cV s ((0:Nat):Int)) (fun u st=>jy C bB ej u st fun r fs=>r=vB ((jA s.size (bK s)&&gX s.size 1 6))∧fs=[]):=by
  refine A6 (s.size) (fun i=>((List.range' i (s.size-i)).all (bK s)&&gX s.size 1 6)=(jA s.size (bK s)&&gX s.size 1 6)→dn C bB ej 4 0 (cV s i) (fun u st=>jy C bB ej u st fun r fs=>r=vB ((jA s.size (bK s)&&gX s.size 1 6))∧fs=[])) ?_ ?_
  ·intro h0
   refine nU _ _ _ (aU cY (uv _ _ _ _ ?_));rw[kE] at h0;simp only[List.range'_zero,EM,nG] at h0;rw[←h0];simp only[zE,uP,zp,Iv];simp
  ·intro i hi hn h0
   rw[vT hi,uL] at h0
   have gO:(bK s) i=false→(jA s.size (bK s)&&gX s.size 1 6)=false:=fun e=>by rw[←h0,e];rfl
   have gN:(bK s) i=true→dn C bB ej 4 0 (cV s ((i:Int)+1)) (fun u st=>jy C bB ej u st fun r fs=>r=vB ((jA s.size (bK s)&&gX s.size 1 6))∧fs=[]):=fun e=>hn (by rw[←h0,e];rfl);refine nU _ _ _ (ax Jg ?_);obtain⟨n,hb,hn0,QB⟩:=yj hi;have hw:aD .i64 n=n:=A5 aA;simp only[hb,aI,KN,zE,uP,hw,rG];rw[cG aA]
   have e:bK s i=(gX n 97 122||gX n 48 57):=by unfold bK;rw[hb];rfl
   rw[e] at gO gN
   cases h1:gX n 97 122<;>cases h2:gX n 48 57<;>simp only[rE,rF]<;>first|exact gN (by rw[h1,h2];rfl)|exact uu _ (by rw[gO (by rw[h1,h2];rfl)];exact jJ)
 exact key rfl
theorem qa (s:ByteArray) (hl:s.size≤140737488355328) (q:Bool):aq C bB [vS s] (vB q) []↔q=iC s:=Cr (uj s hl)
theorem uk (s:ByteArray) (hl:s.size≤140737488355328):aq C bA [vS s] (vB ((jA s.size (bK s)&&gX s.size 1 6))) []:=by
 refine(w6 _ _ ?_).run
 have key:((List.range' 0 (s.size-0)).all (bK s)&&gX s.size 1 6)=(jA s.size (bK s)&&gX s.size 1 6)→dn C bA ej 4 0 (cU s ((0:Nat):Int)) (fun u st=>jy C bA ej u st fun r fs=>r=vB ((jA s.size (bK s)&&gX s.size 1 6))∧fs=[]):=by
  refine A6 (s.size) (fun i=>((List.range' i (s.size-i)).all (bK s)&&gX s.size 1 6)=(jA s.size (bK s)&&gX s.size 1 6)→dn C bA ej 4 0 (cU s i) (fun u st=>jy C bA ej u st fun r fs=>r=vB ((jA s.size (bK s)&&gX s.size 1 6))∧fs=[])) ?_ ?_
  ·intro h0
   refine nS _ _ _ (aU cY (uq _ _ _ _ ?_));rw[kE] at h0;simp only[List.range'_zero,EM,nG] at h0;rw[←h0];simp only[wm,uP,zp,Iv];simp
  ·intro i hi hn h0
   rw[vT hi,uL] at h0
   have gO:(bK s) i=false→(jA s.size (bK s)&&gX s.size 1 6)=false:=fun e=>by rw[←h0,e];rfl
   have gN:(bK s) i=true→dn C bA ej 4 0 (cU s ((i:Int)+1)) (fun u st=>jy C bA ej u st fun r fs=>r=vB ((jA s.size (bK s)&&gX s.size 1 6))∧fs=[]):=fun e=>hn (by rw[←h0,e];rfl);refine nS _ _ _ (ax Jg ?_);obtain⟨n,hb,hn0,QB⟩:=yj hi;have hw:aD .i64 n=n:=A5 aA;simp only[hb,aI,KN,wm,uP,hw,rG];rw[cG aA]
   have e:bK s i=(gX n 97 122||gX n 48 57):=by unfold bK;rw[hb];rfl
   rw[e] at gO gN
   cases h1:gX n 97 122<;>cases h2:gX n 48 57<;>simp only[rE,rF]<;>first|exact gN (by rw[h1,h2];rfl)|exact uo _ (by rw[gO (by rw[h1,h2];rfl)];exact jJ)
 exact key rfl
theorem qb (s:ByteArray) (hl:s.size≤140737488355328) (q:Bool):aq C bA [vS s] (vB q) []↔q=iC s:=Cr (uk s hl)
theorem sZ (o:oF):aq C ey [.ag (pK o)] (vB (sV o)) []:=by
 refine(wH _ _ _ _ _ _ ?_).run;simp only[zE,uP,vL,Cn,Co,rH,rG];unfold sV
 (repeat' split)<;>simp_all<;>omega
theorem wo (k:Int) (s t:ByteArray) (a b:Int) (q:Bool):aq C ey [.ag [iI k,iS s,iS t,iI a,iI b]] (vB q) []↔q=sV ⟨k,s,t,a,b⟩:=Cr (sZ ⟨k,s,t,a,b⟩)
theorem lJ (o:oF) (h1:o.name.size≤140737488355328) (h2:o.to.size≤140737488355328):aq C cP [.ag (pK o)] (vB (g6 o)) []:=by
 obtain⟨k,s,t,a,b⟩:=o;refine(Bx _ _ _ _ _ _ ?_).run;simp only[zE,qa s h1,qa t h2,w4,wo,uP,vL,Cn,Co,rH,rG];unfold g6 opName HQ;simp only[];generalize sV ⟨k,s,t,a,b⟩=z;generalize iC s=x;generalize iC t=y;generalize gR a=u;generalize gR b=v;generalize gX k 1 9=w
 by_cases p1:7≤k<;>by_cases p2:k=2<;>by_cases p3:s=bE<;>by_cases p4:t=bE<;>first
  |omega
  |(simp only[p1,p2,p3,p4,if_true,if_false,decide_true,decide_false,reduceIte]
    cases w<;>(try simp only[rE,rF,nG,Bool.false_and])<;>cases x<;>cases y<;>cases u<;>cases v<;>(try simp only[rE,rF,z5,Bool.and_false,nG,Bool.false_and])<;>(first|exact jJ|simp))
theorem iK (o:oF) (h1:o.name.size≤140737488355328) (h2:o.to.size≤140737488355328):aq C bL [.ag (pK o)] (vB (g6 o)) []:=by
 obtain⟨k,s,t,a,b⟩:=o;refine(Br _ _ _ _ _ _ ?_).run;simp only[wm,qb s h1,qb t h2,w5,uP,vL,Cn,Co,rH,rG];unfold g6 opName HQ sV;simp only[]
 cases hv:gR b with
 |false=>cases gX k 1 9<;>cases gR a<;>simp only[rE,rF]<;>exact⟨by simp,by trivial⟩
 |true=>
  have hb:0≤b:=by simp[gR,gX] at hv;omega
  have hb1:gX b 0 1=decide (b≤1):=by by_cases h:b≤1<;>simp[gX,h,hb]
  rw[hb1];generalize iC s=x;generalize iC t=y;generalize gR a=u;generalize hw:gX k 1 9=w;generalize decide (b≤1)=z1;generalize decide (b=0)=z0
  cases w with
  |false=>simp only[rE,rF];exact⟨by simp,by trivial⟩
  |true=>
  cases u with
  |false=>simp only[rE,rF];exact⟨by simp,by trivial⟩
  |true=>
  simp only[rE,rF,nG];clear hw hv hb1 hb h1 h2
  by_cases p1:k≤6<;>by_cases p0:7≤k<;>by_cases p2:k=2<;>by_cases p3:k=3<;>by_cases p4:k=4<;>by_cases p7:k=7<;>first
   |omega
   |(simp only[p0,p1,p2,p3,p4,p7,if_true,if_false,reduceIte,or_true,true_or,or_false,false_or]
     by_cases q:a=0<;>by_cases q3:s=bE<;>by_cases q4:t=bE<;>(try simp only[q,q3,q4,if_true,if_false,reduceIte,decide_true,decide_false])<;>cases x<;>cases y<;>(try simp only[rE,rF,z5,Bool.and_false,nG,Bool.false_and])<;>(first|exact jJ|simp))
theorem DI (b:List Int) (hb:b.length≤1048576):bR C cT [bW b] (fun r fs=>fs=[]∧ ∃h,r=oI b 0 h):=by
 refine zL _ _ ?_
 have key: ∀(d i:Nat) (h:Int),i+d=4000→dn C cT dg 4 0 (gW (b.map aE) h (i:Int)) (fun x st=>jy C cT dg x st fun r fs=>fs=[]∧ ∃h,r=oI b 0 h):=by
  intro d
  induction d with
  |zero=>
   intro i h hd;refine oS _ _ _ _ ?_
   by_cases h1:(i:Int)<(b.length:Int)
   ·exact ax iF (aU iF (wG _ _ _ _ ⟨rfl,_,rfl⟩))
   ·exact aU iF (oT _ _ _ _ ⟨rfl,_,rfl⟩)
  |succ d ih=>
   intro i h hd;refine oS _ _ _ _ ?_
   by_cases h1:(i:Int)<(b.length:Int)
   ·refine ax iF (ax iF ⟨b[i]'aA,by rw[bN,rI,aO aA];rfl,?_⟩)
    rw[cG (a:=(i:Int)) aA];exact ih (i+1) _ aA
   ·exact aU iF (oT _ _ _ _ ⟨rfl,_,rfl⟩)
 exact key 4000 0 _ rfl
theorem oO (b:List Int) (i h:Int) (hi:0≤i) (hb:b.length≤1048576):bR C fq [oI b i h] (Dr b fun r=> ∃x,r=vI x∧0≤x∧x≤255):=by
 refine xj _ _ _ _ ?_
 by_cases h1:i<(b.length:Int)
 ·obtain⟨x,hx⟩:=mz hi h1
  refine ax iF ⟨x,by rw[bN,hx];rfl,cR i 1,_,?_,rfl,_,rfl,Gk _⟩;rw[cG aA];omega
 ·exact aU iF ⟨i,_,hi,rfl,_,rfl,Gk _⟩
theorem bn (b:List Int) (i h:Int) (hi:0≤i) (hb:b.length≤1048576) (n:Int) (hn:n≤16777216):bR C az [oI b i h,vI n] (Dr b fun r=> ∃x,r=vI x∧0≤x∧(0<n→x<n)):=by
 refine wJ _ _ _ _ _ ?_
 by_cases h0:n≤0
 ·exact ax iF ⟨i,h,hi,rfl,0,rfl,Int.le_refl _,fun h=>by omega⟩
 refine aU iF ?_
 by_cases h1:n≤256
 ·obtain⟨_,_,hr,i1,rZ,hi1,rfl,x,rfl,x0,x1⟩:=oO b i h hi hb
  refine ax iF ⟨x,_,i1,rZ,hr,aU iF ⟨i1,rZ,hi1,rfl,_,rfl,?_⟩⟩;rw[Dq];have:=A8 x0 (show 0<n by omega);exact⟨this.1,fun _=>this.2⟩
 ·obtain⟨_,_,hr,i1,rZ,hi1,rfl,x,rfl,x0,x1⟩:=oO b i h hi hb
  obtain⟨_,_,yE,i2,DO,hi2,rfl,y,rfl,y0,y1⟩:=oO b i1 rZ hi1 hb;obtain⟨_,_,QC,i3,GV,BG,rfl,z,rfl,z0,z1⟩:=oO b i2 DO hi2 hb;refine aU iF ⟨x,_,i1,rZ,hr,y,_,i2,DO,yE,z,_,i3,GV,QC,aU iF ⟨i3,GV,BG,rfl,_,rfl,?_⟩⟩;have e1:sP x 65536=x*65536:=zn aA;have e2:sP y 256=y*256:=zn aA;rw[Dq,e1,e2,cG (a:=x*65536) aA,cG aA];have:=A8 (show 0≤x*65536+y*256+z by omega) (show 0<n by omega);exact⟨this.1,fun _=>this.2⟩
theorem fG (b:List Int) (i h:Int) (hi:0≤i) (hb:b.length≤1048576) (l:List Int) (h0:0<l.length) (hl:l.length≤1000):bR C cn [oI b i h,K6 l] (Dr b fun r=> ∃x,r=vI x∧x∈l):=by
 obtain⟨_,_,hr,i1,rZ,hi1,rfl,x,rfl,x0,x1⟩:=bn b i h hi hb (l.length:Int) aA;have:=x1 aA;obtain⟨y,hy⟩:=mz x0 this;refine zN _ _ _ _ _ ⟨x,_,i1,rZ,by rw[g9];exact hr,y,by rw[bN,hy];rfl,i1,rZ,hi1,rfl,y,rfl,vN hy⟩
theorem H7 (b:List Int):aq C wj [bW b] (vB (decide (1048576<b.length))) []:=by
 refine(CJ _ _ ⟨?_,by trivial⟩).run;simp<;>omega
theorem eI (l:List (List Int)) (hl:l.length≤1000) (ht:l.flatten.length≤1073741824):aq C bX [.c (.sub 1 (l.map vP))] (bW l.flatten) []:=by
 refine(xg _ _ ?_).run
 have key: ∀acc:List Int,acc++(l.drop 0).flatten=l.flatten→dn C bX dg 4 0 (eJ (l.map vP) ((0:Nat):Int) (acc.map aE)) (fun x st=>jy C bX dg x st fun r fs=>r=bW l.flatten∧fs=[]):=by
  refine Gd l (fun i=> ∀acc:List Int,acc++(l.drop i).flatten=l.flatten→dn C bX dg 4 0 (eJ (l.map vP) (i:Int) (acc.map aE)) _) ?_ ?_
  ·intro acc h
   rw[KI,List.flatten_nil,iL] at h;exact nT _ _ _ _ (aU cY (ur _ _ _ _ _ _ ⟨by rw[h],rfl⟩))
  ·intro i a hi ha hd Ru hn acc h
   rw[hd,nH,←fJ] at h
   have hlen:(acc++a).length≤l.flatten.length:=by have:=congrArg List.length h;simp only[cL] at this ⊢;omega
   rw[cL] at hlen;refine nT _ _ _ _ (ax iF ⟨a.map aE,by rw[bN,rI,ha];rfl,ax (by rw[ew,pY (by simp only[g9,KL];omega)];rfl) ?_⟩);rw[cG aA,show List.append (acc.map aE) (a.map aE)=(acc++a).map aE from(pO ..).symm];exact hn (acc++a) h
 exact key [] rfl
theorem lK (b:List Int) (n:Int) (hb:b.length≤1073740824):aq C mE [bW b,vI n] (bW (uh b n)) []:=by
 refine(Bs _ _ _ ⟨_,eI [b,[aD .u8 (eC .and .i64 (kr .i64 n 8) 255),aD .u8 (eC .and .i64 n 255)]] cY iF,?_⟩).run;rw[A9,A9];exact⟨by simp[uh],rfl⟩
theorem lM (b:List Int) (n:Int) (hb:b.length≤1073740824):aq C mG [bW b,vI n] (bW (uh b n)) []:=by
 refine(Bu _ _ _ (ax (by rw[ew,pY iF];rfl) (ax ?_ ?_))).run
 ·rw[pY iF,z5]
  exact ew [_,_]
 ·exact⟨by unfold uh bW;rw[pO];rfl,rfl⟩
theorem mI (b:List Int) (s:ByteArray) (hb:b.length≤1073740000):aq C jF [bW b,vS s] (bW (dN b s)) []:=by
 refine(wC _ _ _ ?_).run;rw[zp]
 by_cases h:60<s.size
 ·refine ax iF ⟨_,eI [b] cY iF,?_⟩
  exact⟨by unfold dN;rw[aT h];simp,rfl⟩
 ·refine aU iF ⟨_,lK b s.size aA,ax (pY aA) ?_⟩
  rw[Dy];refine⟨_,eI [uh b s.size,eF s] cY (by simp[j7,gU]<;>omega),?_⟩;exact⟨by unfold dN;rw[aH h];simp,rfl⟩
theorem mJ (b:List Int) (s:ByteArray) (hb:b.length≤1073740000):aq C jI [bW b,vS s] (bW (dN b s)) []:=by
 refine(wI _ _ _ ?_).run;rw[zp]
 by_cases h:60<s.size
 ·refine ax iF (ax (by rw[ew,pY iF];rfl) ?_)
  exact⟨by unfold dN;rw[aT h],rfl⟩
 ·refine aU iF ⟨_,lM b s.size aA,ax (pY (by simp[j7]<;>omega)) ?_⟩
  rw[Dy];exact⟨by unfold dN;rw[aH h];unfold bW;rw[pO];rfl,rfl⟩
theorem oP (b:List Int) (o:oF) (hb:b.length≤1073730000) (h1:o.name.size≤1073741824) (h2:o.to.size≤1073741824):aq C fo [bW b,.ag (pK o)] (bW (eG b o)) []:=by
 refine(zG _ _ _ _ _ _ _ ⟨_,iK o aA aA,?_⟩).run
 cases h:g6 o with
 |false=>
  refine ax rfl ⟨_,eI [b] cY iF,?_⟩;exact⟨by unfold eG;rw[aH (by rw[h];simp)];simp,rfl⟩
 |true=>
  have l1:=gy (b++[aD .u8 o.kind]) o.name;have l2:=gy (dN (b++[aD .u8 o.kind]) o.name) o.to;rw[cL,EN] at l1
  have l0:(b++[aD .u8 o.kind]).length=b.length+1:=by simp
  refine aU rfl ⟨_,eI [b,[aD .u8 o.kind]] cY iF,?_⟩;rw[show [b,[aD .u8 o.kind]].flatten=b++[aD .u8 o.kind] from by simp];refine⟨_,mI _ o.name aA,_,mI _ o.to aA,_,lK _ o.a aA,_,lK _ o.b (by rw[j7];omega),?_⟩;exact⟨by unfold eG;rw[aT h],rfl⟩
theorem wq (b:List Int) (o:oF) (hb:b.length≤1073730000) (h1:o.name.size≤1073741824) (h2:o.to.size≤1073741824):aq C qA [bW b,.ag (pK o)] (bW (eG b o)) []:=by
 refine(zM _ _ _ _ _ _ _ (ax (by rw[ew,pY iF];rfl) ⟨_,lJ o aA aA,?_⟩)).run
 cases h:g6 o with
 |false=>exact ax rfl ⟨by unfold eG;rw[aH (by rw[h];simp)],rfl⟩
 |true=>
  have l1:=gy (b++[aD .u8 o.kind]) o.name;have l2:=gy (dN (b++[aD .u8 o.kind]) o.name) o.to;rw[cL,EN] at l1
  have l0:(b++[aD .u8 o.kind]).length=b.length+1:=by simp
  refine aU rfl (ax ?_ ?_)
  ·rw[pY iF,z5]
   exact ew [_]
  ·rw[show List.append (b.map aE) [[TC.sc (Value.int IntKind.u8 (aD IntKind.u8 o.kind))]]=(b++[aD .u8 o.kind]).map aE from by rw[pO];rfl]
   refine⟨_,mJ _ o.name aA,_,mJ _ o.to aA,_,lM _ o.a aA,_,lM _ o.b (by rw[j7];omega),?_⟩;exact⟨by unfold eG;rw[aT h],rfl⟩
theorem lN (b:List Int) (i:Int) (hb:b.length≤1073741824):aq C mF [bW b,vI i] (Ln (bF b i)) []:=by
 refine(Bt _ _ _ ⟨_,rS _ _ _,?_⟩).run
 have e1:fC (Int.ofNat (b.map aE).length) 2=(b.length:Int)-2:=by rw[nj iF];simp
 rw[e1];unfold bF
 by_cases h:0≤i∧i+2≤b.length
 ·rw[aT h]
  have e2:cR i 1=i+1:=cG aA;have e3:cR i 2=i+2:=cG aA;rw[e2,e3];exact aU (by simp[gX]<;>omega) ⟨_,En h.1 aA,_,En aA aA,jJ⟩
 ·rw[aH h]
  exact ax (by simp[gX]<;>omega) jJ
theorem lO (b:List Int) (i:Int) (hb:b.length≤1073741824):aq C pJ [bW b,vI i] (Ln (bF b i)) []:=by
 refine(Bw _ _ _ ?_).run
 have e1:fC (Int.ofNat (b.map aE).length) 2=(b.length:Int)-2:=by rw[nj iF];simp
 rw[e1];unfold bF
 by_cases h0:i<0
 ·rw[aH aA]
  exact ax (by simpa using h0) jJ
 ·refine aU (by simpa using h0) ?_
  by_cases h:i+2≤b.length
  ·rw[aT ⟨by omega,h⟩]
   have e2:cR i 1=i+1:=cG aA;have e3:cR i 2=i+2:=cG aA;rw[e2,e3];exact aU iF ⟨_,En aA aA,_,En aA aA,jJ⟩
  ·rw[aH aA]
   exact ax iF jJ
theorem mK (b:List Int) (i:Int) (hb:b.length≤1073741824) (hB:eH b):aq C jH [bW b,vI i] (Lo (an b i)) []:=by
 refine(wE _ _ _ ⟨_,_,_,lN b i hb,?_⟩).run;have hp:=vW hB i
 have e1:fC (Int.ofNat (b.map aE).length) (bF b i).2.1=(b.length:Int)-(bF b i).2.1:=by rw[nj iF];simp
 rw[e1];unfold an
 cases h1:(bF b i).2.2 with
 |false=>
  rw[aH cY];exact ax rfl jJ
 |true=>
  refine aU rfl ?_
  by_cases h2:60<(bF b i).1
  ·rw[aH aA]
   exact ax (by simpa using h2) jJ
  ·refine aU (by simpa using h2) ?_
   by_cases h3:(b.length:Int)-(bF b i).2.1<(bF b i).1
   ·rw[aH aA]
    exact ax (by simpa using h3) jJ
   ·rw[aT ⟨rfl,by omega,by omega⟩]
    have e2:cR (bF b i).2.1 (bF b i).1=(bF b i).2.1+(bF b i).1:=cG aA;rw[e2];refine aU (by simpa using h3) (ax iF ⟨_,by rw[iT,fE],jJ⟩)
theorem mL (b:List Int) (i:Int) (hb:b.length≤1073741824) (hB:eH b):aq C nC [bW b,vI i] (Lo (an b i)) []:=by
 refine(wF _ _ _ ⟨_,_,_,lO b i hb,?_⟩).run;have hp:=vW hB i
 have e1:fC (Int.ofNat (b.map aE).length) (bF b i).2.1=(b.length:Int)-(bF b i).2.1:=by rw[nj iF];simp
 rw[e1];unfold an
 cases h1:(bF b i).2.2 with
 |false=>
  rw[aH cY];exact ax rfl jJ
 |true=>
  refine aU rfl ?_
  by_cases h2:60<(bF b i).1
  ·rw[aH aA]
   exact ax (by simpa using h2) jJ
  ·refine aU (by simpa using h2) ?_
   by_cases h3:(b.length:Int)-(bF b i).2.1<(bF b i).1
   ·rw[aH aA]
    exact ax (by simpa using h3) jJ
   ·rw[aT ⟨rfl,by omega,by omega⟩]
    have e2:cR (bF b i).2.1 (bF b i).1=(bF b i).2.1+(bF b i).1:=cG aA;rw[e2];refine aU (by simpa using h3) (ax iF ⟨_,by rw[iT,fE],jJ⟩)
theorem wu (b:List Int) (i:Int) (hb:b.length≤1073741824) (hB:eH b):aq C ny [bW b,vI i] (HT (getOp b i)) []:=by
 refine(zK _ _ _ ⟨_,rS _ _ _,?_⟩).run
 have e1:fC (Int.ofNat (b.map aE).length) 1=(b.length:Int)-1:=by rw[nj iF];simp
 rw[e1];unfold getOp
 by_cases h:0≤i∧i<b.length
 ·rw[aT h]
  have e2:cR i 1=i+1:=cG aA;have s1:=fD b (i+1);have s2:=fD b (an b (i+1)).2.1;have hok:aq C cP [.ag (pK (jc b i))] (vB (g6 (jc b i))) []:=lJ _ (by unfold jc;simp only[];omega) (by unfold jc;simp only[];omega);refine aU (by simp[gX]<;>omega) ⟨_,En h.1 h.2,_,_,_,by rw[e2];exact mK b (i+1) hb hB,_,_,_,mK b _ hb hB,_,_,_,lN b _ hb,_,_,_,lN b _ hb,?_⟩;unfold nu
  cases h1:(an b (i+1)).2.2 with
  |false=>exact ax rfl jJ
  |true=>
   refine aU rfl ?_
   cases h2:(an b (an b (i+1)).2.1).2.2 with
   |false=>exact ax rfl jJ
   |true=>
    refine aU rfl ?_
    cases h3:(bF b (an b (an b (i+1)).2.1).2.1).2.2 with
    |false=>exact ax rfl jJ
    |true=>
     refine aU rfl ?_
     cases h4:(bF b (bF b (an b (an b (i+1)).2.1).2.1).2.1).2.2 with
     |false=>exact ax rfl jJ
     |true=>
      refine aU rfl ⟨_,hok,?_⟩
      cases h5:g6 (jc b i) with
      |false=>exact ax rfl jJ
      |true=>exact aU rfl jJ
 ·rw[aH h]
  exact ax (by simp[gX]<;>omega) jJ
theorem iD (b:List Int) (i:Int) (hb:b.length≤1073741824) (h:0≤i∧i<b.length):aq C fF [TV.bx [TC.sub 1 (b.map aE),iI i,iB false]] (vI (aD .i64 (eY b i))) [TV.bx [TC.sub 1 (b.map aE),iI (i+1),iB false]]:=by
 refine(ki _ _ _ _ (aU rfl (aU iF (aU iF ?_)))).run;have e2:cR i 1=i+1:=cG aA
 have e3:fC (i+1) 1=i:=by rw[nj aA];omega
 rw[e2,e3];exact⟨_,En h.1 h.2,jJ⟩
theorem CG (b:List Int) (i:Int) (hb:b.length≤1073741824) (bad:Bool) (h:bad=true∨ ¬(0≤i∧i<b.length)):aq C fF [TV.bx [TC.sub 1 (b.map aE),iI i,iB bad]] (vI 0) [TV.bx [TC.sub 1 (b.map aE),iI i,iB true]]:=by
 refine(ki _ _ _ _ ?_).run
 cases bad with
 |true=>exact ax rfl jJ
 |false=>
  have h: ¬(0≤i∧i<b.length):=by simpa using h
  refine aU rfl ?_
  by_cases h0:i<0
  ·exact ax (by simpa using h0) jJ
  ·exact aU (by simpa using h0) (ax iF jJ)
theorem dG (b:List Int) (i:Int) (hb:b.length≤1073741824) (hB:eH b) (h:(an b i).2.2=true):aq C dD [TV.bx [TC.sub 1 (b.map aE),iI i,iB false]] (vS (an b i).1) [TV.bx [TC.sub 1 (b.map aE),iI (an b i).2.1,iB false]]:=by
 refine(jj _ _ _ _ ⟨_,_,_,mL b i hb hB,?_⟩).run;rw[h];exact aU rfl (aU rfl jJ)
theorem iX (b:List Int) (i:Int) (hb:b.length≤1073741824) (hB:eH b) (bad:Bool) (h:bad=true∨(an b i).2.2=false):aq C dD [TV.bx [TC.sub 1 (b.map aE),iI i,iB bad]] (vS bE) [TV.bx [TC.sub 1 (b.map aE),iI i,iB true]]:=by
 refine(jj _ _ _ _ ⟨_,_,_,mL b i hb hB,?_⟩).run
 cases bad with
 |true=>exact ax rfl jJ
 |false=>
  have h:(an b i).2.2=false:=by simpa using h
  rw[h];exact aU rfl (ax rfl jJ)
theorem iY (b:List Int) (i:Int) (hb:b.length≤1073741824) (hB:eH b) (h:(bF b i).2.2=true):aq C dF [TV.bx [TC.sub 1 (b.map aE),iI i,iB false]] (vI (bF b i).1) [TV.bx [TC.sub 1 (b.map aE),iI (bF b i).2.1,iB false]]:=by
 refine(jk _ _ _ _ ⟨_,_,_,lO b i hb,?_⟩).run;rw[h];exact aU rfl (aU rfl jJ)
theorem dH (b:List Int) (i:Int) (hb:b.length≤1073741824) (hB:eH b) (bad:Bool) (h:bad=true∨(bF b i).2.2=false):aq C dF [TV.bx [TC.sub 1 (b.map aE),iI i,iB bad]] (vI 0) [TV.bx [TC.sub 1 (b.map aE),iI i,iB true]]:=by
 refine(jk _ _ _ _ ⟨_,_,_,lO b i hb,?_⟩).run
 cases bad with
 |true=>exact ax rfl jJ
 |false=>
  have h:(bF b i).2.2=false:=by simpa using h
  rw[h];exact aU rfl (ax rfl jJ)
theorem EA (b:List Int) (i:Int) (hb:b.length≤1073741824) (hB:eH b) (h:getOp b i=(Eo,0,false)): ∃j,aq C gf [TV.bx [TC.sub 1 (b.map aE),iI i,iB false]] (.ag (pK Eo)) [TV.bx [TC.sub 1 (b.map aE),iI j,iB true]]:=by
 unfold getOp at h
 by_cases h0:0≤i∧i<b.length
 ·rw[aT h0] at h
  unfold nu at h;have s1:=fD b (i+1);have s2:=fD b (an b (i+1)).2.1
  cases h1:(an b (i+1)).2.2 with
  |false=>exact⟨_,(cv _ _ _ _ ⟨_,_,_,_,iD b i hb h0,_,_,_,_,iX b _ hb hB false (.inr h1),_,_,_,_,iX b _ hb hB true (.inl rfl),_,_,_,_,dH b _ hb hB true (.inl rfl),_,_,_,_,dH b _ hb hB true (.inl rfl),ax rfl jJ⟩).run⟩
  |true=>
   cases h2:(an b (an b (i+1)).2.1).2.2 with
   |false=>exact⟨_,(cv _ _ _ _ ⟨_,_,_,_,iD b i hb h0,_,_,_,_,dG b _ hb hB h1,_,_,_,_,iX b _ hb hB false (.inr h2),_,_,_,_,dH b _ hb hB true (.inl rfl),_,_,_,_,dH b _ hb hB true (.inl rfl),ax rfl jJ⟩).run⟩
   |true=>
    cases h3:(bF b (an b (an b (i+1)).2.1).2.1).2.2 with
    |false=>exact⟨_,(cv _ _ _ _ ⟨_,_,_,_,iD b i hb h0,_,_,_,_,dG b _ hb hB h1,_,_,_,_,dG b _ hb hB h2,_,_,_,_,dH b _ hb hB false (.inr h3),_,_,_,_,dH b _ hb hB true (.inl rfl),ax rfl jJ⟩).run⟩
    |true=>
     cases h4:(bF b (bF b (an b (an b (i+1)).2.1).2.1).2.1).2.2 with
     |false=>exact⟨_,(cv _ _ _ _ ⟨_,_,_,_,iD b i hb h0,_,_,_,_,dG b _ hb hB h1,_,_,_,_,dG b _ hb hB h2,_,_,_,_,iY b _ hb hB h3,_,_,_,_,dH b _ hb hB false (.inr h4),ax rfl jJ⟩).run⟩
     |true=>
      have hok:aq C bL [.ag (pK (jc b i))] (vB (g6 (jc b i))) []:=iK _ (by unfold jc;simp only[];omega) (by unfold jc;simp only[];omega)
      have h5:g6 (jc b i)=false:=by
       cases h5:g6 (jc b i) with
       |false=>rfl
       |true=>rw[h1,h2,h3,h4] at h;simp[h5] at h
      refine⟨(bF b (bF b (an b (an b (i+1)).2.1).2.1).2.1).2.1,(cv _ _ _ _ ⟨_,_,_,_,iD b i hb h0,_,_,_,_,dG b _ hb hB h1,_,_,_,_,dG b _ hb hB h2,_,_,_,_,iY b _ hb hB h3,_,_,_,_,iY b _ hb hB h4,aU rfl ⟨_,hok,?_⟩⟩).run⟩;exact ax (by rw[h5];rfl) jJ
 ·exact⟨_,(cv _ _ _ _ ⟨_,_,_,_,CG b i hb false (.inr h0),_,_,_,_,iX b _ hb hB true (.inl rfl),_,_,_,_,iX b _ hb hB true (.inl rfl),_,_,_,_,dH b _ hb hB true (.inl rfl),_,_,_,_,dH b _ hb hB true (.inl rfl),ax rfl jJ⟩).run⟩
theorem CH (b:List Int) (i:Int) (hb:b.length≤1073741824) (hB:eH b) (h0:0≤i∧i<b.length) (hg:nu b i=true) (h5:g6 (jc b i)=true):aq C gf [TV.bx [TC.sub 1 (b.map aE),iI i,iB false]] (.ag (pK (jc b i))) [TV.bx [TC.sub 1 (b.map aE),iI (bF b (bF b (an b (an b (i+1)).2.1).2.1).2.1).2.1,iB false]]:=by
 unfold nu at hg;simp only[cm] at hg;obtain⟨h1,h2,h3,h4⟩:=hg;have s1:=fD b (i+1);have s2:=fD b (an b (i+1)).2.1;have hok:aq C bL [.ag (pK (jc b i))] (vB (g6 (jc b i))) []:=iK _ (by unfold jc;simp only[];omega) (by unfold jc;simp only[];omega);refine(cv _ _ _ _ ⟨_,_,_,_,iD b i hb h0,_,_,_,_,dG b _ hb hB h1,_,_,_,_,dG b _ hb hB h2,_,_,_,_,iY b _ hb hB h3,_,_,_,_,iY b _ hb hB h4,aU rfl ⟨_,hok,?_⟩⟩).run
 exact aU (by rw[h5];rfl) jJ
theorem kg (b:List Int) (i:Int) (hb:b.length≤1073741824) (hB:eH b):aq C bk [bW b,vI i] (HT (getOp b i)) []:=by
 by_cases h:(0≤i∧i<b.length)∧nu b i=true∧g6 (jc b i)=true
 ·have e:getOp b i=(jc b i,(bF b (bF b (an b (an b (i+1)).2.1).2.1).2.1).2.1,true):=by
   unfold getOp;rw[aT h.1,aT h.2.1,aT h.2.2]
  rw[e];exact(rX _ _ _ ⟨_,_,_,_,_,_,_,_,CH b i hb hB h.1 h.2.1 h.2.2,aU rfl jJ⟩).run
 ·have e:getOp b i=(Eo,0,false):=by
   unfold getOp
   split
   ·split
    ·split
     ·rename_i h1 h2 h3;exact absurd ⟨h1,h2,h3⟩ h
     ·rfl
    ·rfl
   ·rfl
  obtain⟨j,hj⟩:=EA b i hb hB e;rw[e];exact(rX _ _ _ ⟨_,_,_,_,_,_,_,_,hj,ax rfl jJ⟩).run
def Lx (s:ByteArray):List TC:=[.sc (.string s)]
theorem H8 {l:List ByteArray} {i:Int} {s:ByteArray} (h:gm l i=some s):rowAt (l.map Lx) i=some [.sc (.string s)]:=by rw[bN,h];rfl
theorem JW {l:List ByteArray} {x:ByteArray} (h:x∈l) (ha:l.all iC=true):iC x=true:=List.all_eq_true.1 ha x h
theorem aP {l:List ByteArray} {x:ByteArray} (h:x∈l) (ha:l.all (fun s=>decide (s.size≤7))=true):x.size≤7:=pP (List.all_eq_true.1 ha x h)
attribute [local semireducible] ES in
theorem ON {a:Int} (h0:0≤a) (h1:a≤9223372036854775807):ES .i64 a 12=a/12:=by
 show IntKind.i64.wrap (a.tdiv 12)=_;rw[Int.tdiv_eq_ediv_of_nonneg h0];exact IntWalk.i64_in _ aA
theorem zF (b:List Int) (i h:Int) (hi:0≤i) (hb:b.length≤1048576) (l:List ByteArray) (h0:0<l.length) (hl:l.length≤1000):bR C kf [oI b i h,.c (.sub 1 (l.map Lx))] (Dr b fun r=> ∃x,r=vS x∧x∈l):=by
 obtain⟨_,_,hr,i1,rZ,hi1,rfl,x,rfl,x0,x1⟩:=bn b i h hi hb (l.length:Int) aA;have:=x1 aA;obtain⟨y,hy⟩:=mz x0 this;exact zI _ _ _ _ _ ⟨x,_,i1,rZ,by rw[g9];exact hr,y,H8 hy,i1,rZ,hi1,rfl,y,rfl,vN hy⟩
theorem DJ (b:List Int) (i h:Int) (hi:0≤i) (hb:b.length≤1048576):bR C nB [oI b i h] (Dr b fun r=> ∃x,r=vI x∧True):=by
 refine zJ _ _ _ _ ?_;refine bw (fG b _ _ hi hb [0,1,7,255,256,4660,65535,65536,(-1),9223372036854775807,(-9223372036854775808)] cY cY) fun n3 i1 h1 hi1 hx1=> ?_;exact aX hi1 ⟨_,rfl,by first|trivial|assumption|omega⟩
theorem JX (b:List Int) (i h:Int) (hi:0≤i) (hb:b.length≤1048576) (l:List Int):bR C sY [oI b i h,bW l] (Dr b fun r=> ∃x,r=vI x∧True):=by
 refine By _ _ _ _ _ ?_;refine bw (fG b _ _ hi hb [0,0,0,1,2,(Int.ofNat (List.length (l.map aE))),(fC (Int.ofNat (List.length (l.map aE))) 1),(-1),9223372036854775807] cY cY) fun n4 i1 h1 hi1 hx1=> ?_;exact aX hi1 ⟨_,rfl,by first|trivial|assumption|omega⟩
theorem rT (b:List Int) (i h:Int) (hi:0≤i) (hb:b.length≤1048576):bR C gC [oI b i h] (Dr b fun r=> ∃x,r=vI x∧0≤x∧x≤65535):=by
 refine xe _ _ _ _ ?_;refine bw (bn b _ _ hi hb _ (by first|omega|(simp<;>omega))) fun n3 i1 h1 hi1 hx1=> ?_;refine bw (fG b _ _ hi1 hb [0,1,2,7,65535,(cR 1 n3)] cY cY) fun n7 i2 h2 hi2 GN=> ?_
 exact aX hi2 ⟨_,rfl,by
  have g2:=hx1.2 aA;have g1:=hx1.1;rw[cG aA] at GN;simp only[bg,List.not_mem_nil,or_false] at GN
  omega⟩
theorem rU (b:List Int) (i h:Int) (hi:0≤i) (hb:b.length≤1048576):bR C gz [oI b i h] (Dr b fun r=> ∃x,r=vS x∧iC x=true):=by
 refine xm _ _ _ _ ?_;refine nv (zF b _ _ hi hb [⟨#[97]⟩,⟨#[98]⟩,⟨#[99]⟩,⟨#[100]⟩,⟨#[101,53]⟩] cY cY) fun s3 i1 h1 hi1 hx1=> ?_;exact aX hi1 ⟨_,rfl,JW hx1 (by decide+kernel)⟩
theorem Bk (b:List Int) (i h:Int) (hi:0≤i) (hb:b.length≤1048576):bR C lq [oI b i h] (Dr b fun r=> ∃x,r=vS x∧x.size≤7):=by
 refine w7 _ _ _ _ ?_;refine nv (zF b _ _ hi hb [⟨#[]⟩,⟨#[97]⟩,⟨#[98,49]⟩,⟨#[115,105,120,108,101,116]⟩,⟨#[115,101,118,101,110,108,101]⟩,⟨#[65]⟩,⟨#[97,32,98]⟩,⟨#[0]⟩,⟨#[104,101,108,108,111]⟩] cY cY) fun s3 i1 h1 hi1 hx1=> ?_;exact aX hi1 ⟨_,rfl,aP hx1 (by decide+kernel)⟩
theorem GC (x:Int):0≤aD .u8 x∧aD .u8 x≤255:=by
 have h:aD .u8 x=x % 256:=by unfold aD;rw[Go.IntKind.wrap_u8]
 rw[h];omega
theorem GD (x y:Int):0≤eC .xor .u8 x y∧eC .xor .u8 x y≤255:=by
 have h:eC .xor .u8 x y=Go.IntKind.u8.wrap (((BitVec.ofInt 8 x ^^^ BitVec.ofInt 8 y).toNat:Nat):Int):=by unfold eC;rfl
 rw[h,Go.IntKind.wrap_u8];omega
theorem rV {a c:List Int} (ha:eH a) (hc:eH c):eH (a++c):=fun x hx=>(List.mem_append.1 hx).elim (ha x) (hc x)
theorem Bl {x:Int} (h:0≤x∧x≤255):eH [x]:=fun y hy=>by rw[dw.1 hy];exact h
theorem Bm:eH []:=fun x hx=>by cases hx
theorem ta {l:List Int} (h:eH l) (n:Int):eH (uh l n):=by rw[DD];exact rV h (HX n)
theorem rW {l:List Int} (h:eH l) (s:ByteArray):eH (dN l s):=by
 unfold dN
 split
 ·exact h
 ·exact rV (ta h _) (Et s)
theorem wz {l:List Int} (h:eH l) (o:oF):eH (eG l o):=by
 unfold eG
 split
 ·exact ta (ta (rW (rW (rV h (Bl (GC _))) _) _) _) _
 ·exact h
theorem EB (b:List Int) (i h:Int) (hi:0≤i) (hb:b.length≤1048576) (n:Int) (h0:0≤n) (hn:n≤1000):bR C cH [oI b i h,vI n] (Dr b fun r=> ∃l:List Int,r=TV.c (TC.sub 1 (l.map aE))∧eH l∧(l.length:Int)≤n):=by
 refine wB _ _ _ _ _ ?_
 have key: ∀(d k:Nat) (i h:Int) (l:List Int),(k:Int)+d=n→0≤i→eH l→(l.length:Int)≤k→dn C cH dg 4 0 (fH n (k:Int) (b.map aE) i h (l.map aE)) (fun x st=>jy C cH dg x st (Dr b fun r=> ∃l:List Int,r=TV.c (TC.sub 1 (l.map aE))∧eH l∧(l.length:Int)≤n)):=by
  intro d
  induction d with
  |zero=>
   intro k i h l hk hi hB hl;exact mN _ _ _ _ _ _ _ (aU iF (tf _ _ _ _ _ _ _ _ (aX hi ⟨l,rfl,hB,by omega⟩)))
  |succ d ih=>
   intro k i h l hk hi hB hl;refine mN _ _ _ _ _ _ _ (ax iF (bw (oO b _ _ hi hb) fun x i2 h2 hi2 hx=>ax ?_ ?_))
   ·rw[show dL [[TC.sc (Value.int IntKind.u8 (aD IntKind.u8 x))]]=true from ew [_],pY iF];rfl
   ·rw[cG (a:=(k:Int)) aA,show List.append (l.map aE) [[TC.sc (Value.int IntKind.u8 (aD IntKind.u8 x))]]=(l++[aD .u8 x]).map aE from by rw[pO];rfl]
    exact ih (k+1) _ _ _ aA hi2 (rV hB (Bl (GC x))) Jg
 obtain⟨d,rfl⟩: ∃d:Nat,n=(d:Int):=⟨n.toNat,by omega⟩;exact key d 0 _ _ [] cY hi Bm cY
theorem yA (b:List Int) (i h:Int) (hi:0≤i) (hb:b.length≤1048576):bR C jG [oI b i h] (Dr b fun r=> ∃x,r=TV.ag (pK x)∧x.name.size≤7∧x.to.size≤7):=by
 refine wD _ _ _ _ ?_;refine bw (fG b _ _ hi hb [1,1,1,2,2,3,4,4,4,4,4,4,5,6,7,7,8,9] cY cY) fun n3 i1 h1 hi1 hx1=> ?_;refine aN (fun e=> ?_) fun e=> ?_
 ·refine nv (zF b _ _ hi1 hb [⟨#[97]⟩,⟨#[97]⟩,⟨#[98]⟩,⟨#[99]⟩,⟨#[100]⟩] cY cY) fun s7 i2 h2 hi2 GN=> ?_
  refine aN (fun e=> ?_) fun e=> ?_
  ·refine aN (fun e=> ?_) fun e=> ?_
   ·refine bw (fG b _ _ hi2 hb [1,3,4,12,5] cY cY) fun n11 i3 h3 BG KH=> ?_
    exact aX BG ⟨⟨n3,s7,(bE),n11,0⟩,rfl,by first|exact aG _|assumption|exact aP bO (by decide+kernel)|exact aB (ai bO).2 (by decide),by first|exact aG _|assumption|exact aP bO (by decide+kernel)|exact aB (ai bO).2 (by decide)⟩
   ·refine aN (fun e=> ?_) fun e=> ?_
    ·refine nv (rU b _ _ hi2 hb) fun s15 i4 h4 Kh Me=> ?_
     refine bw (fG b _ _ Kh hb [0,0,0,1] cY cY) fun n19 i5 h5 Oa QD=> ?_;exact aX Oa ⟨⟨n3,s7,s15,0,n19⟩,rfl,by first|exact aG _|assumption|exact aP bO (by decide+kernel)|exact aB (ai bO).2 (by decide),by first|exact aG _|assumption|exact aP bO (by decide+kernel)|exact aB (ai bO).2 (by decide)⟩
    ·refine aN (fun e=> ?_) fun e=> ?_
     ·refine bw (bn b _ _ hi2 hb _ (by first|omega|(simp<;>omega))) fun n23 i6 h6 Ob QE=> ?_
      refine bw (rT b _ _ Ob hb) fun n27 i7 h7 Oc QF=> ?_;exact aX Oc ⟨⟨n3,s7,(bE),n23,n27⟩,rfl,by first|exact aG _|assumption|exact aP bO (by decide+kernel)|exact aB (ai bO).2 (by decide),by first|exact aG _|assumption|exact aP bO (by decide+kernel)|exact aB (ai bO).2 (by decide)⟩
     ·refine aN (fun e=> ?_) fun e=> ?_
      ·refine bw (bn b _ _ hi2 hb _ (by first|omega|(simp<;>omega))) fun n31 i8 h8 QG Rv=> ?_
       exact aX QG ⟨⟨n3,s7,(bE),n31,0⟩,rfl,by first|exact aG _|assumption|exact aP bO (by decide+kernel)|exact aB (ai bO).2 (by decide),by first|exact aG _|assumption|exact aP bO (by decide+kernel)|exact aB (ai bO).2 (by decide)⟩
      ·refine aN (fun e=> ?_) fun e=> ?_
       ·refine aN (fun e=> ?_) fun e=> ?_
        ·refine bw (bn b _ _ hi2 hb _ (by first|omega|(simp<;>omega))) fun n35 i9 h9 QH Rw=> ?_
         exact aX QH ⟨⟨n3,s7,(bE),n35,0⟩,rfl,by first|exact aG _|assumption|exact aP bO (by decide+kernel)|exact aB (ai bO).2 (by decide),by first|exact aG _|assumption|exact aP bO (by decide+kernel)|exact aB (ai bO).2 (by decide)⟩
        ·exact aX hi2 ⟨⟨n3,s7,(bE),0,0⟩,rfl,by first|exact aG _|assumption|exact aP bO (by decide+kernel)|exact aB (ai bO).2 (by decide),by first|exact aG _|assumption|exact aP bO (by decide+kernel)|exact aB (ai bO).2 (by decide)⟩
       ·refine aN (fun e=> ?_) fun e=> ?_
        ·refine bw (bn b _ _ hi2 hb _ (by first|omega|(simp<;>omega))) fun n39 i10 Rx Od QI=> ?_
         exact aX Od ⟨⟨n3,s7,(bE),n39,0⟩,rfl,by first|exact aG _|assumption|exact aP bO (by decide+kernel)|exact aB (ai bO).2 (by decide),by first|exact aG _|assumption|exact aP bO (by decide+kernel)|exact aB (ai bO).2 (by decide)⟩
        ·exact aX hi2 ⟨⟨n3,s7,(bE),0,0⟩,rfl,by first|exact aG _|assumption|exact aP bO (by decide+kernel)|exact aB (ai bO).2 (by decide),by first|exact aG _|assumption|exact aP bO (by decide+kernel)|exact aB (ai bO).2 (by decide)⟩
  ·refine aN (fun e=> ?_) fun e=> ?_
   ·refine bw (fG b _ _ hi2 hb [1,3,4,12,5] cY cY) fun n43 i11 Ry Oe QJ=> ?_
    exact aX Oe ⟨⟨n3,s7,(bE),n43,0⟩,rfl,by first|exact aG _|assumption|exact aP bO (by decide+kernel)|exact aB (ai bO).2 (by decide),by first|exact aG _|assumption|exact aP bO (by decide+kernel)|exact aB (ai bO).2 (by decide)⟩
   ·refine aN (fun e=> ?_) fun e=> ?_
    ·refine nv (rU b _ _ hi2 hb) fun s47 i12 h12 Of QL=> ?_
     refine bw (fG b _ _ Of hb [0,0,0,1] cY cY) fun n51 i13 Rz Og QM=> ?_;exact aX Og ⟨⟨n3,s7,s47,0,n51⟩,rfl,by first|exact aG _|assumption|exact aP bO (by decide+kernel)|exact aB (ai bO).2 (by decide),by first|exact aG _|assumption|exact aP bO (by decide+kernel)|exact aB (ai bO).2 (by decide)⟩
    ·refine aN (fun e=> ?_) fun e=> ?_
     ·refine bw (bn b _ _ hi2 hb _ (by first|omega|(simp<;>omega))) fun n55 i14 RA Oh QN=> ?_
      refine bw (rT b _ _ Oh hb) fun n59 i15 RB Oi QO=> ?_;exact aX Oi ⟨⟨n3,s7,(bE),n55,n59⟩,rfl,by first|exact aG _|assumption|exact aP bO (by decide+kernel)|exact aB (ai bO).2 (by decide),by first|exact aG _|assumption|exact aP bO (by decide+kernel)|exact aB (ai bO).2 (by decide)⟩
     ·refine aN (fun e=> ?_) fun e=> ?_
      ·refine bw (bn b _ _ hi2 hb _ (by first|omega|(simp<;>omega))) fun n63 i16 RC Oj QS=> ?_
       exact aX Oj ⟨⟨n3,s7,(bE),n63,0⟩,rfl,by first|exact aG _|assumption|exact aP bO (by decide+kernel)|exact aB (ai bO).2 (by decide),by first|exact aG _|assumption|exact aP bO (by decide+kernel)|exact aB (ai bO).2 (by decide)⟩
      ·refine aN (fun e=> ?_) fun e=> ?_
       ·refine aN (fun e=> ?_) fun e=> ?_
        ·refine bw (bn b _ _ hi2 hb _ (by first|omega|(simp<;>omega))) fun n67 i17 RD Ok QT=> ?_
         exact aX Ok ⟨⟨n3,s7,(bE),n67,0⟩,rfl,by first|exact aG _|assumption|exact aP bO (by decide+kernel)|exact aB (ai bO).2 (by decide),by first|exact aG _|assumption|exact aP bO (by decide+kernel)|exact aB (ai bO).2 (by decide)⟩
        ·exact aX hi2 ⟨⟨n3,s7,(bE),0,0⟩,rfl,by first|exact aG _|assumption|exact aP bO (by decide+kernel)|exact aB (ai bO).2 (by decide),by first|exact aG _|assumption|exact aP bO (by decide+kernel)|exact aB (ai bO).2 (by decide)⟩
       ·refine aN (fun e=> ?_) fun e=> ?_
        ·refine bw (bn b _ _ hi2 hb _ (by first|omega|(simp<;>omega))) fun n71 i18 RE Ol QU=> ?_
         exact aX Ol ⟨⟨n3,s7,(bE),n71,0⟩,rfl,by first|exact aG _|assumption|exact aP bO (by decide+kernel)|exact aB (ai bO).2 (by decide),by first|exact aG _|assumption|exact aP bO (by decide+kernel)|exact aB (ai bO).2 (by decide)⟩
        ·exact aX hi2 ⟨⟨n3,s7,(bE),0,0⟩,rfl,by first|exact aG _|assumption|exact aP bO (by decide+kernel)|exact aB (ai bO).2 (by decide),by first|exact aG _|assumption|exact aP bO (by decide+kernel)|exact aB (ai bO).2 (by decide)⟩
 ·refine aN (fun e=> ?_) fun e=> ?_
  ·refine aN (fun e=> ?_) fun e=> ?_
   ·refine bw (fG b _ _ hi1 hb [1,3,4,12,5] cY cY) fun n75 i19 RF Om QW=> ?_
    exact aX Om ⟨⟨n3,(bE),(bE),n75,0⟩,rfl,by first|exact aG _|assumption|exact aP bO (by decide+kernel)|exact aB (ai bO).2 (by decide),by first|exact aG _|assumption|exact aP bO (by decide+kernel)|exact aB (ai bO).2 (by decide)⟩
   ·refine aN (fun e=> ?_) fun e=> ?_
    ·refine nv (rU b _ _ hi1 hb) fun s79 i20 Qx On QY=> ?_
     refine bw (fG b _ _ On hb [0,0,0,1] cY cY) fun n83 i21 RG Oo QZ=> ?_;exact aX Oo ⟨⟨n3,(bE),s79,0,n83⟩,rfl,by first|exact aG _|assumption|exact aP bO (by decide+kernel)|exact aB (ai bO).2 (by decide),by first|exact aG _|assumption|exact aP bO (by decide+kernel)|exact aB (ai bO).2 (by decide)⟩
    ·refine aN (fun e=> ?_) fun e=> ?_
     ·refine bw (bn b _ _ hi1 hb _ (by first|omega|(simp<;>omega))) fun n87 i22 RH Oq Q0=> ?_
      refine bw (rT b _ _ Oq hb) fun n91 i23 h23 Ot Q1=> ?_;exact aX Ot ⟨⟨n3,(bE),(bE),n87,n91⟩,rfl,by first|exact aG _|assumption|exact aP bO (by decide+kernel)|exact aB (ai bO).2 (by decide),by first|exact aG _|assumption|exact aP bO (by decide+kernel)|exact aB (ai bO).2 (by decide)⟩
     ·refine aN (fun e=> ?_) fun e=> ?_
      ·refine bw (bn b _ _ hi1 hb _ (by first|omega|(simp<;>omega))) fun n95 i24 RI Ou Q2=> ?_
       exact aX Ou ⟨⟨n3,(bE),(bE),n95,0⟩,rfl,by first|exact aG _|assumption|exact aP bO (by decide+kernel)|exact aB (ai bO).2 (by decide),by first|exact aG _|assumption|exact aP bO (by decide+kernel)|exact aB (ai bO).2 (by decide)⟩
      ·refine aN (fun e=> ?_) fun e=> ?_
       ·refine aN (fun e=> ?_) fun e=> ?_
        ·refine bw (bn b _ _ hi1 hb _ (by first|omega|(simp<;>omega))) fun n99 i25 RJ Ov Q3=> ?_
         exact aX Ov ⟨⟨n3,(bE),(bE),n99,0⟩,rfl,by first|exact aG _|assumption|exact aP bO (by decide+kernel)|exact aB (ai bO).2 (by decide),by first|exact aG _|assumption|exact aP bO (by decide+kernel)|exact aB (ai bO).2 (by decide)⟩
        ·exact aX hi1 ⟨⟨n3,(bE),(bE),0,0⟩,rfl,by first|exact aG _|assumption|exact aP bO (by decide+kernel)|exact aB (ai bO).2 (by decide),by first|exact aG _|assumption|exact aP bO (by decide+kernel)|exact aB (ai bO).2 (by decide)⟩
       ·refine aN (fun e=> ?_) fun e=> ?_
        ·refine bw (bn b _ _ hi1 hb _ (by first|omega|(simp<;>omega))) fun n103 i26 RK Ow Q4=> ?_
         exact aX Ow ⟨⟨n3,(bE),(bE),n103,0⟩,rfl,by first|exact aG _|assumption|exact aP bO (by decide+kernel)|exact aB (ai bO).2 (by decide),by first|exact aG _|assumption|exact aP bO (by decide+kernel)|exact aB (ai bO).2 (by decide)⟩
        ·exact aX hi1 ⟨⟨n3,(bE),(bE),0,0⟩,rfl,by first|exact aG _|assumption|exact aP bO (by decide+kernel)|exact aB (ai bO).2 (by decide),by first|exact aG _|assumption|exact aP bO (by decide+kernel)|exact aB (ai bO).2 (by decide)⟩
  ·refine aN (fun e=> ?_) fun e=> ?_
   ·refine bw (fG b _ _ hi1 hb [1,3,4,12,5] cY cY) fun n107 i27 RL Ox Q5=> ?_
    exact aX Ox ⟨⟨n3,(bE),(bE),n107,0⟩,rfl,by first|exact aG _|assumption|exact aP bO (by decide+kernel)|exact aB (ai bO).2 (by decide),by first|exact aG _|assumption|exact aP bO (by decide+kernel)|exact aB (ai bO).2 (by decide)⟩
   ·refine aN (fun e=> ?_) fun e=> ?_
    ·refine nv (rU b _ _ hi1 hb) fun s111 i28 RM Oy Q6=> ?_
     refine bw (fG b _ _ Oy hb [0,0,0,1] cY cY) fun n115 i29 RN Oz Q7=> ?_;exact aX Oz ⟨⟨n3,(bE),s111,0,n115⟩,rfl,by first|exact aG _|assumption|exact aP bO (by decide+kernel)|exact aB (ai bO).2 (by decide),by first|exact aG _|assumption|exact aP bO (by decide+kernel)|exact aB (ai bO).2 (by decide)⟩
    ·refine aN (fun e=> ?_) fun e=> ?_
     ·refine bw (bn b _ _ hi1 hb _ (by first|omega|(simp<;>omega))) fun n119 i30 RO OA Q8=> ?_
      refine bw (rT b _ _ OA hb) fun n123 i31 RP OC Q9=> ?_;exact aX OC ⟨⟨n3,(bE),(bE),n119,n123⟩,rfl,by first|exact aG _|assumption|exact aP bO (by decide+kernel)|exact aB (ai bO).2 (by decide),by first|exact aG _|assumption|exact aP bO (by decide+kernel)|exact aB (ai bO).2 (by decide)⟩
     ·refine aN (fun e=> ?_) fun e=> ?_
      ·refine bw (bn b _ _ hi1 hb _ (by first|omega|(simp<;>omega))) fun n127 i32 RQ OD Ra=> ?_
       exact aX OD ⟨⟨n3,(bE),(bE),n127,0⟩,rfl,by first|exact aG _|assumption|exact aP bO (by decide+kernel)|exact aB (ai bO).2 (by decide),by first|exact aG _|assumption|exact aP bO (by decide+kernel)|exact aB (ai bO).2 (by decide)⟩
      ·refine aN (fun e=> ?_) fun e=> ?_
       ·refine aN (fun e=> ?_) fun e=> ?_
        ·refine bw (bn b _ _ hi1 hb _ (by first|omega|(simp<;>omega))) fun n131 i33 RS OE Rb=> ?_
         exact aX OE ⟨⟨n3,(bE),(bE),n131,0⟩,rfl,by first|exact aG _|assumption|exact aP bO (by decide+kernel)|exact aB (ai bO).2 (by decide),by first|exact aG _|assumption|exact aP bO (by decide+kernel)|exact aB (ai bO).2 (by decide)⟩
        ·exact aX hi1 ⟨⟨n3,(bE),(bE),0,0⟩,rfl,by first|exact aG _|assumption|exact aP bO (by decide+kernel)|exact aB (ai bO).2 (by decide),by first|exact aG _|assumption|exact aP bO (by decide+kernel)|exact aB (ai bO).2 (by decide)⟩
       ·refine aN (fun e=> ?_) fun e=> ?_
        ·refine bw (bn b _ _ hi1 hb _ (by first|omega|(simp<;>omega))) fun n135 i34 RT OF Rc=> ?_
         exact aX OF ⟨⟨n3,(bE),(bE),n135,0⟩,rfl,by first|exact aG _|assumption|exact aP bO (by decide+kernel)|exact aB (ai bO).2 (by decide),by first|exact aG _|assumption|exact aP bO (by decide+kernel)|exact aB (ai bO).2 (by decide)⟩
        ·exact aX hi1 ⟨⟨n3,(bE),(bE),0,0⟩,rfl,by first|exact aG _|assumption|exact aP bO (by decide+kernel)|exact aB (ai bO).2 (by decide),by first|exact aG _|assumption|exact aP bO (by decide+kernel)|exact aB (ai bO).2 (by decide)⟩
theorem GF (b:List Int) (i h:Int) (hi:0≤i) (hb:b.length≤1048576):bR C oM [oI b i h] (Dr b fun r=> ∃x,r=TV.ag (pK x)∧x.name.size≤7∧x.to.size≤7):=by
 refine w8 _ _ _ _ ?_;refine Gy (yA b _ _ hi hb) fun k1 i1 h1 hi1 hx1=> ?_;refine bw (bn b _ _ hi1 hb _ (by first|omega|(simp<;>omega))) fun n11 i2 h2 hi2 GN=> ?_;refine aN (fun e=> ?_) fun e=> ?_
 ·refine bw (fG b _ _ hi2 hb [0,10,3,7,(-1)] cY cY) fun n15 i3 h3 BG KH=> ?_
  exact aX BG ⟨⟨n15,k1.name,k1.to,k1.a,k1.b⟩,rfl,by first|exact hx1.1|exact hx1.2|exact aG _|assumption|exact aP bO (by decide+kernel)|exact aB (ai bO).2 (by decide),by first|exact hx1.1|exact hx1.2|exact aG _|assumption|exact aP bO (by decide+kernel)|exact aB (ai bO).2 (by decide)⟩
 ·refine aN (fun e=> ?_) fun e=> ?_
  ·refine nv (Bk b _ _ hi2 hb) fun s19 i4 h4 Kh Me=> ?_
   exact aX Kh ⟨⟨k1.kind,s19,k1.to,k1.a,k1.b⟩,rfl,by first|exact hx1.1|exact hx1.2|exact aG _|assumption|exact aP bO (by decide+kernel)|exact aB (ai bO).2 (by decide),by first|exact hx1.1|exact hx1.2|exact aG _|assumption|exact aP bO (by decide+kernel)|exact aB (ai bO).2 (by decide)⟩
  ·refine aN (fun e=> ?_) fun e=> ?_
   ·refine nv (Bk b _ _ hi2 hb) fun s23 i5 h5 Oa QD=> ?_
    exact aX Oa ⟨⟨k1.kind,k1.name,s23,k1.a,k1.b⟩,rfl,by first|exact hx1.1|exact hx1.2|exact aG _|assumption|exact aP bO (by decide+kernel)|exact aB (ai bO).2 (by decide),by first|exact hx1.1|exact hx1.2|exact aG _|assumption|exact aP bO (by decide+kernel)|exact aB (ai bO).2 (by decide)⟩
   ·refine aN (fun e=> ?_) fun e=> ?_
    ·refine bw (DJ b _ _ hi2 hb) fun n27 i6 h6 Ob QE=> ?_
     exact aX Ob ⟨⟨k1.kind,k1.name,k1.to,n27,k1.b⟩,rfl,by first|exact hx1.1|exact hx1.2|exact aG _|assumption|exact aP bO (by decide+kernel)|exact aB (ai bO).2 (by decide),by first|exact hx1.1|exact hx1.2|exact aG _|assumption|exact aP bO (by decide+kernel)|exact aB (ai bO).2 (by decide)⟩
    ·refine aN (fun e=> ?_) fun e=> ?_
     ·refine bw (DJ b _ _ hi2 hb) fun n31 i7 h7 Oc QF=> ?_
      exact aX Oc ⟨⟨k1.kind,k1.name,k1.to,k1.a,n31⟩,rfl,by first|exact hx1.1|exact hx1.2|exact aG _|assumption|exact aP bO (by decide+kernel)|exact aB (ai bO).2 (by decide),by first|exact hx1.1|exact hx1.2|exact aG _|assumption|exact aP bO (by decide+kernel)|exact aB (ai bO).2 (by decide)⟩
     ·exact aX hi2 ⟨⟨k1.kind,k1.name,k1.to,k1.a,k1.b⟩,rfl,by first|exact hx1.1|exact hx1.2|exact aG _|assumption|exact aP bO (by decide+kernel)|exact aB (ai bO).2 (by decide),by first|exact hx1.1|exact hx1.2|exact aG _|assumption|exact aP bO (by decide+kernel)|exact aB (ai bO).2 (by decide)⟩
theorem GG (b:List Int) (i h:Int) (hi:0≤i) (hb:b.length≤1048576) (l:List Int) (hB:eH l) (hl:l.length≤1000):bR C oN [oI b i h,bW l] (Dr b fun r=> ∃l2:List Int,r=TV.c (TC.sub 1 (l2.map aE))∧eH l2∧l2.length≤l.length):=by
 refine w9 _ _ _ _ _ (ax (by rw[ew,pY iF];rfl) (bw (bn b _ _ hi hb _ aA) fun x i2 h2 hi2 hx=>aN (fun e0=> ?_) fun e0=>aN (fun e1=>aN (fun e2=> ?_) fun e2=>aX hi2 ⟨l,rfl,hB,bu _⟩) fun e1=>aX hi2 ⟨l,rfl,hB,bu _⟩))
 ·refine bw (bn b _ _ hi2 hb _ (by rw[cG iF];simp<;>omega)) fun y i3 h3 BG hy=> ?_
  have Pg:=hy.2 (by rw[cG iF];simp<;>omega);rw[cG iF] at Pg;have hy1:=hy.1;refine ax (by rw[vO];simp at Pg ⊢;omega) (aX BG ⟨(l.take y.toNat).drop (0:Int).toNat,by rw[iT],fun z hz=>hB z (nX (qH hz)),by simp<;>omega⟩)
 ·have e2':0<l.length:=by simpa using e2
  refine bw (bn b _ _ hi2 hb _ iF) fun y i3 h3 BG hy=> ?_;obtain⟨a,ha⟩:=mz (l:=l) hy.1 (by have:=hy.2 iF;simpa using this)
  have hr:rowAt (l.map aE) y=some [TC.sc (Value.int IntKind.u8 a)]:=by rw[bN,ha];rfl
  refine⟨_,hr,_,hr,bw (bn b _ _ BG hb _ aA) fun z i4 h4 Kh hz=>⟨_,hr,_,hr,?_⟩⟩;have r5:setRow (l.map aE) y 0 [TC.sc (Value.int IntKind.u8 (eC BinOp.xor IntKind.u8 a (aD IntKind.u8 (cR 1 z))))]=(Ek l y (eC BinOp.xor IntKind.u8 a (aD IntKind.u8 (cR 1 z)))).map aE:=A4 ha (a':=eC BinOp.xor IntKind.u8 a (aD IntKind.u8 (cR 1 z))) rfl;rw[r5];refine aX Kh ⟨_,rfl,fun v hv=> ?_,by rw[AZ];exact bu _⟩;unfold Ek at hv
  rcases List.mem_or_eq_of_mem_set hv with hv|hv
  ·exact hB v hv
  ·rw[hv];exact GD _ _
theorem Bn (b:List Int) (hb:b.length≤1048576):bR C j9 [bW b] (fun r fs=>fs=[]∧ ∃(l:List Int) (o:oF),r= .tu [(0,[.sub 1 (l.map aE)]),(1,pK o)]∧eH l∧l.length≤10∧o.name.size≤7∧o.to.size≤7):=by
 refine tg _ _ ?_;refine Gz (DI b hb) fun h1=> ?_;refine bw (bn b _ _ (Int.le_refl 0) hb _ (by first|omega|(simp<;>omega))) fun n4 i2 h2 hi2 GN=> ?_;refine DE (EB b _ _ hi2 hb _ GN.1 (by have:=GN.2 aA;omega)) fun v3 i3 h3 BG KH=> ?_;refine Gy (GF b _ _ BG hb) fun k4 i4 h4 Kh Me=> ?_;exact⟨rfl,v3,k4,rfl,KH.1,by have:=GN.2 aA;omega,Me.1,Me.2⟩
theorem Bo (b:List Int) (hb:b.length≤1048576):bR C ke [bW b] (fun r fs=>fs=[]∧ ∃(l:List Int) (x:Int),r= .tu [(0,[.sub 1 (l.map aE)]),(0,[iI x])]∧eH l∧l.length≤1000):=by
 refine th _ _ ?_;refine Gz (DI b hb) fun h1=> ?_;refine Gy (yA b _ _ (Int.le_refl 0) hb) fun k2 i2 h2 hi2 GN=> ?_;refine⟨_,wq [] k2 (aG _) aA aA,?_⟩;refine DE (GG b _ _ hi2 hb _ (wz Bm k2) (by have:=sW [] k2;simp at*;omega)) fun v3 i3 h3 BG KH=> ?_;refine bw (JX b _ _ BG hb _) fun n17 i4 h4 Kh Me=> ?_;exact⟨rfl,v3,_,rfl,KH.1,by have:=sW [] k2;have:=KH.2;simp at*;omega⟩
theorem wA (s:ByteArray):di s s=true:=by unfold di;simp
theorem EC (b:List Int):aq C qz [bW b] (vB true) []:=by
 refine(zO _ _ ⟨_,H7 b,?_⟩).run
 by_cases hb:1048576<b.length
 ·exact ax iF jJ
 have hb:b.length≤1048576:=by omega
 obtain⟨_,_,e1,rfl,q,o,rfl,Re,N7,RU,RV⟩:=Bn b hb;obtain⟨_,_,e2,rfl,c,x,rfl,OG,hcl⟩:=Bo b hb;have yC:=sW q o;have OH:=wz Re o;obtain⟨G,hG⟩: ∃G,G=getOp c x:=⟨_,rfl⟩
 have r1:aq C bk [bW c,vI x] (HT G) []:=by rw[hG];exact kg c x aA OG
 have r2:aq C ny [bW c,vI x] (HT G) []:=by rw[hG];exact wu c x aA OG
 obtain⟨p,hp⟩: ∃p,p=eG q o:=⟨_,rfl⟩
 have rp:aq C fo [bW q,.ag (pK o)] (bW p) []:=by rw[hp];exact oP q o aA aA aA
 have o1:aq C bL [.ag (pK o)] (vB (g6 o)) []:=iK o aA aA;have o2:aq C cP [.ag (pK o)] (vB (g6 o)) []:=lJ o aA aA;have bp:aJ (p.map aE)=some p:=fE p;have bq:aJ (q.map aE)=some q:=fE q;rw[←hp] at yC OH;refine aU iF ⟨_,_,_,_,_,_,e1,_,rp,_,_,e2,_,_,_,_,_,_,_,r1,_,_,_,_,_,_,_,r2,aU cY ?_⟩
 have last: ∀Q:QV,Q (vB true) []→av (!g6 o) (∃ns31:List Int,aJ (p.map aE)=some ns31∧ ∃ns32:List Int,aJ (q.map aE)=some ns32∧Q (TV.c (iB (di (cg ns31) (cg ns32)))) [])
  (∃(n33:Int) (s34 s35:ByteArray) (n36 n37 n38:Int) (b39:Bool),aq C bk [TV.c (TC.sub 1 (p.map aE)),TV.c (iI (Int.ofNat (List.length (q.map aE))))] (TV.tu [(1,[iI n33,iS s34,iS s35,iI n36,iI n37]),(0,[iI n38]),(0,[iB b39])]) []∧
    av (gG 0 (fC (Int.ofNat (List.length (p.map aE))) 1) (Int.ofNat (List.length (p.map aE)))) (∃(n40:Int) (s41 s42:ByteArray) (n43 n44 n45:Int) (b46:Bool),aq C bk [TV.c (TC.sub 1 (aV (p.map aE) 0 (fC (Int.ofNat (List.length (p.map aE))) 1))),TV.c (iI (Int.ofNat (List.length (q.map aE))))] (TV.tu [(1,[iI n40,iS s41,iS s42,iI n43,iI n44]),(0,[iI n45]),(0,[iB b46])]) []∧
     av b39 (av (bM n33 o.kind&&(di s34 o.name&&(di s35 o.to&&(bM n36 o.a&&(bM n37 o.b&&true))))) (av (bM n38 (Int.ofNat (List.length (p.map aE)))) (Q (TV.c (iB (!b46))) []) (Q (TV.c (iB false)) [])) (Q (TV.c (iB false)) [])) (Q (TV.c (iB false)) [])) False):=fun Q hQ=>by
  cases ho:g6 o with
  |false=>
   have e:p=q:=by rw[hp];unfold eG;rw[aH (by rw[ho];simp)]
   refine ax rfl ⟨_,bp,_,bq,?_⟩;rw[e,wA];exact hQ
  |true=>
   have hg:=Eu (b:=q) ho;have hc:=Ew (b:=q) ho;rw[←hp] at hg hc;have r3:=kg p (q.length:Int) aA OH;rw[hg] at r3
   have KB:1≤p.length:=by rw[hp,rR ho];simp[W2]<;>omega
   have es:fC (Int.ofNat (List.length (p.map aE))) 1=((p.length-1:Nat):Int):=by rw[nj iF];simp;omega
   have ec:aV (p.map aE) 0 ((p.length-1:Nat):Int)=(p.take (p.length-1)).map aE:=by rw[iT];simp
   have r4:=kg (p.take (p.length-1)) (q.length:Int) (by rw[eU];omega) (fun v hv=>OH v (nX hv))
   have el:Int.ofNat (List.length (q.map aE))=(q.length:Int):=by simp
   rw[es,ec,el];refine aU rfl ⟨_,_,_,_,_,_,_,r3,ax (by rw[vO];simp<;>omega) ⟨_,_,_,_,_,_,_,r4,ax rfl (ax (by simp[wA]) (ax cY ?_))⟩⟩;rw[hc];exact hQ
 cases h1:G.2.2 with
 |false=>
  refine aU rfl ?_
  repeat' first
   |refine⟨(vB true,([]:List TV)),?_,?_,jJ⟩
   |refine⟨(vB true,([]:List TV)),?_,?_,rfl⟩
   |refine⟨_,o1,_,o2,aU cY ⟨_,o1,?_⟩⟩
   |exact last (fun u w=>(u,w)=(vB true,([]:List TV))) rfl
   |exact last _ jJ
 |true=>
  have hi:=Ex OG (i:=x) (by rw[←hG];exact h1);rw[←hG] at hi;obtain⟨g0,g1,g2,g3,g4⟩:=hi;have go:=rQ g3;have ry:aq C fo [TV.c (TC.sub 1 []),.ag (pK G.1)] (bW (eG [] G.1)) []:=oP [] G.1 (aG _) aA aA;have by1:aJ ((eG [] G.1).map aE)=some (eG [] G.1):=fE _
  have by2:aJ (aV (c.map aE) x G.2.1)=some (eG [] G.1):=by rw[iT,fE,g4];rfl
  refine ax rfl (ax (by rw[vO];simp;omega) ?_)
  have nq:(!di (cg (eG [] G.1)) (cg (eG [] G.1)))=false:=by rw[wA];rfl
  repeat' first
   |refine⟨(vB true,([]:List TV)),?_,?_,jJ⟩
   |refine⟨(vB true,([]:List TV)),?_,?_,rfl⟩
   |refine⟨_,ry,?_⟩
   |refine⟨_,by1,_,by2,aU nq ?_⟩
   |refine⟨_,by2,_,by1,aU nq ?_⟩
   |refine⟨_,by1,?_⟩
   |refine⟨_,by2,?_⟩
   |refine aU nq ?_
   |refine⟨_,o1,_,o2,aU cY ⟨_,o1,?_⟩⟩
   |exact last (fun u w=>(u,w)=(vB true,([]:List TV))) rfl
   |exact last _ jJ
theorem JY {n z:Nat} (h:n*z≤reachBytes) (hz:1≤z):n≤140737488355328:=by
 have:reachBytes≤140737488355328:=by decide
 have h2:n*1≤n*z:=Nat.mul_le_mul_left n hz;omega
theorem H9 {r:List TC} (h:sL C.tt DG r): ∃n:Int,r=aE n∧(0≤n∧n≤255):=by
 obtain⟨n,rfl,h1⟩:=h.HK (k:= .u8) DH;exact⟨n,rfl,K4 h1⟩
theorem CI {r:List TC} (h:sL C.tt mH r): ∃l:List (Int),r=[.sub 1 (l.map aE)]∧l.length≤140737488355328∧ ∀x∈l,0≤x∧x≤255:=by
 obtain⟨w,rfl,y,z⟩:=h.Ej (e:=DG) DH;obtain⟨l,rfl,hl⟩:=vM fun r hr=>H9 (y r hr);rw[g9] at z;exact⟨l,rfl,JY z (by decide+kernel),hl⟩
theorem Ia {v:TV} (h:II C.tt mH v): ∃l:List Int,v=bW l∧l.length≤140737488355328∧ ∀x∈l,0≤x∧x≤255:=by
 have ht:(C.tt mH).ti= .slice 5:=by kernel_rfl
 cases h with
 |c _ hw=>
  obtain⟨l,h1,h2,h3⟩:=CI hw
  cases h1
  exact⟨l,rfl,h2,h3⟩
 |ag h1 _=>rw[ht] at h1;cases h1
theorem ED (vs:List TV) (h:AV C.tt [mH] vs): ∃k,cJ C k qz vs (vB true) []:=by
 cases h with
 |cons h0 h=>
  cases h
  obtain⟨b,rfl,_⟩:=Ia h0;exact EC b
end Go.T.R
